/-
  Part 7 of the proof. No condition.
-/
import Derived.Test.YtdkcdlnfeodaaaaGreatDoorX06
set_option linter.unusedVariables false
set_option linter.unusedSimpArgs false
set_option maxRecDepth 100000
set_option maxHeartbeats 4000000
noncomputable section
namespace Go.Proofs.Lu
open Go.Ae Go.Ae.M
section
variable{H0 H:ae}{L M:List aC}{S:List Nat}{F:Nat→Prop}{Q:Int→Prop}{r n c:Nat}{ty:TypeId}
def Ef(ty:TypeId)(es:Nat)(P:List Value→Prop):List Value→List aC→Prop
 |[],R=>R=[]
 |v::vs,R=>∃ks gb R',R=gb++R'∧GB ty es v ks gb∧P ks∧Ef ty es P vs R'
theorem Ef.Jd{ty:TypeId}{es:Nat}{P:List Value→Prop}(h0:P []):∀n,Ef ty es P (List.replicate n (.slice none 0 0)) []
 |0=>rfl
 |n +1=>⟨[],[],[],rfl,GB.nil _ _,h0,Ef.Jd h0 n⟩
theorem Ef.mono{ty:TypeId}{es:Nat}{P P':List Value→Prop}(hp:∀ks,P ks→P' ks):∀{vs:List Value}{R:List aC},Ef ty es P vs R→Ef ty es P' vs R
 |[],R,h=>h
 |v::vs,R,⟨ks,gb,R',h1,h2,h3,h4⟩=>⟨ks,gb,R',h1,h2,hp _ h3,Ef.mono hp h4⟩
theorem Ef.at{ty:TypeId}{es:Nat}{P:List Value→Prop}:∀{vs:List Value}{R:List aC}(i:Nat),Ef ty es P vs R→(h:i<vs.length)→∃A gb B ks,R=A++(gb++B)∧GB ty es vs[i] ks gb∧P ks∧
 ∀P':List Value→Prop,(∀ks,P ks→P' ks)→∀v' ks' bJ,GB ty es v' ks' bJ→P' ks'→Ef ty es P' (vs.set i v') (A++(bJ++B))
 |v::vs,R,0,h,_=>by
  obtain⟨ks,gb,R',rfl,h1,h2,h4⟩:=h
  exact⟨[],gb,R',ks,rfl,h1,h2,fun P' hp v' ks' bJ g1 g2=>⟨ks',bJ,R',rfl,g1,g2,h4.mono hp⟩⟩
 |v::vs,R,i +1,h,hi=>by
  obtain⟨ks,gb,R',rfl,h1,h2,h4⟩:=h
  obtain⟨A,Xa,B,ks2,rfl,g1,g2,g4⟩:=Ef.at i h4 (by simpa using hi)
  refine⟨gb++A,Xa,B,ks2,by rw[List.append_assoc],g1,g2,fun P' hp v' ks' bJ k1 k2=>?_⟩
  exact⟨ks,gb,A++(bJ++B),by rw[List.append_assoc],h1,hp _ h2,g4 P' hp v' ks' bJ k1 k2⟩
 |[],R,i,h,hi=>absurd hi (by simp)
theorem Dj{cs:List Value}{i:Nat}{v:Value}(hi:i<cs.length):splice cs i [v]=cs.set i v:=by
 apply List.ext_getElem?
 intro j
 rw[iU (by show i +1≤_;omega),List.getElem?_set]
 by_cases h:i≤j∧j<i +[v].length
 ·have:i=j:=by have:=h.2;simp at this;omega
  subst this
  rw[if_pos h,if_pos rfl,if_pos hi,Nat.sub_self];rfl
 ·rw[if_neg h,if_neg (fun e=>h (by subst e;simp))]
theorem Ef.all{ty:TypeId}{es:Nat}{P:List Value→Prop}{S:List Nat}{H0 H:ae}:∀{vs:List Value}{R L:List aC},Ef ty es P vs R→SH S H0 H (R++L)→∀x∈vs,∃a n c ks,x=.slice a n c∧ks.length=n*es∧P ks∧eO (fun r=>r∈R.map (·.1)) ty H a n es ks
 |[],R,L,h,hS=>fun x hx=>nomatch hx
 |v::vs,R,L,⟨ks,gb,R',h1,h2,h3,h4⟩,hS=>by
  subst h1
  intro x hx
  rcases List.mem_cons.1 hx with rfl|hx
  ·rw[List.append_assoc]at hS
   obtain⟨a,n,c,e,hl,hf⟩:=h2.W9 (F:=fun r=>r∈(gb++R').map (·.1)) hS fun e he=>List.mem_map.2 ⟨e,List.mem_append_left _ he,rfl⟩
   exact⟨a,n,c,ks,e,hl,h3,hf⟩
  ·rw[List.append_assoc]at hS
   obtain⟨a,n,c,ks',e,hl,hp,hf⟩:=Ef.all h4 (SH.drop hS) x hx
   refine⟨a,n,c,ks',e,hl,hp,hf.wk fun r hr=>?_⟩
   obtain⟨e,he,rfl⟩:=List.mem_map.1 hr
   exact List.mem_map.2 ⟨e,List.mem_append_right _ he,rfl⟩
def NsP(K:Nat)(Q:Int→Prop)(ks:List Value):Prop:=ks.length≤K∧∀x∈ks,∃z:Int,x=vi z∧Q z
def Bj(b K:Nat)(Q:Int→Prop)(n:Nat)(H:ae)(v:Value):Prop:=∃a c vs,v=.slice a n c∧eO (b≤·) 23 H a n 1 vs∧∀x∈vs,Di b K Q H x
theorem JL(hw:Wf H){b:Nat}{ra na:Option Addr}{rn rc nn nc r:Nat}{rcs bY:List Value}{m:List (ByteArray×Value)}(hG:Gr b H ra rn rcs na nn bY)(hm:jJ H r m)(hnm:GJ rn m)(hB:∀j,j<rn→0≤rootOf rcs j∧rootOf rcs j<nn):
 ak Pg X 154 [gV ra rn rc na nn nc,.map (some r)] H (Q1 (fun v H'=>Bj H.next 500000 (VX rn) rn H' v) H):=by
 have hS:=SH.refl hw
 have g2:=hG.2.1
 refine ce [0,1,2,4,5,6,7,9,15,16,17,28,29,30] ?_;refine tl ?_
 refine hS.box rfl fun H1 rg hS=>?_
 repeat(first|(refine hS.az ?_)|(refine hS.a_ ?_))
 refine hS.mkS (Nat.le_refl _) aa fun H2 rl hS=>?_
 rw[gD]at hS
 refine hS.a_ ?_;refine hS.az ?_
 refine lp7 6 7 9 17 28 29 30 (I:=fun m' x6 x7 x9 jc x28 x29 x30 H'=>∃(i:Nat)(vs:List Value)(R:List aC),jc=vn i∧i +m'=rn∧vs.length=rn∧Ef 3 1 (NsP (4001*i) (VX rn)) vs R∧SH [] H H' ((rl,23,vs)::(rg,69,[.slice ra rn rc,.slice na nn nc])::R)) ?_ rn ⟨0,_,[],rfl,aa,by simp,Ef.Jd ⟨Nat.zero_le _,fun x h=>nomatch h⟩ rn,hS⟩
 clear hS
 rintro m' x6 x7 x9 jc x28 x29 x30 eP H3 ⟨i,vs,R,rfl,him,hvl,hR,hS⟩
 refine tl ?_
 refine au ?_
 refine ah (fun hc=>?_) (fun hc=>?_)
 rotate_left
 ·refine tl ?_
  obtain rfl:i=rn:=by omega
  have hb:∀e:aC,e∈(rl,23,vs)::(rg,69,[.slice ra i rc,.slice na nn nc])::R→H.next≤e.1:=fun e he=>hS.wm he
  refine rr ?_;refine⟨⟨_,_,vs,rfl,?_,fun x hx=>?_⟩,hS.ext⟩
  ·exact eO.one hS (List.mem_cons_self ..) aa (hb _ (List.mem_cons_self ..))
  ·obtain⟨a,n,c,ks,e,hl,hp,hf⟩:=Ef.all (L:=[]) hR (by rw[List.append_nil];exact SH.drop (A:=[_,_]) hS) x hx
   refine⟨a,n,c,ks,e,hf.wk (fun r hr=>?_),by have:=hp.1;omega,hp.2⟩
   obtain⟨e,he,rfl⟩:=List.mem_map.1 hr
   exact hb e (List.mem_cons_of_mem _ (List.mem_cons_of_mem _ he))
 obtain⟨r1,o1,mZ,u1,f1,w1,c1,a1,e1,hl1,o7,ji,hsz,_⟩:=hG.ru (i:=i) aa rc
 rw[e1]
 refine au ?_
 refine hS.mM o7 hl1 ?_
 refine hS.jI rfl rfl rfl fun H4 ru hS hx4=>?_
 have hS:SH [] H H4 ((ru,141,kQ mZ u1 f1 w1 c1 (rootOf rcs i) a1)::(rl,23,vs)::(rg,69,[.slice ra rn rc,.slice na nn nc])::R):=hS
 repeat(first|(refine hS.az ?_)|(refine hS.a_ ?_))
 have uY:∀x9 x28 x29 x30 vs R pO H5,vs.length=rn→Ef 3 1 (NsP (4001*(i +1)) (VX rn)) vs R→SH [] H H5 ((rl,23,vs)::(rg,69,[.slice ra rn rc,.slice na nn nc])::R)→∃m_1,m_1<m'∧rW (gV ra rn rc na nn nc) (.map (some r)) (.pointer (some ⟨rg,0,none⟩)) (.slice none 0 0) (.slice (some ⟨rl,0,none⟩) rn rn) (.slice ra rn rc) (vn rn) (fun m' x6 x7 x9 jc x28 x29 x30 H'=>∃(i:Nat)(vs:List Value)(R:List aC),jc=vn i∧i +m'=rn∧vs.length=rn∧Ef 3 1 (NsP (4001*i) (VX rn)) vs R∧SH [] H H' ((rl,23,vs)::(rg,69,[.slice ra rn rc,.slice na nn nc])::R)) m_1 (rJ (gV ra rn rc na nn nc) (.map (some r)) (.pointer (some ⟨rg,0,none⟩)) (.slice none 0 0) (.slice (some ⟨rl,0,none⟩) rn rn) (vn i) (.pointer (some ⟨ru,0,none⟩)) x9 (.slice ra rn rc) (vn rn) (vi ((i:Int) +1)) x28 x29 x30 pO H5):=by
  intro x9 x28 x29 x30 vs R pO H5 h1 h2 h3
  exact⟨rn -(i +1),aa,_,_,_,_,_,_,_,_,_,rfl,i +1,vs,R,iC,aa,h1,h2,h3⟩
 refine aA (fun hb=>?_) (fun hb=>?_)
 ·refine ay ?_
  exact uY _ _ _ _ vs R _ _ hvl (hR.mono fun ks h=>⟨by have:=h.1;omega,h.2⟩) (SH.drop (A:=[_]) hS)
 refine hS.bL ?_
 have hx5:=hS.ext
 refine ak.mono (Ql hS.wf (hG.ex hx5) (hm.ex hx5 (fun h=>nomatch h)) hnm aa hB) ?_
 rintro v H5 ⟨⟨ua,un,uc,ucs,rfl,hu,hun,ad4⟩,hx⟩
 have hlt:=hS.lt
 have hS:=SH.drop (A:=[_]) (hS.call hx)
 refine au ?_
 have hS0:=hS
 have hS:=hS0.base
 have hS5:∀q∈((rl,23,vs)::(rg,69,[.slice ra rn rc,.slice na nn nc])::R).map (fun e:aC=>e.1),¬H4.next≤q∨¬qA H5 q 3:=fun q hq=>.inl (by have:=hlt q (List.mem_cons_of_mem _ hq);omega)
 refine lp2 9 30 (I:=fun m'' x9 x30 H'=>∃(k:Nat)(vs':List Value)(R':List aC),x30=vn k∧k +m''=un∧vs'.length=rn∧Ef 3 1 (NsP (4001*i +k) (VX rn)) vs' R'∧SH (((rl,23,vs)::(rg,69,[.slice ra rn rc,.slice na nn nc])::R).map (fun e:aC=>e.1)) H5 H' ((rl,23,vs')::(rg,69,[.slice ra rn rc,.slice na nn nc])::R')) ?_ un ⟨0,vs,R,rfl,aa,hvl,hR.mono fun ks h=>⟨by have:=h.1;omega,h.2⟩,hS⟩
 clear hS
 rintro m'' y9 y30 Eg H6 ⟨k,vs',R',rfl,hkm,DW,hR',hS⟩
 refine tl ?_
 refine au ?_
 refine ah (fun hc2=>?_) (fun hc2=>?_)
 rotate_left
 ·refine tl ?_
  refine au ?_
  refine ay ?_
  exact uY _ _ _ _ vs' R' _ _ DW (hR'.mono fun ks h=>⟨by have:=h.1;omega,h.2⟩) (hS0.over hS)
 have hkn:k<un:=by omega
 have hu6:=hu.stay hS.ext hS5
 obtain⟨r',o',hl,e',hr',Df⟩:=hu6.1.Qc hkn uc
 rw[e']
 refine au ?_
 obtain⟨z,hz,hz0,hz1⟩:=ad4 _ (List.getElem_mem hl)
 obtain⟨z,rfl⟩:∃j:Nat,z=j:=⟨z.toNat,aa⟩
 rw[hz]at Df
 refine ME.ld Df ?_
 refine hS.a_ ?_
 obtain⟨r2,o2,nm2,u2,f2,w2,c2,a2,e2,hl2,Qh,kV,_,_⟩:=(hG.ex (hS0.over hS).ext).ru (i:=z) aa rc
 rw[e2]
 refine au ?_
 refine ME.ld (kV 1 _ aa rfl) ?_
 refine au ?_
 refine aA (fun hb2=>?_) (fun hb2=>?_)
 rotate_left
 ·refine ay ?_
  exact⟨un -(k +1),aa,_,_,_,_,rfl,k +1,vs',R',iC,aa,DW,hR'.mono fun ks h=>⟨by have:=h.1;omega,h.2⟩,hS⟩
 have hil:i<vs'.length:=by omega
 refine PU.of (iF aa) ?_
 rw[Nat.zero_add]
 refine hS.ld 0 rfl (List.getElem?_eq_getElem hil) ?_
 obtain⟨A,gb,B,ks,rfl,hg,hks,hput⟩:=hR'.at i hil
 refine hS.bS rfl rfl rfl aa fun H7 rx Db=>?_
 have Db:=Db.perm (List.Perm.cons _ (rO ((rl,23,vs')::(rg,69,[.slice ra rn rc,.slice na nn nc])::A) gb B))
 obtain⟨v',H8,bJ,e8,hg',VV,_⟩:=hg.app (m:=0) (cx:=1) Db aa rfl rfl aa (by have:=hks.1;omega)
 refine ME.of e8 ?_
 refine PU.of (iF aa) ?_
 rw[Nat.zero_add]
 have VV:SH _ H5 H8 ((rl,23,vs')::(rg,69,[.slice ra rn rc,.slice na nn nc])::(A++(bJ++B))):=VV.perm (rO bJ ((rl,23,vs')::(rg,69,[.slice ra rn rc,.slice na nn nc])::A) B)
 obtain⟨va,Xq,vc,rfl⟩:∃a n c,v'=.slice a n c:=by rcases hg' with⟨rfl,_⟩|⟨r,n,aF,rfl,_⟩<;>exact⟨_,_,_,rfl⟩
 refine VV.st 0 rfl rfl (by show i +1≤_;omega) rfl fun H9 UL=>?_
 refine ay ?_
 refine⟨un -(k +1),aa,_,_,_,_,rfl,k +1,vs'.set i (.slice va Xq vc),A++(bJ++B),iC,aa,by rw[List.length_set];exact DW,?_,?_⟩
 ·refine hput _ (fun ks h=>⟨by have:=h.1;omega,h.2⟩) _ _ _ hg' ⟨?_,fun x hx=>?_⟩
  ·rw[List.length_append]
   have:=hks.1
   show ks.length +1≤_
   omega
  ·rcases List.mem_append.1 hx with h|h
   ·exact hks.2 x h
   ·have h:x∈[vn z]:=h
    exact⟨z,List.mem_singleton.1 h,aa,aa⟩
 ·have UL:SH _ H5 H9 ((rl,23,splice vs' i [.slice va Xq vc])::(rg,69,[.slice ra rn rc,.slice na nn nc])::(A++(bJ++B))):=UL
  rwa [Dj hil]at UL
end
section
open Go.Ae
abbrev Ed:=Nat×Nat×Nat
structure At where
 nm:List ByteArray
 st:List Nat
 sp:List Nat
 ow:List Nat
 eg:List (List Ed)
 ty:Nat
namespace At
def nr(A:At):Nat:=A.nm.length
def ns(A:At):Nat:=A.ow.length
def S(A:At)(r:Nat):Nat:=A.st[r]?.getD 0
def P(A:At)(r:Nat):Nat:=A.sp[r]?.getD 0
def O(A:At)(s:Nat):Nat:=A.ow[s]?.getD 0
def E(A:At)(s:Nat):List Ed:=A.eg[s]?.getD []
def acT(A:At)(e:Ed):Prop:=e.1=0∨(e.1=1∧e.2.1<A.ty)∨(e.1=2∧e.2.1<A.nr)
structure Ok(A:At):Prop where
 pos:0<A.nr
 Oj:A.st.length=A.nr
 QW:A.sp.length=A.nr
 pz:A.eg.length=A.ns
 big:A.ns≤4000
 few:A.nr≤1000
 s:∀r,r<A.nr→A.S r<A.ns∧A.O (A.S r)=r
 p:∀r,r<A.nr→A.P r<A.ns∧A.O (A.P r)=r
 o:∀s,s<A.ns→A.O s<A.nr
 e:∀s,s<A.ns→∀e∈A.E s,e.2.2<A.ns∧A.O e.2.2=A.O s∧A.acT e
 tot:(A.eg.map List.length).sum≤100000
theorem JM{A:At}{s:Nat}(h:A.eg.length=A.ns)(hs:¬s<A.ns):A.E s=[]:=by
 unfold E
 rw[List.getElem?_eq_none aa];rfl
inductive Mk(A:At)(tok:Bool):Nat→Prop
 |stop (r:Nat):r<A.nr→Mk A tok (A.P r)
 |edge (s:Nat) (e:Ed):e∈A.E s→(e.1=1→tok=true)→(e.1=2→Mk A tok (A.S e.2.1))→Mk A tok e.2.2→Mk A tok s
inductive Rc(A:At)(f:Nat→Prop)(w:Ed→Prop):Nat→Prop
 |base (s:Nat):f s→Rc A f w s
 |step (s:Nat) (e:Ed):Rc A f w s→e∈A.E s→w e→Rc A f w e.2.2
def leads(A:At)(e:Ed):Prop:=A.Mk true e.2.2∧(e.1=2→A.Mk true (A.S e.2.1))
def VN(A:At)(s:Nat):Prop:=∃r,r<A.nr∧s=A.S r
def met(A:At)(s:Nat):Prop:=A.Rc A.VN A.leads s
open Classical in
def Ol(A:At)(s:Nat):List Ed:=if A.met s then(A.E s).filter (fun e=>decide (A.leads e))else[]
def trim(A:At):At:={A with eg:=(List.range A.ns).map A.Ol}
variable{A:At}
theorem aaB(h:A.Ok)(s:Nat):A.trim.E s=A.Ol s:=by
 show((List.range A.ns).map A.Ol)[s]?.getD []=_
 by_cases hs:s<A.ns
 ·rw[List.getElem?_map,List.getElem?_range hs];rfl
 ·rw[List.getElem?_eq_none (by simpa using hs)]
  show[]=A.Ol s
  unfold Ol
  rw[JM h.pz hs]
  split<;>rfl
theorem Xz{s:Nat}{e:Ed}:e∈A.Ol s↔A.met s∧e∈A.E s∧A.leads e:=by
 classical
 unfold Ol
 split
 ·next h=>simp[h]
 ·next h=>simp[h]
theorem um(h:A.Ok){s:Nat}{e:Ed}:e∈A.trim.E s↔A.met s∧e∈A.E s∧A.leads e:=by rw[aaB h];exact Xz
theorem aaC{l:List (List Ed)}{f:Nat→List Ed}(hf:∀i(h:i<l.length),(f i).length≤(l[i]).length){n:Nat}(hn:n≤l.length):(((List.range n).map f).map List.length).sum≤(l.map List.length).sum:=by
 have key:∀n,n≤l.length→(((List.range n).map f).map List.length).sum≤((l.take n).map List.length).sum:=by
  intro n
  induction n with
  |zero=>intro _;simp
  |succ n ih=>
   intro h
   have h1:=ih aa
   have h2:=hf n aa
   rw[List.range_succ,List.take_add_one,List.getElem?_eq_getElem aa]
   simp only[List.map_append,List.sum_append,List.map_cons,List.map_nil,List.sum_cons,List.sum_nil,Option.toList]at h1⊢
   omega
 refine Nat.le_trans (key n hn) ?_
 have:(l.map List.length).sum=((l.take n).map List.length).sum +((l.drop n).map List.length).sum:=by
  rw[←List.sum_append,←List.map_append,List.take_append_drop]
 omega
def pre(A:At)(i:Nat):Nat:=((A.eg.take i).map List.length).sum
theorem wO(h:A.Ok)(i:Nat):A.pre i≤100000:=by
 have:(A.eg.map List.length).sum=A.pre i +((A.eg.drop i).map List.length).sum:=by
  unfold pre
  rw[←List.sum_append,←List.map_append,List.take_append_drop]
 have:=h.tot
 omega
theorem uq(h:A.Ok){i:Nat}(hi:i<A.ns):A.pre (i +1)=A.pre i +(A.E i).length:=by
 unfold pre E
 have:i<A.eg.length:=by rw[h.pz];exact hi
 rw[List.take_add_one,List.getElem?_eq_getElem this]
 simp only[List.map_append,List.sum_append,List.map_cons,List.map_nil,List.sum_cons,List.sum_nil,Option.toList,Option.getD_some];omega
theorem Ok.len(h:A.Ok)(s:Nat):(A.E s).length≤100000:=by
 by_cases hs:s<A.ns
 ·have:=uq h hs
  have:=wO h (s +1)
  omega
 ·rw[JM h.pz hs];simp
theorem GM(h:A.Ok):A.trim.Ok where
 pos:=h.pos
 Oj:=h.Oj
 QW:=h.QW
 pz:=by show((List.range A.ns).map A.Ol).length=A.ns;simp
 big:=h.big
 few:=h.few
 s:=h.s
 p:=h.p
 o:=h.o
 e:=fun s hs e he=>h.e s hs e ((um h).1 he).2.1
 tot:=Nat.le_trans (aaC (fun i hi=>by
  classical
  have:A.E i=A.eg[i]:=by unfold E;rw[List.getElem?_eq_getElem hi];rfl
  unfold Ol
  split
  ·rw[this];exact List.length_filter_le _ _
  ·exact Nat.zero_le _) (Nat.le_of_eq h.pz.symm)) h.tot
theorem Mk.mono{tok:Bool}{s:Nat}(h:A.Mk tok s):A.Mk true s:=by
 induction h with
 |stop r hr=>exact .stop r hr
 |edge s e he _ _ _ ih1 ih2=>exact .edge s e he (fun _=>rfl) ih1 ih2
theorem JN{s:Nat}{e:Ed}(h:A.met s)(he:e∈A.E s)(hl:A.leads e):A.met e.2.2:=.step s e h he hl
theorem acU{r:Nat}(hr:r<A.nr):A.met (A.S r):=.base _ ⟨r,hr,rfl⟩
theorem Ok.call(h:A.Ok){s:Nat}{e:Ed}(he:e∈A.E s)(hk:e.1=2):e.2.1<A.nr:=by
 have hs:s<A.ns:=by
  apply Decidable.byContradiction
  intro hs
  rw[JM h.pz hs]at he;cases he
 obtain⟨_,_,h3⟩:=h.e s hs e he
 rcases h3 with h3|h3|h3<;>omega
theorem Ok.lt(h:A.Ok){s:Nat}{e:Ed}(he:e∈A.E s):s<A.ns:=by
 apply Decidable.byContradiction
 intro hs
 rw[JM h.pz hs]at he;cases he
theorem Mk.trim(h:A.Ok){tok:Bool}{s:Nat}(hm:A.Mk tok s):A.met s→A.trim.Mk tok s:=by
 induction hm with
 |stop r hr=>exact fun _=>.stop (A:=A.trim) r hr
 |edge s e he ht hc h2 ih1 ih2=>
  intro hs
  have hl:A.leads e:=⟨h2.mono,fun hk=>(hc hk).mono⟩
  exact .edge (A:=A.trim) s e ((um h).2 ⟨hs,he,hl⟩) ht (fun hk=>ih1 hk (acU (h.call he hk))) (ih2 (JN hs he hl))
theorem UM(h:A.Ok){w:Ed→Prop}(hw:∀s e,e∈A.trim.E s→w e){s:Nat}:A.trim.Rc A.VN w s↔A.met s:=by
 constructor
 ·intro hs
  induction hs with
  |base s hs=>exact .base s hs
  |step s e _ he _ ih=>
   obtain⟨h1,h2,h3⟩:=(um h).1 he
   exact .step s e ih h2 h3
 ·intro hs
  induction hs with
  |base s hs=>exact .base s hs
  |step s e h0 he hl ih=>
   have:e∈A.trim.E s:=(um h).2 ⟨h0,he,hl⟩
   exact .step s e ih this (hw s e this)
def JO(A:At)(e:Ed):Prop:=e.1=0∨(e.1=2∧A.Mk false (A.S e.2.1))
def fre(A:At)(s:Nat):Nat→Prop:=A.Rc (·=s) A.JO
theorem Rc.own(h:A.Ok){f:Nat→Prop}{w:Ed→Prop}{k:Nat}(hf:∀s,f s→s<A.ns∧A.O s=k){s:Nat}(hs:A.Rc f w s):s<A.ns∧A.O s=k:=by
 induction hs with
 |base s hs=>exact hf s hs
 |step s e _ he _ ih=>
  obtain⟨h1,h2,_⟩:=h.e s ih.1 e he
  exact⟨h1,h2.trans ih.2⟩
theorem Mk.own(h:A.Ok){tok:Bool}{s:Nat}(hm:A.Mk tok s):s<A.ns:=by
 cases hm with
 |stop r hr=>exact(h.p r hr).1
 |edge _ e he _ _ _=>exact h.lt he
end At
end
section
open Go.Ae
def on(mk:List Bool)(s:Nat):Prop:=mk[s]?=some true
theorem Zn{mk:List Bool}{s:Nat}(h:on mk s):s<mk.length:=(List.getElem?_eq_some_iff.1 h).1
theorem wP{mk:List Bool}{s t:Nat}(hs:s<mk.length):on (mk.set s true) t↔s=t∨on mk t:=by
 unfold on
 rw[List.getElem?_set]
 by_cases h:s=t
 ·subst h;simp[hs]
 ·simp[h]
def off:List Bool→Nat
 |[]=>0
 |b::l=>(if b=true then 0 else 1) +off l
theorem GN:∀{mk:List Bool}{s:Nat},mk[s]?=some false→off (mk.set s true) +1=off mk
 |[],s,h=>by simp at h
 |b::l,0,h=>by
  simp at h;subst h
  simp[off];omega
 |b::l,s +1,h=>by
  have:=GN (mk:=l) (s:=s) (by simpa using h)
  simp only[List.set_cons_succ,off]
  omega
theorem Bl:∀n,off (List.replicate n false)=n
 |0=>rfl
 |n +1=>by
  have:=Bl n
  rw[List.replicate_succ]
  simp[off,this];omega
structure MJ(n:Nat)(Q P:Nat→Prop)(mk:List Bool)(nx:List Nat):Prop where
 len:mk.length=n
 snd:∀s,on mk s→Q s
 cov:∀s,on mk s→s∈nx∨P s
 pon:∀s,P s→on mk s
 Zo:∀s∈nx,on mk s
def mu(mk:List Bool)(nx:List Nat):Nat:=2*off mk +nx.length
variable{n:Nat}{Q P:Nat→Prop}{mk:List Bool}{nx:List Nat}{s:Nat}
theorem MJ.nil(n:Nat)(Q:Nat→Prop):MJ n Q (fun _=>False) (List.replicate n false) []:=by
 refine⟨by simp,?_,?_,fun s h=>h.elim,fun s h=>nomatch h⟩<;>
 ·intro s h
  unfold on at h
  rw[List.getElem?_replicate]at h
  split at h<;>simp at h
theorem MJ.mark(h:MJ n Q P mk nx)(hs:mk[s]?=some false)(hq:Q s):MJ n Q P (mk.set s true) (nx++[s])∧on (mk.set s true) s∧(∀t,on mk t→on (mk.set s true) t)∧mu (mk.set s true) (nx++[s]) +1=mu mk nx:=by
 have hl:=(List.getElem?_eq_some_iff.1 hs).1
 refine⟨⟨by rw[List.length_set];exact h.len,fun t ht=>?_,fun t ht=>?_,fun t ht=>(wP hl).2 (.inr (h.pon t ht)),fun t ht=>?_⟩,(wP hl).2 (.inl rfl),fun t ht=>(wP hl).2 (.inr ht),?_⟩
 ·rcases(wP hl).1 ht with rfl|ht
  ·exact hq
  ·exact h.snd t ht
 ·rcases(wP hl).1 ht with rfl|ht
  ·exact .inl (by simp)
  ·exact(h.cov t ht).imp_left fun g=>List.mem_append_left _ g
 ·rcases List.mem_append.1 ht with ht|ht
  ·exact(wP hl).2 (.inr (h.Zo t ht))
  ·exact(wP hl).2 (.inl (List.mem_singleton.1 ht).symm)
 ·have:=GN hs
  unfold mu
  rw[List.length_append]
  show _ +(nx.length +1) +1=_
  omega
theorem MJ.pop(h:MJ n Q P mk (nx++[s])):MJ n Q (fun t=>P t∨t=s) mk nx:=by
 refine⟨h.len,h.snd,fun t ht=>?_,fun t ht=>?_,fun t ht=>h.Zo t (List.mem_append_left _ ht)⟩
 ·rcases h.cov t ht with h1|h1
  ·rcases List.mem_append.1 h1 with h1|h1
   ·exact .inl h1
   ·exact .inr (.inr (List.mem_singleton.1 h1))
  ·exact .inr (.inl h1)
 ·rcases ht with ht|rfl
  ·exact h.pon t ht
  ·exact h.Zo _ (by simp)
theorem UN(mk:List Bool)(nx:List Nat)(s:Nat):mu mk nx +1=mu mk (nx++[s]):=by
 unfold mu;rw[List.length_append];rfl
theorem MJ.wk{P':Nat→Prop}(h:MJ n Q P mk nx)(hp:∀t,P t↔P' t):MJ n Q P' mk nx:=
 ⟨h.len,h.snd,fun t ht=>(h.cov t ht).imp_right (hp t).1,fun t ht=>h.pon t ((hp t).2 ht),h.Zo⟩
namespace At
variable{A:At}{tok:Bool}
def Om(tok:Bool)(e:Ed):Prop:=e.1=1→tok=true
def Clo(A:At)(tok:Bool)(P:Nat→Prop)(mk:List Bool):Prop:=∀s e,e∈A.E s→Om tok e→P e.2.2→(e.1=2→P (A.S e.2.1))→on mk s
theorem Clo.step{cur:Nat}{mk':List Bool}(h:A.Clo tok P mk)(hm:∀t,on mk t→on mk' t)
 (h1:∀s e,e∈A.E s→Om tok e→e.2.2=cur→(e.1=2→P (A.S e.2.1)∨A.S e.2.1=cur)→on mk' s)
 (h2:∀s e,e∈A.E s→e.1=2→A.S e.2.1=cur→(P e.2.2∨e.2.2=cur)→on mk' s):A.Clo tok (fun t=>P t∨t=cur) mk':=by
 intro s e he hk ht hc
 rcases ht with ht|ht
 ·by_cases hc2:e.1=2∧A.S e.2.1=cur
  ·exact h2 s e he hc2.1 hc2.2 (.inl ht)
  ·refine hm s (h s e he hk ht fun hk2=>?_)
   rcases hc hk2 with h3|h3
   ·exact h3
   ·exact absurd ⟨hk2,h3⟩ hc2
 ·exact h1 s e he hk ht hc
theorem XA(ho:A.Ok)(h:MJ A.ns (A.Mk tok) P mk [])(hc:A.Clo tok P mk)(hp:∀r,r<A.nr→on mk (A.P r))(s:Nat):on mk s↔A.Mk tok s:=by
 refine⟨h.snd s,fun hm=>?_⟩
 have hP:∀t,on mk t→P t:=fun t ht=>(h.cov t ht).resolve_left (fun g=>nomatch g)
 induction hm with
 |stop r hr=>exact hp r hr
 |edge s e he ht _ _ ih1 ih2=>exact hc s e he ht (hP _ ih2) (fun hk=>hP _ (ih1 hk))
theorem On{f:Nat→Prop}{w:Ed→Prop}(h:MJ A.ns (A.Rc f w) P mk [])(hc:∀s e,P s→e∈A.E s→w e→on mk e.2.2)(hf:∀s,f s→on mk s)(s:Nat):on mk s↔A.Rc f w s:=by
 refine⟨h.snd s,fun hm=>?_⟩
 have hP:∀t,on mk t→P t:=fun t ht=>(h.cov t ht).resolve_left (fun g=>nomatch g)
 induction hm with
 |base s hs=>exact hf s hs
 |step s e _ he hw ih=>exact hc s e (hP _ ih) he hw
end At
end
section
open Go.Ae
namespace At
variable{A A' A2:At}{lw k k2 c c2 s:Nat}{e:Ed}
def fr(A:At):At:={A with ow:=A.ow++[A.nr -1],eg:=A.eg++[[]]}
def pu(A:At)(s:Nat)(e:Ed):At:={A with eg:=A.eg.set s (A.E s++[e])}
def tot(A:At):Nat:=(A.eg.map List.length).sum
def Zp(lw ty:Nat)(e:Ed):Prop:=e.1=0∨(e.1=1∧e.2.1<ty)∨(e.1=2∧e.2.1<lw)
structure Bu(lw:Nat)(A:At):Prop where
 pz:A.eg.length=A.ns
 o:∀s,s<A.ns→A.O s<A.nr
 e:∀s,s<A.ns→∀e∈A.E s,e.2.2<A.ns∧A.O e.2.2=A.O s∧Zp lw A.ty e
structure Gw(A A':At)(k c:Nat):Prop where
 nm:A'.nm=A.nm
 st:A'.st=A.st
 sp:A'.sp=A.sp
 ty:A'.ty=A.ty
 ow:A'.ow=A.ow++List.replicate k (A.nr -1)
 tt:A'.tot=A.tot +c
theorem Gw.refl(A:At):Gw A A 0 0:=⟨rfl,rfl,rfl,rfl,by simp,rfl⟩
theorem Gw.nr(h:Gw A A' k c):A'.nr=A.nr:=congrArg List.length h.nm
theorem Gw.ns(h:Gw A A' k c):A'.ns=A.ns +k:=by
 unfold At.ns;rw[h.ow];simp
theorem Gw.trans(h:Gw A A' k c)(h2:Gw A' A2 k2 c2):Gw A A2 (k +k2) (c +c2):=
 ⟨h2.nm.trans h.nm,h2.st.trans h.st,h2.sp.trans h.sp,h2.ty.trans h.ty,by rw[h2.ow,h.ow,h.nr,List.append_assoc,List.replicate_append_replicate],by rw[h2.tt,h.tt,Nat.add_assoc]⟩
theorem Gw.cast(h:Gw A A' k c)(hk:k=k2)(hc:c=c2):Gw A A' k2 c2:=by subst hk;subst hc;exact h
theorem Gw.O(h:Gw A A' k c)(hs:s<A.ns):A'.O s=A.O s:=by
 unfold At.O
 rw[h.ow,List.getElem?_append_left hs]
def cur(A:At)(s:Nat):Prop:=s<A.ns∧A.O s=A.nr -1
theorem cur.gw(h:A.cur s)(g:Gw A A' k c):A'.cur s:=⟨by rw[g.ns];have:=h.1;omega,by rw[g.O h.1,g.nr];exact h.2⟩
theorem Gw.fr(A:At):Gw A A.fr 1 0:=⟨rfl,rfl,rfl,rfl,rfl,by unfold At.tot At.fr;simp⟩
theorem UO(A:At):A.fr.cur A.ns:=by
 refine⟨by rw[(Gw.fr A).ns];omega,?_⟩
 show(A.ow++[A.nr -1])[A.ow.length]?.getD 0=_
 rw[List.getElem?_append_right (Nat.le_refl _),Nat.sub_self];rfl
theorem ad5(hl:A.eg.length=A.ns)(s:Nat):A.fr.E s=A.E s:=by
 show(A.eg++[[]])[s]?.getD []=_
 unfold E
 rcases Nat.lt_or_ge s A.eg.length with h|h
 ·rw[List.getElem?_append_left h]
 ·rw[List.getElem?_append_right h,List.getElem?_eq_none (by omega:A.eg.length≤s)]
  cases s -A.eg.length<;>rfl
theorem Bu.fr(h:Bu lw A)(hp:1≤A.nr):Bu lw A.fr:=by
 have g:=Gw.fr A
 have hns:=g.ns
 refine⟨?_,fun s hs=>?_,fun s hs e he=>?_⟩
 ·show(A.eg++[[]]).length=_
  rw[List.length_append,hns,h.pz];rfl
 ·rcases Nat.lt_or_ge s A.ns with h1|h1
  ·rw[g.O h1,g.nr];exact h.o s h1
  ·obtain rfl:s=A.ns:=by omega
   rw[(UO A).2,g.nr];omega
 ·rw[ad5 h.pz]at he
  rcases Nat.lt_or_ge s A.ns with h1|h1
  ·obtain⟨a,b,c⟩:=h.e s h1 e he
   exact⟨aa,by rw[g.O a,g.O h1];exact b,c⟩
  ·rw[JM h.pz aa]at he;cases he
theorem XB{l:List (List Ed)}{s:Nat}{x:List Ed}{e:Ed}(hs:s<l.length)(hx:x=l[s]++[e]):((l.set s x).map List.length).sum=(l.map List.length).sum +1:=by
 induction l generalizing s with
 |nil=>simp at hs
 |cons y l ih=>
  cases s with
  |zero=>
   subst hx
   simp;omega
  |succ s=>
   have:=ih (s:=s) (by simpa using hs) (by simpa using hx)
   simp only[List.set_cons_succ,List.map_cons,List.sum_cons,this];omega
theorem Gw.pu(hl:A.eg.length=A.ns)(hs:s<A.ns)(e:Ed):Gw A (A.pu s e) 0 1:=
 ⟨rfl,rfl,rfl,rfl,by simp[At.pu],by
  have hs':s<A.eg.length:=by omega
  refine XB (e:=e) hs' ?_
  unfold E
  rw[List.getElem?_eq_getElem hs'];rfl⟩
theorem aaD(hl:A.eg.length=A.ns)(hs:s<A.ns)(t:Nat):(A.pu s e).E t=if t=s then A.E s++[e]else A.E t:=by
 show(A.eg.set s (A.E s++[e]))[t]?.getD []=_
 rw[List.getElem?_set]
 by_cases h:s=t
 ·subst h
  rw[if_pos rfl,if_pos aa,if_pos rfl];rfl
 ·rw[if_neg h,if_neg (fun e=>h e.symm)];rfl
theorem Bu.pu(h:Bu lw A)(hs:s<A.ns)(h1:e.2.2<A.ns)(h2:A.O e.2.2=A.O s)(h3:Zp lw A.ty e):Bu lw (A.pu s e):=by
 refine⟨?_,h.o,fun t ht e' he=>?_⟩
 ·show(A.eg.set s _).length=_
  rw[List.length_set];exact h.pz
 ·rw[aaD h.pz hs]at he
  split at he
  ·next ht2=>
   subst ht2
   rcases List.mem_append.1 he with he|he
   ·exact h.e t hs e' he
   ·rw[List.mem_singleton]at he
    subst he
    exact⟨h1,h2,h3⟩
  ·exact h.e t ht e' he
theorem Bu.puC(h:Bu lw A)(hs:A.cur s)(h1:A.cur e.2.2)(h3:Zp lw A.ty e):Bu lw (A.pu s e):=h.pu hs.1 h1.1 (h1.2.trans hs.2.symm) h3
def ru(A:At)(nm:ByteArray):At:={A with nm:=A.nm++[nm]}
def se(A:At)(a b:Nat):At:={A with st:=A.st++[a],sp:=A.sp++[b]}
structure Bs'(lw:Nat)(A:At):Prop where
 bu:Bu lw A
 Oj:A.st.length=A.nr
 QW:A.sp.length=A.nr
 s:∀r,r<A.nr→A.S r<A.ns∧A.O (A.S r)=r
 p:∀r,r<A.nr→A.P r<A.ns∧A.O (A.P r)=r
theorem Bu.ru(h:Bu lw A)(nm:ByteArray):Bu lw (A.ru nm):=
 ⟨h.pz,fun s hs=>by
   have:=h.o s hs
   show A.O s<(A.nm++[nm]).length
   rw[List.length_append]
   exact Nat.lt_succ_of_lt this,h.e⟩
theorem Bs'.next(h:Bs' lw A){nm:ByteArray}{a b:Nat}{A1 A2:At}(g:Gw (A.ru nm) A1 k c)(ha:A1.cur a)(hb:A1.cur b)(g2:Gw (A1.se a b) A2 k2 c2)(hB:Bu lw A2):Bs' lw A2:=by
 have e1:A2.nr=A.nr +1:=by rw[g2.nr];show A1.nr=_;rw[g.nr];show(A.nm++[nm]).length=_;rw[List.length_append];rfl
 have e2:A2.st=A.st++[a]:=by rw[g2.st];show A1.st++[a]=_;rw[g.st];rfl
 have e3:A2.sp=A.sp++[b]:=by rw[g2.sp];show A1.sp++[b]=_;rw[g.sp];rfl
 have n1:A1.ns=A.ns +k:=g.ns
 have n2:A2.ns=A1.ns +k2:=g2.ns
 have nr1:A1.nr=A.nr +1:=by rw[g.nr];show(A.nm++[nm]).length=_;rw[List.length_append];rfl
 have oo:∀t,t<A.ns→A2.O t=A.O t:=fun t ht=>by
  rw[g2.O (show t<A1.ns by omega)]
  exact g.O ht
 have oc:∀t,A1.cur t→A2.O t=A.nr:=fun t ht=>by
  rw[g2.O ht.1]
  show A1.O t=_
  rw[ht.2,nr1];omega
 refine⟨hB,by rw[e2,List.length_append,h.Oj,e1];rfl,by rw[e3,List.length_append,h.QW,e1];rfl,fun r hr=>?_,fun r hr=>?_⟩
 ·unfold S
  rw[e2]
  rcases Nat.lt_or_ge r A.nr with h1|h1
  ·rw[List.getElem?_append_left (by rw[h.Oj];exact h1)]
   have:=h.s r h1
   exact⟨Nat.lt_of_lt_of_le this.1 aa,(oo _ this.1).trans this.2⟩
  ·obtain rfl:r=A.nr:=by omega
   rw[List.getElem?_append_right (by rw[h.Oj];exact Nat.le_refl _),h.Oj,Nat.sub_self]
   exact⟨by show a<_;have:=ha.1;omega,oc a ha⟩
 ·unfold P
  rw[e3]
  rcases Nat.lt_or_ge r A.nr with h1|h1
  ·rw[List.getElem?_append_left (by rw[h.QW];exact h1)]
   have:=h.p r h1
   exact⟨Nat.lt_of_lt_of_le this.1 aa,(oo _ this.1).trans this.2⟩
  ·obtain rfl:r=A.nr:=by omega
   rw[List.getElem?_append_right (by rw[h.QW];exact Nat.le_refl _),h.QW,Nat.sub_self]
   exact⟨by show b<_;have:=hb.1;omega,oc b hb⟩
theorem Bs'.ok(h:Bs' lw A)(hl:A.nr=lw)(hp:1≤A.nr)(hf:A.nr≤1000)(hb:A.ns≤4000)(ht:A.tot≤100000):A.Ok where
 pos:=hp
 Oj:=h.Oj
 QW:=h.QW
 pz:=h.bu.pz
 big:=hb
 few:=hf
 s:=h.s
 p:=h.p
 o:=h.bu.o
 e:=fun s hs e he=>by
  obtain⟨a,b,c⟩:=h.bu.e s hs e he
  refine⟨a,b,?_⟩
  unfold Zp at c
  unfold acT
  rw[hl];exact c
 tot:=ht
end At
end
section
open Go.Ae
theorem ifc{p q:Prop}[Decidable p][Decidable q]{a b:Nat}(h:p↔q):(if p then a else b)=if q then a else b:=by
 by_cases g:p
 ·rw[if_pos g,if_pos (h.1 g)]
 ·rw[if_neg g,if_neg fun k=>g (h.2 k)]
namespace At
open Classical
variable{A:At}{P:List Nat}{s t:Nat}
def yh(A:At)(l:List Ed)(t:Nat):Nat:=(l.filter fun e=>decide (A.JO e∧e.2.2=t)).length
def fc(A:At)(s t:Nat):Nat:=A.yh (A.E s) t
theorem Oo(l l':List Ed)(t:Nat):A.yh (l++l') t=A.yh l t +A.yh l' t:=by
 unfold yh;rw[List.filter_append,List.length_append]
theorem Oq(e:Ed)(t:Nat):A.yh [e] t=if A.JO e∧e.2.2=t then 1 else 0:=by
 unfold yh
 by_cases h:A.JO e∧e.2.2=t<;>simp[h]
theorem aaE{e:Ed}(he:e∈A.E s)(hf:A.JO e):0<A.fc s e.2.2:=by
 unfold fc yh
 exact List.length_pos_of_mem (List.mem_filter.2 ⟨he,by simpa using hf⟩)
def wR(A:At)(P:List Nat)(n t:Nat):Nat:=((List.range n).map fun s=>if s∈P then 0 else A.fc s t).sum
def cin(A:At)(P:List Nat)(t:Nat):Nat:=A.wR P A.ns t
theorem qx(n:Nat):A.wR P (n +1) t=A.wR P n t +(if n∈P then 0 else A.fc n t):=by
 unfold wR
 rw[List.range_succ,List.map_append,List.sum_append];simp
theorem UQ{n:Nat}(hs:s∉P):A.wR P n t=A.wR (P++[s]) n t +(if s<n then A.fc s t else 0):=by
 induction n with
 |zero=>simp[wR]
 |succ n ih=>
  rw[qx,qx,ih]
  by_cases h:n=s
  ·subst h
   simp[hs]
  ·have e1:(if n∈P then 0 else A.fc n t)=(if n∈P++[s]then 0 else A.fc n t):=ifc (by simp[h])
   have e2:(if s<n then A.fc s t else 0)=(if s<n +1 then A.fc s t else 0):=ifc aa
   rw[e1,e2];omega
theorem Ot(hs:s∉P)(hn:s<A.ns):A.cin P t=A.cin (P++[s]) t +A.fc s t:=by
 unfold cin;rw[UQ hs,if_pos hn]
theorem Qm{n:Nat}(h:A.wR P n t=0):∀s,s<n→s∉P→A.fc s t=0:=by
 induction n with
 |zero=>intro s hs;omega
 |succ n ih=>
  rw[qx]at h
  intro s hs hP
  by_cases e:s=n
  ·subst e
   rw[if_neg hP]at h;omega
  ·exact ih aa s aa hP
def Ou(A:At)(P:List Nat)(n r:Nat):Nat:=((List.range n).filter fun s=>decide (A.O s=r∧s∉P)).length
def lc(A:At)(P:List Nat)(r:Nat):Nat:=A.Ou P A.ns r
theorem Dk(n r:Nat):A.Ou P (n +1) r=A.Ou P n r +(if A.O n=r∧n∉P then 1 else 0):=by
 unfold Ou
 rw[List.range_succ,List.filter_append,List.length_append]
 by_cases h:A.O n=r∧n∉P<;>simp[h]
theorem XC{n r:Nat}(hs:s∉P):A.Ou P n r=A.Ou (P++[s]) n r +(if s<n∧A.O s=r then 1 else 0):=by
 induction n with
 |zero=>simp[Ou]
 |succ n ih=>
  rw[Dk,Dk,ih]
  by_cases h:n=s
  ·subst h
   by_cases h2:A.O n=r<;>simp[hs,h2]
  ·have h1:n∈P++[s]↔n∈P:=by simp[h]
   have h4:(A.O n=r∧n∉P++[s])↔(A.O n=r∧n∉P):=by rw[h1]
   have h5:(s<n +1∧A.O s=r)↔(s<n∧A.O s=r):=⟨fun g=>⟨aa,g.2⟩,fun g=>⟨aa,g.2⟩⟩
   rw[ifc h4,ifc h5];omega
theorem UR(hs:s∉P)(hn:s<A.ns)(r:Nat):A.lc P r=A.lc (P++[s]) r +(if A.O s=r then 1 else 0):=by
 unfold lc;rw[XC hs]
 by_cases h:A.O s=r<;>simp[h,hn]
theorem XD{r:Nat}(h:A.lc P r=0)(hs:s<A.ns)(ho:A.O s=r):s∈P:=by
 refine Classical.byContradiction fun hP=>?_
 have:s∈(List.range A.ns).filter fun s=>decide (A.O s=r∧s∉P):=List.mem_filter.2 ⟨List.mem_range.2 hs,by simp[ho,hP]⟩
 have:=List.length_pos_of_mem this
 unfold lc Ou at h
 omega
def Acy(A:At):Prop:=∃rk:Nat→Nat,∀s e,e∈A.E s→A.JO e→rk s<rk e.2.2
theorem Acy.no(h:A.Acy){k:Nat}{e:Ed}(he:e∈A.E k)(hf:A.JO e):¬A.fre e.2.2 k:=by
 obtain⟨rk,hr⟩:=h
 have key:∀s t,A.fre s t→rk s≤rk t:=by
  intro s t h
  induction h with
  |base t h=>subst h;exact Nat.le_refl _
  |step t e h he hw ih=>exact Nat.le_trans ih (Nat.le_of_lt (hr t e he hw))
 intro h
 have:=key _ _ h
 have:=hr k e he hf
 omega
structure Kn(A:At)(P nx:List Nat):Prop where
 nd:(P++nx).Nodup
 lt:∀s∈P++nx,s<A.ns
 ok:∀s e,e∈A.E s→A.JO e→∀i:Nat,P[i]?=some e.2.2→∃j,j<i∧P[j]?=some s
theorem Dl:∀{P:List Nat}{j s:Nat},P[j]?=some s→P.idxOf s≤j
 |[],j,s,h=>by simp at h
 |x::P,0,s,h=>by
  have:x=s:=by simpa using h
  subst this
  simp
 |x::P,j +1,s,h=>by
  have:=Dl (P:=P) (j:=j) (s:=s) (by simpa using h)
  rw[List.idxOf_cons]
  cases x==s
  ·exact Nat.succ_le_succ this
  ·exact Nat.zero_le _
theorem Kn.acy(h:A.Kn P [])(ho:A.Ok)(hz:∀r,r<A.nr→A.lc P r=0):A.Acy:=by
 have hin:∀s,s<A.ns→s∈P:=fun s hs=>XD (hz _ (ho.o s hs)) hs rfl
 refine⟨fun s=>P.idxOf s,fun s e he hf=>?_⟩
 have ht:=(ho.e s (ho.lt he) e he).1
 have h1:=hin _ ht
 obtain⟨j,hj,hjs⟩:=h.ok s e he hf (P.idxOf e.2.2) (by rw[List.getElem?_eq_getElem (List.idxOf_lt_length_of_mem h1)];simp)
 have:=Dl hjs
 show P.idxOf s<P.idxOf e.2.2
 omega
end At
end
section
open Go.Ae
structure rP where
 (cnt:Nat)(ms lo:List Int)(op sf:List Bool)(ss:List Nat)(fs:List (Nat×Nat))
namespace rP
def m(x:rP)(j:Nat):Int:=x.ms[j]?.getD 0
def l(x:rP)(j:Nat):Int:=x.lo[j]?.getD 0
def o(x:rP)(j:Nat):Bool:=x.op[j]?.getD false
def f(x:rP)(j:Nat):Bool:=x.sf[j]?.getD false
end rP
theorem mI{α:Type}{l:List α}{k j:Nat}{v d:α}(hk:k<l.length):(l.set k v)[j]?.getD d=if k=j then v else l[j]?.getD d:=by
 rw[List.getElem?_set]
 by_cases h:k=j
 ·rw[if_pos h,if_pos h,if_pos aa];rfl
 ·rw[if_neg h,if_neg h]
abbrev fn(x:rP):List Nat:=x.fs.map (·.1)
structure Gen(n:Nat)(x:rP):Prop where
 lm:x.ms.length=n
 ll:x.lo.length=n
 lp:x.op.length=n
 lf:x.sf.length=n
 lt:∀j∈x.ss,j<n
 nd:x.ss.Nodup
 sub:(fn x).Sublist x.ss
 hd:x.fs≠[]→x.ss[0]?=(fn x)[0]?
 emp:x.fs=[]→x.ss=[]
 cnt:∀j,0≤x.m j∧x.m j≤x.cnt
 inc:x.ss.Pairwise fun a b=>x.m a<x.m b
 pos:∀j∈x.ss,0<x.m j
 low:∀b,x.ss[0]?=some b→∀j∈x.ss,x.m b≤x.l j∧x.l j≤x.m j
 op:∀j,x.o j=true↔j∈x.ss
def Eh(x:rP):Prop:=(∃j,x.f j=true)∨∃w∈x.ss,w∉fn x∨x.l w<x.m w
structure Good(n:Nat)(row:Nat→List Nat)(x:rP)(cl:List Nat):Prop where
 sf:∀j,x.f j=false
 ss:x.ss=fn x
 lo:∀j∈x.ss,x.l j=x.m j
 met:∀j,j<n→(x.m j≠0↔j∈x.ss∨j∈cl)
 dis:∀j∈cl,j∉x.ss
 cls:∀(i c:Nat),cl[i]?=some c→∀t∈row c,t<n→∃j,j<i∧cl[j]?=some t
 fr:∀(A B:List (Nat×Nat))(a k:Nat),x.fs=A++(a,k)::B→∀(k' t:Nat),k'<k→(row a)[k']?=some t→t<n→t∈cl∨(k' +1=k∧∃k2 B2,B=(t,k2)::B2)
def Tj(n:Nat)(row:Nat→List Nat)(x:rP):Prop:=Gen n x∧(Eh x∨∃cl,Good n row x cl)
variable{n:Nat}{row:Nat→List Nat}{x:rP}{cl:List Nat}{fs':List (Nat×Nat)}{node nx t k:Nat}
def rP.begin(x:rP)(k:Nat):rP:={x with cnt:=x.cnt +1,ms:=x.ms.set k ((x.cnt +1:Nat):Int),lo:=x.lo.set k ((x.cnt +1:Nat):Int),op:=x.op.set k true,ss:=x.ss++[k],fs:=x.fs++[(k,0)]}
section beg
variable(hg:Gen n x)(hk:k<n)(h0:x.m k=0)
include hg hk
theorem yj(j:Nat):(x.begin k).m j=if k=j then((x.cnt +1:Nat):Int)else x.m j:=mI (by rw[hg.lm];exact hk)
theorem JP(j:Nat):(x.begin k).l j=if k=j then((x.cnt +1:Nat):Int)else x.l j:=mI (by rw[hg.ll];exact hk)
theorem acV(j:Nat):(x.begin k).o j=if k=j then true else x.o j:=mI (by rw[hg.lp];exact hk)
include h0
omit hk in
theorem Mf:k∉x.ss:=fun h=>by have:=hg.pos k h;omega
theorem Gen.beg:Gen n (x.begin k):=by
 have hno:=Mf hg h0
 have hne:∀j∈x.ss,k≠j:=fun j hj e=>hno (e▸hj)
 have em:∀j∈x.ss,(x.begin k).m j=x.m j:=fun j hj=>by rw[yj hg hk,if_neg (hne j hj)]
 have el:∀j∈x.ss,(x.begin k).l j=x.l j:=fun j hj=>by rw[JP hg hk,if_neg (hne j hj)]
 have ek:(x.begin k).m k=((x.cnt +1:Nat):Int):=by rw[yj hg hk,if_pos rfl]
 have elk:(x.begin k).l k=((x.cnt +1:Nat):Int):=by rw[JP hg hk,if_pos rfl]
 have hs:∀j,j∈(x.begin k).ss↔j∈x.ss∨j=k:=fun j=>by show j∈x.ss++[k]↔_;simp
 have h0':∀b,(x.begin k).ss[0]?=some b→(x.ss=[]∧b=k)∨(x.ss[0]?=some b∧b∈x.ss):=fun b hb=>by
  replace hb:(x.ss++[k])[0]?=some b:=hb
  cases hss:x.ss with
  |nil=>rw[hss]at hb;simp at hb;exact .inl ⟨rfl,hb.symm⟩
  |cons a r=>rw[hss]at hb;simp at hb;subst hb;exact .inr ⟨rfl,List.mem_cons_self ..⟩
 refine⟨?_,?_,?_,hg.lf,fun j hj=>?_,?_,?_,fun _=>?_,fun h=>?_,fun j=>?_,?_,fun j hj=>?_,fun b hb j hj=>?_,fun j=>?_⟩
 ·show(x.ms.set _ _).length=n;rw[List.length_set];exact hg.lm
 ·show(x.lo.set _ _).length=n;rw[List.length_set];exact hg.ll
 ·show(x.op.set _ _).length=n;rw[List.length_set];exact hg.lp
 ·rcases(hs j).1 hj with h|rfl
  ·exact hg.lt j h
  ·exact hk
 ·show(x.ss++[k]).Nodup
  rw[List.nodup_append]
  exact⟨hg.nd,by simp,fun a ha b hb=>by simp at hb;subst hb;exact fun e=>hne a ha e.symm⟩
 ·show((x.fs++[(k,0)]).map fun p:Nat×Nat=>p.1).Sublist (x.ss++[k])
  rw[List.map_append]
  exact hg.sub.append (List.Sublist.refl _)
 ·show(x.ss++[k])[0]?=((x.fs++[(k,0)]).map fun p:Nat×Nat=>p.1)[0]?
  rw[List.map_append]
  by_cases h:x.fs=[]
  ·rw[hg.emp h,h];rfl
  ·have h1:=hg.hd h
   obtain⟨a,r,e⟩:∃a r,x.fs=a::r:=by
    cases hf:x.fs with
    |nil=>exact absurd hf h
    |cons a r=>exact⟨a,r,rfl⟩
   have h2:(fn x)[0]?=some a.1:=by show(x.fs.map _)[0]?=_;rw[e];rfl
   have h3:x.ss[0]?=some a.1:=h1.trans h2
   rw[e]
   have hl:=(List.getElem?_eq_some_iff.1 h3).1
   rw[List.getElem?_append_left hl,h3];rfl
 ·exact absurd (show x.fs++[(k,0)]=[]from h) (by simp)
 ·show 0≤(x.begin k).m j∧(x.begin k).m j≤((x.cnt +1:Nat):Int)
  rw[yj hg hk]
  have:=hg.cnt j
  split<;>omega
 ·show(x.ss++[k]).Pairwise _
  rw[List.pairwise_append]
  refine⟨hg.inc.imp_of_mem fun{a b} ha hb h=>by rw[em a ha,em b hb];exact h,List.pairwise_singleton _ _,fun a ha b hb=>?_⟩
  simp at hb;subst hb
  rw[em a ha,ek]
  have:=hg.cnt a;omega
 ·rcases(hs j).1 hj with h|rfl
  ·rw[em j h];exact hg.pos j h
  ·rw[ek];omega
 ·rcases h0' b hb with⟨he,rfl⟩|⟨h1,h2⟩
  ·rcases(hs j).1 hj with h|rfl
   ·rw[he]at h;cases h
   ·rw[ek,elk];omega
  ·rcases(hs j).1 hj with h|rfl
   ·rw[em b h2,el j h,em j h];exact hg.low b h1 j h
   ·rw[em b h2,elk,ek]
    have:=hg.cnt b;omega
 ·rw[acV hg hk,hs]
  by_cases h:k=j
  ·subst h;simp
  ·rw[if_neg h,hg.op]
   constructor
   ·exact .inl
   ·rintro(h1|h1)
    ·exact h1
    ·exact absurd h1.symm h
theorem Eh.beg(h:Eh x):Eh (x.begin k):=by
 have hno:=Mf hg h0
 rcases h with⟨j,h⟩|⟨w,hw,h⟩
 ·exact .inl ⟨j,h⟩
 ·have hne:k≠w:=fun e=>hno (e▸hw)
  refine .inr ⟨w,List.mem_append_left _ hw,h.imp (fun h hm=>?_) fun h=>?_⟩
  ·replace hm:w∈(x.fs++[(k,0)]).map fun p:Nat×Nat=>p.1:=hm
   rw[List.map_append,List.mem_append]at hm
   rcases hm with hm|hm
   ·exact h hm
   ·simp at hm;exact hne hm.symm
  ·rw[yj hg hk,JP hg hk,if_neg hne,if_neg hne];exact h
end beg
theorem Zq{α:Type}{a d:α}(n j:Nat)(h:a=d):(List.replicate n a)[j]?.getD d=d:=by
 rw[List.getElem?_replicate]
 split
 ·exact h
 ·rfl
theorem Tj.start(n:Nat)(row:Nat→List Nat):Tj n row ⟨0,List.replicate n 0,List.replicate n 0,List.replicate n false,List.replicate n false,[],[]⟩:=by
 have e1:∀j:Nat,(List.replicate n (0:Int))[j]?.getD 0=0:=fun j=>Zq n j rfl
 have e2:∀j:Nat,(List.replicate n false)[j]?.getD false=false:=fun j=>Zq n j rfl
 refine⟨⟨by simp,by simp,by simp,by simp,(fun j h=>by cases h),List.nodup_nil,List.Sublist.refl _,fun h=>absurd rfl h,fun _=>rfl,fun j=>?_,List.Pairwise.nil,(fun j h=>by cases h),(fun b h=>by cases h),fun j=>?_⟩,.inr ⟨[],e2,rfl,(fun j h=>by cases h),fun j hj=>?_,(fun j h=>by cases h),(fun i c h=>by simp at h),fun A B a k e=>by cases A<;>cases e⟩⟩
 ·show 0≤(List.replicate n (0:Int))[j]?.getD 0∧_≤_
  have h2:rP.m ⟨0,List.replicate n 0,List.replicate n 0,List.replicate n false,List.replicate n false,[],[]⟩ j=0:=e1 j
  rw[e1,h2];exact⟨Int.le_refl _,Int.le_refl _⟩
 ·show(List.replicate n false)[j]?.getD false=true↔j∈[]
  rw[e2];simp
 ·show(List.replicate n (0:Int))[j]?.getD 0≠0↔j∈[]∨j∈[]
  rw[e1];simp
theorem Tj.root(h:Tj n row x)(hf:x.fs=[])(hk:k<n)(h0:x.m k=0):Tj n row (x.begin k):=by
 obtain⟨hg,h⟩:=h
 refine⟨hg.beg hk h0,h.imp (fun h=>h.beg hg hk h0) fun⟨cl,h⟩=>⟨cl,?_⟩⟩
 have hss:=hg.emp hf
 have hs:(x.begin k).ss=[k]:=by show x.ss++[k]=[k];rw[hss];rfl
 have hfs:(x.begin k).fs=[(k,0)]:=by show x.fs++[(k,0)]=_;rw[hf];rfl
 refine⟨h.sf,by rw[hs];show[k]=(x.begin k).fs.map _;rw[hfs];rfl,fun j hj=>?_,fun j hj=>?_,fun j hj=>?_,h.cls,fun A B a q e k' t hk'=>?_⟩
 ·rw[hs]at hj;simp at hj;subst hj
  rw[yj hg hk,JP hg hk,if_pos rfl,if_pos rfl]
 ·rw[hs,yj hg hk]
  by_cases e:k=j
  ·subst e;simp;omega
  ·rw[if_neg e,h.met j hj,hss];simp[Ne.symm e]
 ·rw[hs];intro hm;simp at hm;subst hm
  have:=(h.met j hk).2 (.inr hj)
  exact this h0
 ·rw[hfs]at e
  have:q=0:=by
   cases A with
   |nil=>cases e;rfl
   |cons a A=>cases A<;>cases e
  omega
def rP.zw(x:rP)(fs':List (Nat×Nat))(node nx:Nat):rP:={x with fs:=fs'++[(node,nx +1)]}
section zw
variable(hf:x.fs=fs'++[(node,nx)])
include hf
theorem GQ:fn (x.zw fs' node nx)=fn x:=by show(fs'++[(node,nx +1)]).map _=x.fs.map _;rw[hf];simp
theorem Gen.zw(hg:Gen n x):Gen n (x.zw fs' node nx):=
 ⟨hg.lm,hg.ll,hg.lp,hg.lf,hg.lt,hg.nd,by rw[GQ hf];exact hg.sub,fun _=>by rw[GQ hf];exact hg.hd (by rw[hf];simp),fun h=>absurd (show fs'++[(node,nx +1)]=[]from h) (by simp),hg.cnt,hg.inc,hg.pos,hg.low,hg.op⟩
theorem Eh.zw(h:Eh x):Eh (x.zw fs' node nx):=h.imp id fun⟨w,hw,h⟩=>⟨w,hw,h.imp (fun h=>by rw[GQ hf];exact h) id⟩
theorem yl(hg:Gen n x):node∈x.ss:=hg.sub.subset (by show node∈x.fs.map _;rw[hf];simp)
theorem Good.zw(h:Good n row x cl)(ht:∀t,(row node)[nx]?=some t→t<n→t∈cl):Good n row (x.zw fs' node nx) cl:=by
 refine⟨h.sf,by rw[GQ hf];exact h.ss,h.lo,h.met,h.dis,h.cls,fun A B a q e k' t hk' hr htn=>?_⟩
 replace e:fs'++[(node,nx +1)]=A++(a,q)::B:=e
 rcases List.eq_nil_or_concat B with rfl|⟨B',b,rfl⟩
 ·obtain⟨rfl,e2⟩:=List.append_inj' e rfl
  cases e2
  rcases Nat.lt_or_ge k' nx with h1|h1
  ·rcases h.fr fs' [] node nx hf k' t h1 hr htn with g|⟨_,_,_,g⟩
   ·exact .inl g
   ·cases g
  ·obtain rfl:k'=nx:=by omega
   exact .inl (ht t hr htn)
 ·rw[List.concat_eq_append]at e⊢
  have e':fs'++[(node,nx +1)]=(A++(a,q)::B')++[b]:=by rw[e];simp
  obtain⟨rfl,e2⟩:=List.append_inj' e' rfl
  cases e2
  rcases h.fr A (B'++[(node,nx)]) a q (by rw[hf];simp) k' t hk' hr htn with g|⟨g1,k2,B2,g2⟩
  ·exact .inl g
  ·refine .inr ⟨g1,?_⟩
   cases B' with
   |nil=>cases g2;exact⟨_,_,rfl⟩
   |cons c B'=>cases g2;exact⟨_,_,rfl⟩
end zw
theorem Tj.out(h:Tj n row x)(hf:x.fs=fs'++[(node,nx)])(ht:∀t,(row node)[nx]?=some t→t<n→x.m t≠0∧x.o t=false):Tj n row (x.zw fs' node nx):=by
 obtain⟨hg,h⟩:=h
 refine⟨hg.zw hf,h.imp (fun h=>h.zw hf) fun⟨cl,h⟩=>⟨cl,h.zw hf fun t hr htn=>?_⟩⟩
 obtain⟨h1,h2⟩:=ht t hr htn
 rcases(h.met t htn).1 h1 with g|g
 ·rw[(hg.op t).2 g]at h2;cases h2
 ·exact g
def rP.own(x:rP)(node:Nat):rP:={x with sf:=x.sf.set node true}
theorem Tj.own(h:Tj n row x)(hf:x.fs=fs'++[(node,nx)]):Tj n row ((x.zw fs' node nx).own node):=by
 obtain⟨hg,_⟩:=h
 have hn:=hg.lt node (yl hf hg)
 have g:=hg.zw hf
 refine⟨⟨g.lm,g.ll,g.lp,by show(x.sf.set node true).length=n;rw[List.length_set];exact hg.lf,g.lt,g.nd,g.sub,g.hd,g.emp,g.cnt,g.inc,g.pos,g.low,g.op⟩,.inl (.inl ⟨node,?_⟩)⟩
 show(x.sf.set node true)[node]?.getD false=true
 rw[mI (by rw[hg.lf];exact hn),if_pos rfl]
theorem Tj.call(h:Tj n row x)(hf:x.fs=fs'++[(node,nx)])(ht:(row node)[nx]?=some t)(hk:t<n)(h0:x.m t=0):Tj n row ((x.zw fs' node nx).begin t):=by
 obtain⟨hg,h⟩:=h
 have hg2:=hg.zw hf
 refine⟨hg2.beg hk h0,h.imp (fun h=>(h.zw hf).beg hg2 hk h0) fun⟨cl,h⟩=>⟨cl,?_⟩⟩
 have hno:t∉x.ss:=Mf hg h0
 have hfs:((x.zw fs' node nx).begin t).fs=(fs'++[(node,nx +1)])++[(t,0)]:=rfl
 have hs:∀j,j∈((x.zw fs' node nx).begin t).ss↔j∈x.ss∨j=t:=fun j=>by show j∈x.ss++[t]↔_;simp
 have em:∀j,((x.zw fs' node nx).begin t).m j=if t=j then((x.cnt +1:Nat):Int)else x.m j:=yj hg2 hk
 have el:∀j,((x.zw fs' node nx).begin t).l j=if t=j then((x.cnt +1:Nat):Int)else x.l j:=JP hg2 hk
 refine⟨h.sf,?_,fun j hj=>?_,fun j hj=>?_,fun j hj=>?_,h.cls,fun A B a q e k' u hk' hr hun=>?_⟩
 ·show x.ss++[t]=((fs'++[(node,nx +1)])++[(t,0)]).map fun p:Nat×Nat=>p.1
  rw[h.ss]
  show x.fs.map _++[t]=_
  rw[hf];simp
 ·rw[em,el]
  by_cases e:t=j
  ·rw[if_pos e,if_pos e]
  ·rw[if_neg e,if_neg e]
   exact h.lo j (((hs j).1 hj).resolve_right fun g=>e g.symm)
 ·rw[hs,em]
  by_cases e:t=j
  ·subst e;simp;omega
  ·rw[if_neg e,h.met j hj]
   constructor
   ·exact fun g=>g.imp .inl id
   ·exact fun g=>g.imp (fun g=>g.resolve_right fun g=>e g.symm) id
 ·intro hm
  rcases(hs j).1 hm with g|rfl
  ·exact h.dis j hj g
  ·exact(h.met j hk).2 (.inr hj) h0
 ·rw[hfs]at e
  rcases List.eq_nil_or_concat B with rfl|⟨B',b,rfl⟩
  ·obtain⟨_,e2⟩:=List.append_inj' e rfl
   cases e2
   omega
  ·rw[List.concat_eq_append]at e⊢
   have e':(fs'++[(node,nx +1)])++[(t,0)]=(A++(a,q)::B')++[b]:=by rw[e];simp
   obtain⟨e3,e2⟩:=List.append_inj' e' rfl
   cases e2
   rcases List.eq_nil_or_concat B' with rfl|⟨B2,b2,rfl⟩
   ·obtain⟨rfl,e4⟩:=List.append_inj' e3 rfl
    cases e4
    rcases Nat.lt_or_ge k' nx with h1|h1
    ·rcases h.fr fs' [] node nx hf k' u h1 hr hun with g|⟨_,_,_,g⟩
     ·exact .inl g
     ·cases g
    ·obtain rfl:k'=nx:=by omega
     rw[ht]at hr
     cases hr
     exact .inr ⟨rfl,_,_,rfl⟩
   ·rw[List.concat_eq_append]at e3⊢
    have e5:fs'++[(node,nx +1)]=(A++(a,q)::B2)++[b2]:=by rw[e3];simp
    obtain⟨rfl,e6⟩:=List.append_inj' e5 rfl
    cases e6
    rcases h.fr A (B2++[(node,nx)]) a q (by rw[hf];simp) k' u hk' hr hun with g|⟨g1,k2,B3,g2⟩
    ·exact .inl g
    ·refine .inr ⟨g1,?_⟩
     cases B2 with
     |nil=>cases g2;exact⟨_,_,rfl⟩
     |cons c B2=>cases g2;exact⟨_,_,rfl⟩
def rP.low(x:rP)(k:Nat)(v:Int):rP:={x with lo:=x.lo.set k v}
theorem JQ(hg:Gen n x)(hk:k<n)(v:Int)(j:Nat):(x.low k v).l j=if k=j then v else x.l j:=mI (by rw[hg.ll];exact hk)
theorem Gen.low'(hg:Gen n x)(hk:k<n){v:Int}(hv:v≤x.l k)(hb:k∈x.ss→∀b,x.ss[0]?=some b→x.m b≤v):Gen n (x.low k v):=
 ⟨hg.lm,by show(x.lo.set k v).length=n;rw[List.length_set];exact hg.ll,hg.lp,hg.lf,hg.lt,hg.nd,hg.sub,hg.hd,hg.emp,hg.cnt,hg.inc,hg.pos,fun b h0 j hj=>by
  have:=hg.low b h0 j hj
  show x.m b≤(x.low k v).l j∧(x.low k v).l j≤x.m j
  rw[JQ hg hk]
  by_cases e:k=j
  ·subst e
   have:=hb hj b h0
   rw[if_pos rfl];omega
  ·rw[if_neg e];exact this,hg.op⟩
theorem Eh.low'(hg:Gen n x)(hk:k<n){v:Int}(hv:v≤x.l k)(h:Eh x):Eh (x.low k v):=h.imp id fun⟨w,hw,h⟩=>⟨w,hw,h.imp id fun h=>by
 show(x.low k v).l w<x.m w
 rw[JQ hg hk]
 by_cases e:k=w
 ·subst e;rw[if_pos rfl];omega
 ·rw[if_neg e];exact h⟩
theorem Tj.opn(h:Tj n row x)(hf:x.fs=fs'++[(node,nx)])(ho:x.o t=true)(hne:t≠node):Tj n row ((x.zw fs' node nx).low node (min (x.l node) (x.m t))):=by
 obtain⟨hg,h⟩:=h
 have hn:=yl hf hg
 have hnn:=hg.lt node hn
 have hg2:=hg.zw hf
 have ht:=(hg.op t).1 ho
 have hb:∀b,x.ss[0]?=some b→x.m b≤min (x.l node) (x.m t):=fun b h0=>by
  have h1:=(hg.low b h0 node hn).1
  have h2:=hg.low b h0 t ht
  omega
 refine⟨hg2.low' hnn (Int.min_le_left _ _) fun _=>hb,.inl ?_⟩
 rcases h with h|⟨cl,h⟩
 ·exact(h.zw hf).low' hg2 hnn (Int.min_le_left _ _)
 ·refine .inr ⟨node,hn,.inr ?_⟩
  show((x.zw fs' node nx).low node _).l node<x.m node
  rw[JQ hg2 hnn,if_pos rfl]
  have hss:x.ss=fs'.map (fun p:Nat×Nat=>p.1)++[node]:=by rw[h.ss];show x.fs.map _=_;rw[hf];simp
  have:x.m t<x.m node:=by
   have hi:=hg.inc
   rw[hss,List.pairwise_append]at hi
   rw[hss]at ht
   rcases List.mem_append.1 ht with g|g
   ·exact hi.2.2 t g node (by simp)
   ·simp at g;exact absurd g hne
  omega
theorem acW(hg:Gen n x){A:List (Nat×Nat)}{up ku:Nat}(hf:x.fs=(A++[(up,ku)])++[(node,nx)]):up∈x.ss∧up≠node∧(x.ss=fn x→x.m up<x.m node):=by
 have hm:fn x=A.map (fun p:Nat×Nat=>p.1)++[up]++[node]:=by show x.fs.map _=_;rw[hf];simp
 have hs:=hg.sub
 rw[hm]at hs
 have hnd:=hg.nd.sublist hs
 refine⟨hs.subset (by simp),?_,fun e=>?_⟩
 ·rw[List.nodup_append]at hnd
  exact hnd.2.2 up (by simp) node (by simp)
 ·have hi:=hg.inc
  rw[e,hm,List.pairwise_append]at hi
  exact hi.2.2 up (by simp) node (by simp)
theorem Tj.up(h:Tj n row x){A:List (Nat×Nat)}{up ku:Nat}(hf:x.fs=(A++[(up,ku)])++[(node,nx)]):Tj n row (x.low up (min (x.l up) (x.l node)))∧(x.low up (min (x.l up) (x.l node))).l node=x.l node:=by
 obtain⟨hg,h⟩:=h
 obtain⟨hu,hne,hlt⟩:=acW hg hf
 have hun:=hg.lt up hu
 have hn:=yl hf hg
 refine⟨⟨hg.low' hun (Int.min_le_left _ _) fun _ b h0=>?_,h.imp (fun h=>h.low' hg hun (Int.min_le_left _ _)) fun⟨cl,h⟩=>⟨cl,h.sf,h.ss,fun j hj=>?_,h.met,h.dis,h.cls,h.fr⟩⟩,?_⟩
 ·have h1:=(hg.low b h0 up hu).1
  have h2:=(hg.low b h0 node hn).1
  omega
 ·rw[JQ hg hun,if_neg hne]
 ·show(x.low up _).l j=x.m j
  rw[JQ hg hun]
  by_cases e:up=j
  ·subst e
   have h1:=h.lo up hu
   have h2:=h.lo node hn
   have:=hlt h.ss
   rw[if_pos rfl];omega
  ·rw[if_neg e];exact h.lo j hj
theorem US{ss A:List Nat}{k p:Nat}(h:(A++[k]).Sublist ss)(hp:ss[p]?=some k)(hl:∀j,p<j→ss[j]?≠some k):A.Sublist (ss.take p):=by
 obtain⟨r1,r2,rfl,h1,h2⟩:=List.append_sublist_iff.1 h
 have hk:k∈r2:=h2.subset (List.mem_singleton.2 rfl)
 obtain⟨j,hj,e⟩:=List.getElem_of_mem hk
 have hle:r1.length +j≤p:=by
  rcases Nat.lt_or_ge p (r1.length +j)with h|h
  ·exact absurd (by rw[List.getElem?_append_right aa,Nat.add_sub_cancel_left,List.getElem?_eq_getElem hj,e]) (hl _ h)
  ·exact h
 rw[List.take_append]
 rw[List.take_of_length_le (show r1.length≤p by omega)]
 exact h1.trans (List.sublist_append_left _ _)
theorem UT{l:List Nat}(h:l.Nodup){i j a:Nat}(hi:l[i]?=some a)(hj:l[j]?=some a):i=j:=by
 obtain⟨h1,e1⟩:=List.getElem?_eq_some_iff.1 hi
 obtain⟨h2,e2⟩:=List.getElem?_eq_some_iff.1 hj
 rcases Nat.lt_trichotomy i j with g|g|g
 ·exact absurd (e1.trans e2.symm) (List.pairwise_iff_getElem.1 h i j h1 h2 g)
 ·exact g
 ·exact absurd (e2.trans e1.symm) (List.pairwise_iff_getElem.1 h j i h2 h1 g)
section fin
variable(hf:x.fs=fs'++[(node,nx)])
include hf
theorem UU:fn x=fs'.map (fun p:Nat×Nat=>p.1)++[node]:=by show x.fs.map _=_;rw[hf];simp
theorem Tj.stay(h:Tj n row x)(hl:x.l node≠x.m node):Tj n row {x with fs:=fs'}:=by
 obtain⟨hg,h⟩:=h
 have hn:=yl hf hg
 have hm:=UU hf
 have hsub:(fs'.map fun p:Nat×Nat=>p.1).Sublist x.ss:=(List.sublist_append_left _ _).trans (hm▸hg.sub)
 have hne:fs'≠[]:=fun e=>by
  subst e
  have:=hg.hd (by rw[hf];simp)
  rw[hm]at this
  have h2:=hg.low node this node hn
  omega
 refine⟨⟨hg.lm,hg.ll,hg.lp,hg.lf,hg.lt,hg.nd,hsub,fun _=>?_,fun e=>absurd e hne,hg.cnt,hg.inc,hg.pos,hg.low,hg.op⟩,.inl ?_⟩
 ·rw[hg.hd (by rw[hf];simp),hm]
  cases fs' with
  |nil=>exact absurd rfl hne
  |cons a r=>rfl
 ·rcases h with h|⟨cl,h⟩
  ·exact h.imp id fun⟨w,hw,h⟩=>⟨w,hw,h.imp (fun h g=>h (by rw[hm];exact List.mem_append_left _ g)) id⟩
  ·exact absurd (h.lo node hn) hl
theorem Tj.shut(h:Tj n row x)(hl:x.l node=x.m node)(hr:(row node).length≤nx){p:Nat}(hp:x.ss[p]?=some node){op sf:List Bool}(hop:op.length=n)(Zr:sf.length=n)
 (h1:∀j,op[j]?.getD false=if j∈x.ss.drop p then false else x.o j)(h2:∀j,sf[j]?.getD false=if j∈x.ss.drop p then(x.f j||decide (1<x.ss.length -p))else x.f j):Tj n row {x with fs:=fs',ss:=x.ss.take p,op:=op,sf:=sf}:=by
 obtain⟨hg,h⟩:=h
 have hn:=yl hf hg
 have hm:=UU hf
 have hpl:=(List.getElem?_eq_some_iff.1 hp).1
 have htk:∀j,j∈x.ss.take p→j∈x.ss:=fun j hj=>List.mem_of_mem_take hj
 have aaF:∀j,j∈x.ss↔j∈x.ss.take p∨j∈x.ss.drop p:=fun j=>by rw[←List.mem_append,List.take_append_drop]
 have acX:∀j,j∈x.ss.take p→j∉x.ss.drop p:=fun j h3 h4=>by
  have:=hg.nd
  rw[←List.take_append_drop p x.ss,List.nodup_append]at this
  exact this.2.2 j h3 j h4 rfl
 have hnd:node∈x.ss.drop p:=by
  rw[List.mem_iff_getElem?]
  exact⟨0,by rw[List.getElem?_drop];exact hp⟩
 have hsub:(fs'.map fun p:Nat×Nat=>p.1).Sublist (x.ss.take p):=US (hm▸hg.sub) hp fun j hj e=>by
  have:=UT hg.nd hp e;omega
 have h0:∀b,(x.ss.take p)[0]?=some b→x.ss[0]?=some b:=fun b hb=>by
  rw[List.getElem?_take]at hb
  split at hb
  ·exact hb
  ·cases hb
 refine⟨⟨hg.lm,hg.ll,hop,Zr,fun j hj=>hg.lt j (htk j hj),hg.nd.sublist (List.take_sublist _ _),hsub,fun hne=>?_,fun e=>?_,hg.cnt,hg.inc.sublist (List.take_sublist _ _),fun j hj=>hg.pos j (htk j hj),fun b hb j hj=>hg.low b (h0 b hb) j (htk j hj),fun j=>?_⟩,?_⟩
 ·have hpp:0<p:=by
   refine Nat.pos_of_ne_zero fun e=>?_
   subst e
   have hs2:=hsub.length_le
   simp at hs2
   exact hne hs2
  show(x.ss.take p)[0]?=_
  rw[List.getElem?_take,if_pos hpp,hg.hd (by rw[hf];simp),hm]
  cases fs' with
  |nil=>exact absurd rfl hne
  |cons a r=>rfl
 ·have e:fs'=[]:=e
  subst e
  have:=hg.hd (by rw[hf];simp)
  rw[hm]at this
  have:=UT hg.nd hp this
  show x.ss.take p=[]
  rw[this];rfl
 ·show op[j]?.getD false=true↔j∈x.ss.take p
  rw[h1]
  by_cases e:j∈x.ss.drop p
  ·rw[if_pos e]
   exact⟨(fun g=>by cases g),fun g=>absurd e (acX j g)⟩
  ·rw[if_neg e,hg.op,aaF]
   exact⟨fun g=>g.resolve_right e,.inl⟩
 ·rcases h with h|⟨cl,h⟩
  ·left
   rcases h with⟨j,h⟩|⟨w,hw,h⟩
   ·refine .inl ⟨j,?_⟩
    show sf[j]?.getD false=true
    rw[h2,h];simp
   ·rcases(aaF w).1 hw with g|g
    ·exact .inr ⟨w,g,h.imp (fun h k=>h (by rw[hm];exact List.mem_append_left _ k)) id⟩
    ·have hwn:w≠node:=fun e=>by
      subst e
      rcases h with h|h
      ·exact h (by rw[hm];simp)
      ·omega
     refine .inl ⟨w,?_⟩
     show sf[w]?.getD false=true
     rw[h2,if_pos g]
     have:1<x.ss.length -p:=by
      obtain⟨i,hi⟩:=List.mem_iff_getElem?.1 g
      rw[List.getElem?_drop]at hi
      have hil:=(List.getElem?_eq_some_iff.1 hi).1
      have:i≠0:=fun e=>by
       subst e
       rw[Nat.add_zero,hp]at hi
       cases hi;exact hwn rfl
      omega
     simp[this]
  ·right
   have hss:x.ss=fs'.map (fun p:Nat×Nat=>p.1)++[node]:=h.ss.trans hm
   have hpe:p=fs'.length:=UT hg.nd hp (by rw[hss,List.getElem?_append_right (by simp)];simp)
   have ht:x.ss.take p=fs'.map (fun p:Nat×Nat=>p.1):=by rw[hss,hpe,List.take_append_of_le_length (by simp),List.take_of_length_le (by simp)]
   have hd:x.ss.drop p=[node]:=by rw[hss,hpe,List.drop_append_of_le_length (by simp),List.drop_of_length_le (by simp)];rfl
   have hc:x.ss.length -p=1:=by rw[hss,hpe];simp
   refine⟨cl++[node],fun j=>?_,ht,fun j hj=>h.lo j (htk j hj),fun j hj=>?_,fun j hj=>?_,fun i c hi t htr htn=>?_,fun A B a k e k' t hk' hr2 htn=>?_⟩
   ·show sf[j]?.getD false=false
    rw[h2,hc,h.sf];simp
   ·show x.m j≠0↔j∈x.ss.take p∨j∈cl++[node]
    rw[h.met j hj,aaF,hd,List.mem_append]
    constructor
    ·rintro((g|g)|g)
     ·exact .inl g
     ·exact .inr (.inr g)
     ·exact .inr (.inl g)
    ·rintro(g|g|g)
     ·exact .inl (.inl g)
     ·exact .inr g
     ·exact .inl (.inr g)
   ·show j∉x.ss.take p
    rcases List.mem_append.1 hj with g|g
    ·exact fun k=>h.dis j g (htk j k)
    ·simp at g;subst g
     exact fun k=>acX j k hnd
   ·rcases Nat.lt_or_ge i cl.length with g|g
    ·rw[List.getElem?_append_left g]at hi
     obtain⟨j,hj,e⟩:=h.cls i c hi t htr htn
     exact⟨j,hj,by rw[List.getElem?_append_left aa];exact e⟩
    ·have:i=cl.length:=by
      have:=(List.getElem?_eq_some_iff.1 hi).1
      simp at this;omega
     subst this
     rw[List.getElem?_append_right (Nat.le_refl _)]at hi
     simp at hi;subst hi
     obtain⟨k',hk'⟩:=List.mem_iff_getElem?.1 htr
     have hkl:=(List.getElem?_eq_some_iff.1 hk').1
     rcases h.fr fs' [] node nx hf k' t aa hk' htn with g2|⟨_,_,_,g2⟩
     ·obtain⟨j,hj⟩:=List.mem_iff_getElem?.1 g2
      have:=(List.getElem?_eq_some_iff.1 hj).1
      exact⟨j,this,by rw[List.getElem?_append_left this];exact hj⟩
     ·cases g2
   ·have e:fs'=A++(a,k)::B:=e
    rcases h.fr A (B++[(node,nx)]) a k (by rw[hf,e];simp) k' t hk' hr2 htn with g|⟨g1,k2,B2,g2⟩
    ·exact .inl (List.mem_append_left _ g)
    ·cases B with
     |nil=>cases g2;exact .inl (by simp)
     |cons c B=>cases g2;exact .inr ⟨g1,_,_,rfl⟩
end fin
theorem Tj.done(h:Tj n row x)(hf:x.fs=[])(hm:∀j,j<n→x.m j≠0)(hs:∀j,x.f j=false):∃rk:Nat→Nat,∀i,i<n→∀t∈row i,t<n→rk t<rk i:=by
 obtain⟨hg,h⟩:=h
 have hss:=hg.emp hf
 rcases h with(⟨j,h⟩|⟨w,hw,_⟩)|⟨cl,h⟩
 ·rw[hs]at h;cases h
 ·rw[hss]at hw;cases hw
 refine⟨fun s=>cl.idxOf s,fun i hi t ht htn=>?_⟩
 have hin:∀j,j<n→j∈cl:=fun j hj=>((h.met j hj).1 (hm j hj)).resolve_left fun g=>by rw[hss]at g;cases g
 have h1:=hin i hi
 obtain⟨j,hj,e⟩:=h.cls (cl.idxOf i) i (by rw[List.getElem?_eq_getElem (List.idxOf_lt_length_of_mem h1)];simp) t ht htn
 have:=At.Dl e
 show cl.idxOf t<cl.idxOf i
 omega
end
section
variable{H0 H:ae}{L M:List aC}{S:List Nat}{F:Nat→Prop}{Q:Int→Prop}{r n c:Nat}{ty:TypeId}
def gL(l:List Nat):Nat→Nat
 |0=>0
 |i +1=>l.getD i 0
theorem aaG{l:List Nat}(hn:l.Pairwise (·≠·)):∀i j,1≤i→i≤l.length→1≤j→j≤l.length→gL l i=gL l j→i=j:=by
 have key:∀i j,i<l.length→j<l.length→i<j→l.getD i 0≠l.getD j 0:=fun i j h1 h2 h3=>by
  rw[List.getD_eq_getElem?_getD,List.getD_eq_getElem?_getD,List.getElem?_eq_getElem h1,List.getElem?_eq_getElem h2]
  exact List.pairwise_iff_getElem.1 hn i j h1 h2 h3
 intro i j h1 h2 h3 h4 e
 obtain⟨i,rfl⟩:∃k,i=k +1:=⟨i -1,aa⟩
 obtain⟨j,rfl⟩:∃k,j=k +1:=⟨j -1,aa⟩
 have e:l.getD i 0=l.getD j 0:=e
 rcases Nat.lt_trichotomy i j with h|h|h
 ·exact absurd e (key i j aa aa h)
 ·rw[h]
 ·exact absurd e.symm (key j i aa aa h)
theorem aaH{ops:Array Oper}{C:Nat→Nat→Nat→Nat→Nat→Nat→Nat→List Cl}{a b c d e f g:Nat}{K:Prop}(hn:[a,b,c,d,e,f,g].Pairwise (·≠·))(hC:∀a b c d e f g,C a b c d e f g=(C 1 2 3 4 5 6 7).map (jX (gL [a,b,c,d,e,f,g])))(hk:all' (tC 7) (C 1 2 3 4 5 6 7)=true)(h:bO ops ((C 1 2 3 4 5 6 7).map kill)=true)(k:K):bO ops (C a b c d e f g)=true∧K:=by
 refine⟨?_,k⟩
 rw[hC]
 exact tH (m:=7) (aaG hn) hk h
structure CY where
 (ct m l o dm dl dO s ds st fr:Nat)
def uZ:List (Nat×Nat)→List Value
 |[]=>[]
 |p::l=>vn p.1::vn p.2::uZ l
theorem GR(a b:List (Nat×Nat)):uZ (a++b)=uZ a++uZ b:=by
 induction a with
 |nil=>rfl
 |cons p l ih=>show vn p.1::vn p.2::uZ (l++b)=_;rw[ih];rfl
theorem rA(a:List (Nat×Nat)):(uZ a).length=a.length*2:=by
 induction a with
 |nil=>rfl
 |cons p l ih=>show(uZ l).length +2=_;rw[ih,List.length_cons];omega
def Cy(q:CY)(n:Nat)(x:rP)(M:List aC):Prop:=∃Aq Mg w9 JR,
 M=(q.ct,3,[vn x.cnt])::(q.m,23,[.slice (some ⟨q.dm,0,none⟩) n n])::(q.l,23,[.slice (some ⟨q.dl,0,none⟩) n n])::(q.o,36,[.slice (some ⟨q.dO,0,none⟩) n n])::(q.dm,3,x.ms.map vi)::(q.dl,3,x.lo.map vi)::(q.dO,4,x.op.map .bool)::(q.s,36,[.slice (some ⟨q.ds,0,none⟩) n n])::(q.ds,4,x.sf.map .bool)::(q.st,23,[Aq])::(q.fr,253,[Mg])::(w9++JR)∧
 x.ms.length=n∧x.lo.length=n∧x.op.length=n∧x.sf.length=n∧GB 3 1 Aq (x.ss.map fun j=>vn j) w9∧GB 255 2 Mg (uZ x.fs) JR
structure u_(n:Nat)(x:rP):Prop where
 cnt:x.cnt +x.ms.count 0=n
 fs:∀p∈x.fs,p.1<n∧p.2≤1000000
 ss:∀j∈x.ss,j<n
 sub:(x.fs.map (·.1)).Sublist x.ss
 sl:x.ss.length≤x.cnt
 fl:x.fs.length≤x.cnt
abbrev mQ(q:CY):Value:=.func (.func 184) ⟨[]⟩ ⟨[pr q.ct,pr q.m,pr q.l,pr q.o,pr q.st,pr q.fr]⟩
theorem Dm{q:CY}{x:rP}{k:Nat}(hn:n≤1000)(hC:Cy q n x M)(hO:u_ n x)(hk:k<n)(h0:x.ms[k]?=some 0)(hS:SH S H0 H (M++L)):
 ak Pg X 184 [vn k,pr q.ct,pr q.m,pr q.l,pr q.o,pr q.st,pr q.fr] H fun _ H'=>∃M',Cy q n (x.begin k) M'∧SH S H0 H' (M'++L):=by
 have hS0:=hS
 have hS:=hS.own
 obtain⟨Aq,Mg,w9,JR,rfl,h1,h2,h3,h4,h5,h6⟩:=hC
 have hcn:x.cnt≤n:=by have:=hO.cnt;omega
 refine ce [0,1,2,3,4,5,6] ?_;refine tl ?_
 refine hS.a_ ?_
 refine ay ?_
 repeat(first|(refine hS.az ?_)|(refine hS.iG ?_)|(refine hS.iB fun Hn hS=>?_))
 refine PU.of (iF hk) ?_
 rw[Nat.zero_add]
 refine hS.qf (fun H2 hS=>?_) rfl (by rw[List.length_map];show k +1≤_;omega) rfl
 refine PU.of (iF hk) ?_
 rw[Nat.zero_add]
 (try simp only[aZ hS.wf])
 refine hS.qf (fun H3 hS=>?_) rfl (by rw[List.length_map];show k +1≤_;omega) rfl
 refine PU.of (iF hk) ?_
 rw[Nat.zero_add]
 (try simp only[aZ hS.wf])
 refine hS.qf (fun H4 hS=>?_) rfl (by rw[List.length_map];show k +1≤_;omega) rfl
 have hne:[q.ct,q.m,q.l,q.o,q.dm,q.dl,q.dO].Pairwise (·≠·):=by
  have h:List.Pairwise (·≠·) ([q.ct,q.m,q.l,q.o,q.dm,q.dl,q.dO]++q.s::q.ds::q.st::q.fr::(w9++JR).map (fun e:aC=>e.1)):=(List.pairwise_map (f:=fun e:aC=>e.1)).2 hS.ne
  exact(List.pairwise_append.1 h).1
 refine splitK (fun K hK=>?_) ?_
 ·simp only[aN,aQ]
  generalize q.ct=ct at hne⊢
  generalize q.m=mm at hne⊢
  generalize q.l=ll at hne⊢
  generalize q.o=oo at hne⊢
  generalize q.dm=dm at hne⊢
  generalize q.dl=dl at hne⊢
  generalize q.dO=dO at hne⊢
  apply aaH hne (by intros;rfl) (by kernel_rfl) (by kernel_rfl) hK
 have hS:SH _ H _ ((q.ct,3,[vn (x.cnt +1)])::(q.m,23,[.slice (some ⟨q.dm,0,none⟩) n n])::(q.l,23,[.slice (some ⟨q.dl,0,none⟩) n n])::(q.o,36,[.slice (some ⟨q.dO,0,none⟩) n n])::(q.dm,3,splice (x.ms.map vi) k [vi ((x.cnt +1:Nat):Int)])::(q.dl,3,splice (x.lo.map vi) k [vi ((x.cnt +1:Nat):Int)])::(q.dO,4,splice (x.op.map .bool) k [.bool true])::(q.s,36,[.slice (some ⟨q.ds,0,none⟩) n n])::(q.ds,4,x.sf.map .bool)::(q.st,23,[Aq])::(q.fr,253,[Mg])::(w9++JR)):=hS
 rw[gF vi aa,gF vi aa,gF Value.bool aa]at hS
 generalize hM (hM (hM Hn _) _) H4=H5 at*
 have hl5:x.ss.length≤1000:=by have:=hO.sl;omega
 have VY:(uZ x.fs).length≤2000:=by rw[rA];have:=hO.fl;omega
 obtain⟨a5,n5,c5,rfl⟩:∃a n c,Aq=.slice a n c:=by rcases h5 with⟨rfl,_⟩|⟨r,n,aF,rfl,_⟩<;>exact⟨_,_,_,rfl⟩
 obtain⟨a6,n6,c6,rfl⟩:∃a n c,Mg=.slice a n c:=by rcases h6 with⟨rfl,_⟩|⟨r,n,aF,rfl,_⟩<;>exact⟨_,_,_,rfl⟩
 refine hS.a_ ?_
 refine hS.bS rfl rfl rfl aa fun H7 rx Db=>?_
 have Db:=Db.perm (List.Perm.cons _ (rO [_,_,_,_,_,_,_,_,_,_,_] w9 JR))
 obtain⟨v',H8,Qn,e8,hg',VV,_⟩:=h5.app (m:=0) (cx:=1) Db aa rfl rfl aa (by rw[List.length_map];omega)
 refine ME.of e8 ?_
 have hS:=VV.perm (rO Qn [_,_,_,_,_,_,_,_,_,_,_] JR)
 simp only[List.cons_append,List.nil_append]at hS
 obtain⟨a7,n7,c7,rfl⟩:∃a n c,v'=.slice a n c:=by rcases hg' with⟨rfl,_⟩|⟨r,n,aF,rfl,_⟩<;>exact⟨_,_,_,rfl⟩
 refine hS.iB fun Hn hS=>?_;refine hS.a_ ?_;refine PU.b2 rfl ?_;refine hS.az ?_
 refine hS.bS rfl rfl rfl aa fun H9 ry UL=>?_
 have UL:=UL.perm (List.Perm.cons _ (((List.Perm.append_left [_,_,_,_,_,_,_,_,_,_,_] (List.perm_append_comm (l₁:=Qn) (l₂:=JR)))).trans (rO [_,_,_,_,_,_,_,_,_,_,_] JR Qn)))
 obtain⟨w',GU,aaI,e10,acY,aay,_⟩:=h6.app (m:=0) (cx:=1) UL aa rfl rfl aa aa
 refine ME.of e10 ?_
 have hS:=(aay.perm (rO aaI [_,_,_,_,_,_,_,_,_,_,_] Qn)).perm (List.Perm.append_left [_,_,_,_,_,_,_,_,_,_,_] (List.perm_append_comm (l₁:=aaI) (l₂:=Qn)))
 simp only[List.cons_append,List.nil_append]at hS
 obtain⟨a8,n8,c8,rfl⟩:∃a n c,w'=.slice a n c:=by rcases acY with⟨rfl,_⟩|⟨r,n,aF,rfl,_⟩<;>exact⟨_,_,_,rfl⟩
 refine hS.iB fun Hn hS=>?_
 refine rn ?_;refine⟨_,⟨.slice a7 n7 c7,.slice a8 n8 c8,Qn,aaI,rfl,?_,?_,?_,h4,?_,?_⟩,?_⟩
 ·show(x.ms.set k _).length=n
  rw[List.length_set];exact h1
 ·show(x.lo.set k _).length=n
  rw[List.length_set];exact h2
 ·show(x.op.set k _).length=n
  rw[List.length_set];exact h3
 ·show GB 3 1 _ ((x.ss++[k]).map fun j=>vn j) _
  rw[List.map_append];exact hg'
 ·show GB 255 2 _ (uZ (x.fs++[(k,0)])) _
  rw[GR];exact acY
 ·have hF:=SH.frame (M:=(q.ct,3,[vn x.cnt])::(q.m,23,[.slice (some ⟨q.dm,0,none⟩) n n])::(q.l,23,[.slice (some ⟨q.dl,0,none⟩) n n])::(q.o,36,[.slice (some ⟨q.dO,0,none⟩) n n])::(q.dm,3,x.ms.map vi)::(q.dl,3,x.lo.map vi)::(q.dO,4,x.op.map .bool)::(q.s,36,[.slice (some ⟨q.ds,0,none⟩) n n])::(q.ds,4,x.sf.map .bool)::(q.st,23,[.slice a5 n5 c5])::(q.fr,253,[.slice a6 n6 c6])::(w9++JR)) hS0 hS
  exact hF
end
section
variable{H0 H:ae}{L M:List aC}{S:List Nat}{F:Nat→Prop}{Q:Int→Prop}{r n c:Nat}{ty:TypeId}
theorem ifB{α:Type}{p q:Prop}[Decidable p][Decidable q]{a b:α}(h:p↔q):(if p then a else b)=if q then a else b:=by
 by_cases g:p
 ·rw[if_pos g,if_pos (h.1 g)]
 ·rw[if_neg g,if_neg fun k=>g (h.2 k)]
def EnF(x:rP)(p j:Nat)(op sf:List Bool):Prop:=(∀t,op[t]?.getD false=if t∈(x.ss.drop p).take j then false else x.o t)∧∀t,sf[t]?.getD false=if t∈(x.ss.drop p).take j then(x.f t||decide (1<x.ss.length -p))else x.f t
theorem EnF.succ{x:rP}{p j z:Nat}{op sf:List Bool}{b:Bool}(h:EnF x p j op sf)(hz:x.ss[p +j]?=some z)(ho:z<op.length)(hs:z<sf.length)(hb:b=(sf[z]'hs||decide (1<x.ss.length -p))):EnF x p (j +1) (op.set z false) (sf.set z b):=by
 have hm:∀t,t∈(x.ss.drop p).take (j +1)↔t∈(x.ss.drop p).take j∨t=z:=fun t=>by
  rw[List.take_add_one,List.getElem?_drop,hz];simp
 refine⟨fun t=>?_,fun t=>?_⟩
 ·rw[mI ho]
  by_cases e:z=t
  ·subst e
   rw[if_pos rfl,if_pos ((hm _).2 (.inr rfl))]
  ·rw[if_neg e,h.1,ifB (show t∈(x.ss.drop p).take j↔t∈(x.ss.drop p).take (j +1) by rw[hm];exact⟨.inl,fun h=>h.resolve_right fun h=>e h.symm⟩)]
 ·rw[mI hs]
  by_cases e:z=t
  ·subst e
   rw[if_pos rfl,if_pos ((hm _).2 (.inr rfl)),hb]
   have:=h.2 z
   rw[List.getElem?_eq_getElem hs]at this
   have h2:sf[z]=_:=this
   rw[h2]
   split
   ·cases x.f z<;>cases decide (1<x.ss.length -p)<;>rfl
   ·rfl
  ·rw[if_neg e,h.2,ifB (show t∈(x.ss.drop p).take j↔t∈(x.ss.drop p).take (j +1) by rw[hm];exact⟨.inl,fun h=>h.resolve_right fun h=>e h.symm⟩)]
theorem UW{q:CY}{x:rP}{k:Nat}(hn:n≤1000)(hC:Cy q n x M)(hO:u_ n x)(hk:k<n)(hm:k∈x.ss)(hS:SH S H0 H (M++L)):
 ak Pg X 185 [vn k,pr q.st,pr q.o,pr q.s] H fun _ H'=>∃(p:Nat)(op sf:List Bool)(M':List aC),x.ss[p]?=some k∧(∀j,p<j→x.ss[j]?≠some k)∧EnF x p (x.ss.length -p) op sf∧Cy q n {x with op:=op,sf:=sf,ss:=x.ss.take p} M'∧SH S H0 H' (M'++L):=by
 have hS0:=hS
 have hS:=hS.own
 obtain⟨Aq,Mg,w9,JR,rfl,h1,h2,h3,h4,h5,h6⟩:=hC
 have hcn:x.cnt≤n:=by have:=hO.cnt;omega
 have hl5:x.ss.length≤1000:=by have:=hO.sl;omega
 rcases h5 with⟨rfl,e,rfl⟩|⟨rt,sn,aF,rfl,hsn,rfl⟩
 ·exfalso
  cases hss:x.ss with
  |nil=>rw[hss]at hm;cases hm
  |cons a l=>rw[hss]at e;cases e
 rw[List.length_map,Nat.mul_one]at hsn
 subst hsn
 refine ce [0,1,2,3,5,7,21,22,23] ?_;refine tl ?_
 refine hS.a_ ?_;refine hS.az ?_
 have hpos:1≤x.ss.length:=by
  cases hss:x.ss with
  |nil=>rw[hss]at hm;cases hm
  |cons a l=>simp
 refine aH ?_
 refine yD 5 (I:=fun m x5 H'=>∃p:Nat,x5=vn p∧p=m∧p<x.ss.length∧(∀j,p<j→x.ss[j]?≠some k)∧SH _ H H' _) ?_ (x.ss.length -1) ⟨x.ss.length -1,by rw[show((x.ss.length:Int) -1)=((x.ss.length -1:Nat):Int) by omega];rfl,rfl,aa,fun j hj=>by rw[List.getElem?_eq_none aa];simp,hS⟩
 clear hS
 rintro m x5 rg H1 ⟨p,rfl,rfl,hp,hlast,hS⟩
 refine tl ?_
 refine hS.az ?_;refine hS.a_ ?_
 refine PU.of (iF hp) ?_
 rw[Nat.zero_add]
 refine hS.ld 11 rfl (v:=vn x.ss[p]) (by rw[List.getElem?_append_left (by rw[List.length_map];exact hp),List.getElem?_map,List.getElem?_eq_getElem hp];rfl) ?_
 refine au ?_
 refine aO (fun hc=>?_) (fun hc=>?_)
 ·obtain⟨i,hi,hik⟩:=List.getElem_of_mem hm
  have hip:i<p:=by
   rcases Nat.lt_trichotomy i p with h|h|h
   ·exact h
   ·subst h
    exact absurd (by rw[hik]) hc
   ·exact absurd (by rw[List.getElem?_eq_getElem hi,hik]) (hlast i h)
  refine aH ?_
  refine⟨p -1,aa,_,_,_,rfl,p -1,by rw[show((p:Int) -1)=((p -1:Nat):Int) by omega],rfl,aa,fun j hj=>?_,hS⟩
  rcases Nat.lt_or_ge p j with h|h
  ·exact hlast j h
  ·obtain rfl:j=p:=by omega
   rw[List.getElem?_eq_getElem hp]
   intro e
   exact hc (by rw[Option.some.inj e])
 have hpk:x.ss[p]?=some k:=by rw[List.getElem?_eq_getElem hp];congr 1;omega
 refine tl ?_
 refine hS.a_ ?_
 refine PU.of (Me aa) ?_
 rw[Nat.zero_add]
 refine au ?_
 refine lp2 7 23 (I:=fun m x7 qi H'=>∃(j:Nat)(op sf:List Bool),qi=vn j∧j +m=x.ss.length -p∧op.length=n∧sf.length=n∧EnF x p j op sf∧SH (List.map (fun e:aC=>e.1) ((q.ct,3,[vn x.cnt])::(q.m,23,[.slice (some ⟨q.dm,0,none⟩) n n])::(q.l,23,[.slice (some ⟨q.dl,0,none⟩) n n])::(q.o,36,[.slice (some ⟨q.dO,0,none⟩) n n])::(q.dm,3,x.ms.map vi)::(q.dl,3,x.lo.map vi)::(q.dO,4,x.op.map .bool)::(q.s,36,[.slice (some ⟨q.ds,0,none⟩) n n])::(q.ds,4,x.sf.map .bool)::(q.st,23,[.slice (some ⟨rt,0,none⟩) x.ss.length (aK 1)])::(q.fr,253,[Mg])::([(rt,3,(x.ss.map fun j=>vn j)++aF)]++JR))) H H' ((q.ct,3,[vn x.cnt])::(q.m,23,[.slice (some ⟨q.dm,0,none⟩) n n])::(q.l,23,[.slice (some ⟨q.dl,0,none⟩) n n])::(q.o,36,[.slice (some ⟨q.dO,0,none⟩) n n])::(q.dm,3,x.ms.map vi)::(q.dl,3,x.lo.map vi)::(q.dO,4,op.map .bool)::(q.s,36,[.slice (some ⟨q.ds,0,none⟩) n n])::(q.ds,4,sf.map .bool)::(q.st,23,[.slice (some ⟨rt,0,none⟩) x.ss.length (aK 1)])::(q.fr,253,[Mg])::(rt,3,(x.ss.map fun j=>vn j)++aF)::JR)) ?_ (x.ss.length -p) ⟨0,x.op,x.sf,rfl,aa,h3,h4,⟨fun t=>by simp[rP.o],fun t=>by simp[rP.f]⟩,hS⟩
 clear hS
 rintro m x7 qi rg H1 ⟨j,op,sf,rfl,hjm,ho,hs,hE,hS⟩
 refine tl ?_
 refine au ?_
 refine ah (fun hc2=>?_) (fun hc2=>?_)
 rotate_left
 ·refine tl ?_
  refine hS.a_ ?_
  refine PU.of (tq aa) ?_
  refine hS.iB fun Hn hS=>?_
  refine rn ?_;refine⟨p,op,sf,_,hpk,hlast,by rw[show x.ss.length -p=j by omega];exact hE,⟨.slice (some ⟨rt,0,none⟩) p (aK 1),Mg,[(rt,3,((x.ss.take p).map fun j=>vn j)++(((x.ss.drop p).map fun j=>vn j)++aF))],JR,rfl,h1,h2,ho,hs,?_,h6⟩,?_⟩
  ·exact .inr ⟨rt,p,_,rfl,by rw[List.length_map,List.length_take];omega,rfl⟩
  ·have hF:=SH.frame (M:=(q.ct,3,[vn x.cnt])::(q.m,23,[.slice (some ⟨q.dm,0,none⟩) n n])::(q.l,23,[.slice (some ⟨q.dl,0,none⟩) n n])::(q.o,36,[.slice (some ⟨q.dO,0,none⟩) n n])::(q.dm,3,x.ms.map vi)::(q.dl,3,x.lo.map vi)::(q.dO,4,x.op.map .bool)::(q.s,36,[.slice (some ⟨q.ds,0,none⟩) n n])::(q.ds,4,x.sf.map .bool)::(q.st,23,[.slice (some ⟨rt,0,none⟩) x.ss.length (aK 1)])::(q.fr,253,[Mg])::([(rt,3,(x.ss.map fun j=>vn j)++aF)]++JR)) hS0 hS
   rw[←List.append_assoc,←List.map_append,List.take_append_drop]
   exact hF
 have hpj:p +j<x.ss.length:=by omega
 refine PU.of (iF aa) ?_
 refine hS.ld 11 rfl (v:=vn x.ss[p +j]) (by rw[List.getElem?_append_left (by rw[List.length_map];exact hpj),List.getElem?_map,List.getElem?_eq_getElem hpj];rfl) ?_
 have hzn:x.ss[p +j]<n:=hO.ss _ (List.getElem_mem hpj)
 have hzp:=List.getElem?_eq_getElem hpj
 generalize x.ss[p +j]=z at hzn hzp
 refine hS.a_ ?_
 refine PU.of (iF hzn) ?_
 rw[Nat.zero_add]
 refine hS.st 6 rfl rfl (by rw[List.length_map];show z +1≤_;omega) rfl fun H2 hS=>?_
 simp only[List.set_cons_succ,List.set_cons_zero]at hS
 have hS:=hS
 repeat(first|(refine hS.az ?_)|(refine hS.iG ?_))
 refine PU.of (iF hzn) ?_
 rw[Nat.zero_add]
 refine hS.iG (v:=.bool (sf[z]'aa)) ?_ (by rw[List.getElem?_map,List.getElem?_eq_getElem (show z<sf.length by omega)];rfl)
 refine au ?_
 have hS1:=hS
 refine aA (fun hb=>?_) (fun hb=>?_)
 ·refine PU.of (iF hzn) ?_
  rw[Nat.zero_add]
  (try simp only[aZ hS.wf])
  refine hS.qf (fun H3 hS=>?_) rfl (by rw[List.length_map];show z +1≤_;omega) rfl
  refine splitK (fun K hK=>?_) ?_
  ·simp only[aN,aQ]
   have n1:q.ds≠q.s:=(hS1.nq 7 8 rfl rfl aa).symm
   generalize q.ds=ds at n1⊢
   generalize q.s=qs at n1⊢
   apply oG n1 (by intros;rfl) (by kernel_rfl) (by kernel_rfl) hK
  refine ay ?_
  refine⟨x.ss.length -p -(j +1),aa,_,_,_,_,rfl,j +1,op.set z false,sf.set z true,iC,aa,by rw[List.length_set];exact ho,by rw[List.length_set];exact hs,hE.succ hzp aa aa (by rw[hb];rfl),?_⟩
  rw[←gF Value.bool aa,←gF Value.bool aa]
  exact hS
 ·(try simp only[aZ hS.wf])
  refine hS.iG ?_
  refine hS.az ?_
  refine aH ?_
  refine hS.az ?_
  have hbz:decide ((1:Int)<(x.ss.length:Int) -(p:Int))=(sf[z]'aa||decide (1<x.ss.length -p)):=by rw[hb,Bool.false_or];exact decide_eq_decide.2 aa
  generalize decide ((1:Int)<(x.ss.length:Int) -(p:Int))=bz at hbz
  refine PU.of (iF hzn) ?_
  rw[Nat.zero_add]
  (try simp only[aZ hS.wf])
  refine hS.qf (fun H3 hS=>?_) rfl (by rw[List.length_map];show z +1≤_;omega) rfl
  refine splitK (fun K hK=>?_) ?_
  ·simp only[aN,aQ]
   have n1:q.ds≠q.s:=(hS1.nq 7 8 rfl rfl aa).symm
   have n2:q.ds≠q.st:=(hS1.nq 8 9 rfl rfl aa)
   have n3:q.s≠q.st:=(hS1.nq 7 9 rfl rfl aa)
   generalize q.ds=ds at n1 n2⊢
   generalize q.s=qs at n1 n3⊢
   generalize q.st=qt at n2 n3⊢
   apply Gf n1 n2 n3 (by intros;rfl) (by kernel_rfl) (by kernel_rfl) hK
  refine ay ?_
  refine⟨x.ss.length -p -(j +1),aa,_,_,_,_,rfl,j +1,op.set z false,sf.set z bz,iC,aa,by rw[List.length_set];exact ho,by rw[List.length_set];exact hs,hE.succ hzp aa aa hbz,?_⟩
  rw[←gF Value.bool aa,←gF Value.bool aa]
  exact hS
end
section
variable{H0 H:ae}{L M:List aC}{S:List Nat}{F:Nat→Prop}{Q:Int→Prop}{r n c:Nat}{ty:TypeId}
abbrev AQ(q:CY):Value:=.func (.func 185) ⟨[]⟩ ⟨[pr q.st,pr q.o,pr q.s]⟩
theorem zx(fs:List (Nat×Nat))(a b:Nat)(aF:List Value):(uZ (fs++[(a,b)])++aF)[fs.length*2]?=some (vn a)∧(uZ (fs++[(a,b)])++aF)[fs.length*2 +1]?=some (vn b)∧∀b',splice (uZ (fs++[(a,b)])++aF) (fs.length*2 +1) [vn b']=uZ (fs++[(a,b')])++aF:=by
 have hl:=rA fs
 have e:∀b,uZ (fs++[(a,b)])++aF=uZ fs++(vn a::vn b::aF):=fun b=>by
  rw[GR,List.append_assoc];rfl
 refine⟨?_,?_,fun b'=>?_⟩
 ·rw[e,List.getElem?_append_right aa,hl,Nat.sub_self];rfl
 ·rw[e,List.getElem?_append_right aa,hl,show fs.length*2 +1 -fs.length*2=1 by omega];rfl
 ·rw[e,e,Dj (by rw[List.length_append,hl];simp),List.set_append_right _ _ aa,hl,show fs.length*2 +1 -fs.length*2=1 by omega];rfl
theorem wS:∀(l:List Int)(t:Nat)(v:Int),l[t]?=some 0→v≠0→(l.set t v).count 0 +1=l.count 0
 |[],t,v,h,_=>by simp at h
 |a::l,0,v,h,hv=>by
  have h:a=0:=by simpa using h
  subst h
  rw[List.set_cons_zero,List.count_cons_self,List.count_cons_of_ne hv]
 |a::l,t +1,v,h,hv=>by
  have ih:=wS l t v (by simpa using h) hv
  rw[List.set_cons_succ,List.count_cons,List.count_cons]
  omega
theorem u_.begin{x:rP}{t:Nat}(h:u_ n x)(ht:t<n)(h0:x.ms[t]?=some 0):u_ n (x.begin t):=by
 have hc:=wS x.ms t ((x.cnt +1:Nat):Int) h0 aa
 have h1:=h.cnt
 have h2:=h.sl
 have h3:=h.fl
 refine⟨?_,fun p hp=>?_,fun j hj=>?_,?_,?_,?_⟩
 ·show x.cnt +1 +(x.ms.set t _).count 0=n
  omega
 ·rcases List.mem_append.1 hp with h'|h'
  ·exact h.fs p h'
  ·rw[List.mem_singleton]at h';subst h';exact⟨ht,aa⟩
 ·rcases List.mem_append.1 hj with h'|h'
  ·exact h.ss j h'
  ·rw[List.mem_singleton]at h';subst h';exact ht
 ·show(List.map (fun p:Nat×Nat=>p.1) (x.fs++[(t,0)])).Sublist (x.ss++[t])
  rw[List.map_append]
  exact h.sub.append (List.Sublist.refl _)
 ·show(x.ss++[t]).length≤x.cnt +1
  rw[List.length_append];simp;omega
 ·show(x.fs++[(t,0)]).length≤x.cnt +1
  rw[List.length_append];simp;omega
abbrev Qo(q:CY)(n:Nat)(x:rP)(rf:Nat)(fr:List Value)(Mg Aq:Value)(w9:List aC):List aC:=
 (rf,255,fr)::(q.ct,3,[vn x.cnt])::(q.m,23,[.slice (some ⟨q.dm,0,none⟩) n n])::(q.l,23,[.slice (some ⟨q.dl,0,none⟩) n n])::(q.o,36,[.slice (some ⟨q.dO,0,none⟩) n n])::(q.dm,3,x.ms.map vi)::(q.dl,3,x.lo.map vi)::(q.dO,4,x.op.map .bool)::(q.s,36,[.slice (some ⟨q.ds,0,none⟩) n n])::(q.ds,4,x.sf.map .bool)::(q.st,23,[Aq])::(q.fr,253,[Mg])::w9
theorem JS{q:CY}{x:rP}{rf:Nat}{aF:List Value}{Aq:Value}{w9:List aC}(h1:x.ms.length=n)(h2:x.lo.length=n)(h3:x.op.length=n)(h4:x.sf.length=n)(h5:GB 3 1 Aq (x.ss.map fun j=>vn j) w9)(hS:SH S H0 H (Qo q n x rf (uZ x.fs++aF) (.slice (some ⟨rf,0,none⟩) x.fs.length (aK 2)) Aq w9)):∃M,Cy q n x M∧SH S H0 H M:=
 ⟨_,⟨Aq,_,w9,[_],rfl,h1,h2,h3,h4,h5,.inr ⟨rf,x.fs.length,aF,rfl,rA _,rfl⟩⟩,hS.perm (List.perm_append_comm (l₂:=_::_::_::_::_::_::_::_::_::_::_::w9) (l₁:=[_]))⟩
theorem getD_in{α:Type}{l:List α}{i:Nat}{d:α}{h:i<l.length}:l[i]?.getD d=l[i]:=by rw[List.getElem?_eq_getElem h];rfl
def Fh(n K:Nat)(rows:Nat→List Int)(H:ae)(v:Value):Prop:=∃a c vs,v=.slice a n c∧eO (fun _=>True) 23 H a n 1 vs∧∀i(h:i<vs.length),∃ra rc,vs[i]=.slice ra (rows i).length rc∧eO (fun _=>True) 3 H ra (rows i).length 1 ((rows i).map vi)∧(rows i).length≤K
def DF(n:Nat)(rows:Nat→List Int)(i:Nat):List Nat:=(rows i).map fun z:Int=>if 0≤z∧z<n then z.toNat else n
theorem aaJ{rows:Nat→List Int}{i k:Nat}(h:k<(rows i).length):(DF n rows i)[k]?=some (if 0≤(rows i)[k]∧(rows i)[k]<n then(rows i)[k].toNat else n):=by
 unfold DF
 rw[List.getElem?_map,List.getElem?_eq_getElem h];rfl
theorem JU{q:CY}{ua:Option Addr}{uc K:Nat}(hn:n≤1000)(hK:K≤1000000){rows:Nat→List Int}(hU:Fh n K rows H (.slice ua n uc)){Kp:Out→Prop}{b_ rH:Value}(x:rP)(M:List aC)(hC:Cy q n x M)(hO:u_ n x)(hT:Tj n (DF n rows) x){Z:Nat→Prop}(hZ:∀j,Z j→x.m j≠0)(bQ fU bU dJ:Value)(rg)(H1:ae)(hS:SH [] H H1 M)
 (kk:∀x M bQ fU bU dJ rg H1,Cy q n x M→u_ n x→Tj n (DF n rows) x→(∀j,Z j→x.m j≠0)→x.fs=[]→SH [] H H1 M→Kp (.exit 2 (cr (.slice ua n uc) (.slice none 0 0) (pr q.m) (pr q.l) (pr q.o) (pr q.s) (pr q.st) (pr q.fr) (pr q.ct) (mQ q) (AQ q) b_ bQ fU bU dJ (vn n) rH rg H1))):
 aT Pg X (.loop (sub dz [1,1,1,1,1,1,1,1,0,1,0,0,1,1,0,0,1,0,1,1,0,0])) (cr (.slice ua n uc) (.slice none 0 0) (pr q.m) (pr q.l) (pr q.o) (pr q.s) (pr q.st) (pr q.fr) (pr q.ct) (mQ q) (AQ q) b_ bQ fU bU dJ (vn n) rH rg H1) Kp:=by
 obtain⟨ua',uc',uvs,eu,hU1,hU2⟩:=hU
 cases eu
 refine Ht 13 14 15 16 (I:=fun m bQ fU bU dJ H'=>∃x M,Cy q n x M∧u_ n x∧Tj n (DF n rows) x∧(∀j,Z j→x.m j≠0)∧SH [] H H' M∧m=2*x.ms.count 0 +x.fs.length) ?_ _ ⟨x,M,hC,hO,hT,hZ,hS,rfl⟩
 clear hC hO hT hZ hS x M
 rintro m bQ fU bU dJ rg H1 ⟨x,M,hC,hO,hT,hZ,hS,hm⟩
 have hC0:=hC
 have hS0:=hS
 obtain⟨Aq,Mg,w9,JR,rfl,h1,h2,h3,h4,h5,h6⟩:=hC
 have hcn:x.cnt≤n:=by have:=hO.cnt;omega
 have hfl:=hO.fl
 refine tl ?_
 obtain⟨fa,fn,fc,rfl,hfn⟩:∃a m c,Mg=.slice a m c∧m=x.fs.length:=by
  rcases h6 with⟨rfl,e,_⟩|⟨r,m,aF,rfl,e,_⟩
  ·refine⟨_,_,_,rfl,?_⟩
   have:=rA x.fs
   rw[e]at this
   simp at this
   omega
  ·rw[rA]at e
   exact⟨_,_,_,rfl,aa⟩
 subst hfn
 repeat(first|(refine hS.az ?_)|(refine hS.a_ ?_))
 refine ah (fun hc=>?_) (fun hc=>?_)
 rotate_left
 ·exact kk x _ _ _ _ _ _ _ hC0 hO hT hZ (List.eq_nil_of_length_eq_zero aa) hS
 rcases h6 with⟨e,e',_⟩|⟨rf,fn,aF,e,hfe,rfl⟩
 ·exfalso
  have:=rA x.fs
  rw[e']at this
  simp at this
  omega
 cases e
 obtain⟨fs',p,hfs⟩:∃fs' p,x.fs=fs'++[p]:=by
  rcases List.eq_nil_or_concat x.fs with h|⟨l,p,h⟩
  ·rw[h]at hc;simp at hc
  ·exact⟨l,p,by rw[h,List.concat_eq_append]⟩
 obtain⟨node,nx⟩:=p
 have hlen:x.fs.length=fs'.length +1:=by rw[hfs];simp
 have vJ:node<n∧nx≤1000000:=hO.fs (node,nx) (by rw[hfs];simp)
 have hS:SH [] H H1 (Qo q n x rf (uZ (fs'++[(node,nx)])++aF) (.slice (some ⟨rf,0,none⟩) x.fs.length (aK 2)) Aq w9):=by
  rw[←hfs]
  exact hS.perm (List.perm_append_comm (l₁:=_::_::_::_::_::_::_::_::_::_::_::w9) (l₂:=[_]))
 refine hS.a_ ?_;refine hS.a_ ?_;refine hS.az ?_
 refine aH ?_
 rw[show((x.fs.length:Int) -1)=(fs'.length:Int) by omega]
 refine PU.of (oF aa) ?_
 rw[Nat.zero_add]
 refine au ?_
 refine hS.ld 0 rfl (zx fs' node nx aF).1 ?_
 obtain⟨r1,o1,hl1,e1,hr1,hc1⟩:=hU1.1.Qc vJ.1 uc
 obtain⟨ra,rc,hrow,hU3,hrn⟩:=hU2 _ hl1
 have ad6:∃rn,rn=(rows node).length:=⟨_,rfl⟩
 obtain⟨rn,ad7⟩:=ad6
 rw[←ad7]at hrow hU3 hrn
 rw[hrow]at hc1
 have top:∀(nx:Nat)(lo:List Int)(sf:List Bool){H':ae},lo.length=n→sf.length=n→SH [] H H' (Qo q n {x with lo:=lo,sf:=sf} rf (uZ (fs'++[(node,nx)])++aF) (.slice (some ⟨rf,0,none⟩) x.fs.length (aK 2)) Aq w9)→∃M,Cy q n {x with lo:=lo,sf:=sf,fs:=fs'++[(node,nx)]} M∧SH [] H H' M:=by
  intro nx lo sf H' g1 g2 g3
  have e:x.fs.length=(fs'++[(node,nx)]).length:=by rw[hlen];simp
  rw[e]at g3
  exact JS (x:={x with lo:=lo,sf:=sf,fs:=fs'++[(node,nx)]}) h1 g1 h3 g2 h5 g3
 have ad8:∀(nx:Nat)(lo:List Int)(sf:List Bool),nx≤1000000→u_ n {x with lo:=lo,sf:=sf,fs:=fs'++[(node,nx)]}:=by
  intro nx' lo sf hnx
  refine⟨hO.cnt,fun p hp=>?_,hO.ss,?_,hO.sl,?_⟩
  ·rcases List.mem_append.1 hp with h|h
   ·exact hO.fs p (by rw[hfs];exact List.mem_append_left _ h)
   ·rw[List.mem_singleton]at h;subst h;exact⟨vJ.1,hnx⟩
  ·have:=hO.sub
   rw[hfs]at this
   simpa using this
  ·show(fs'++[(node,nx')]).length≤x.cnt
   rw[List.length_append]
   simp
   omega
 refine yD 15 (I:=fun m15 bU H'=>∃(nx:Nat)(lo:List Int)(sf:List Bool),m15=rn -nx∧nx≤1000000∧lo.length=n∧sf.length=n∧Tj n (DF n rows) {x with lo:=lo,sf:=sf,fs:=fs'++[(node,nx)]}∧SH [] H H' (Qo q n {x with lo:=lo,sf:=sf} rf (uZ (fs'++[(node,nx)])++aF) (.slice (some ⟨rf,0,none⟩) x.fs.length (aK 2)) Aq w9)) ?_ _ ⟨nx,x.lo,x.sf,rfl,vJ.2,h2,h4,by rw[←hfs];exact hT,hS⟩
 clear hS hS0 hC0 hT
 rintro m15 y15 rg2 H2 ⟨nx,lo,sf,rfl,hnx,hlo,Zr,hT,hS⟩
 refine tl ?_
 refine au ?_
 refine hS.vC 0 rfl (zx fs' node nx aF).2.1 ?_
 rw[e1]
 refine hS.az ?_
 refine hS.zf hc1 hr1 ?_
 refine hS.az ?_;refine pK ?_
 refine ah (fun hc2=>?_) (fun hc2=>?_)
 rotate_left
 ·refine tl ?_
  have ad9:uZ (fs'++[(node,nx)])++aF=uZ fs'++(vn node::vn nx::aF):=by rw[GR,List.append_assoc];rfl
  rw[ad9]at hS
  have hin:node∈x.ss:=hO.sub.subset (by rw[hfs];simp)
  have hO2:∀lo sf,u_ n {x with lo:=lo,sf:=sf,fs:=fs'}:=fun lo sf=>by
   refine⟨hO.cnt,fun p hp=>hO.fs p (by rw[hfs];exact List.mem_append_left _ hp),hO.ss,?_,hO.sl,by show fs'.length≤x.cnt;omega⟩
   have:=hO.sub
   rw[hfs,List.map_append]at this
   exact(List.sublist_append_left _ _).trans this
  have last:∀(lo':List Int)(H':ae)(bU dJ:Value) rg,lo'.length=n→Tj n (DF n rows) {x with lo:=lo',sf:=sf,fs:=fs'++[(node,nx)]}→SH [] H H' (Qo q n {x with lo:=lo',sf:=sf,fs:=fs'} rf (uZ fs'++(vn node::vn nx::aF)) (.slice (some ⟨rf,0,none⟩) fs'.length (aK 2)) Aq w9)→aT Pg X (sub dz [1,1,1,1,1,1,1,1,0,1,0,0,1,1,0,0,1,0,1,1,0,0,1,0,1,1,1,1,1]) (cr (.slice ua n uc) (.slice none 0 0) (pr q.m) (pr q.l) (pr q.o) (pr q.s) (pr q.st) (pr q.fr) (pr q.ct) (mQ q) (AQ q) b_ (.pointer (some ⟨rf,fs'.length*2,none⟩)) (vn node) bU dJ (vn n) rH rg H') (iA 3 (wZ (fA (.slice ua n uc) (.slice none 0 0) (pr q.m) (pr q.l) (pr q.o) (pr q.s) (pr q.st) (pr q.fr) (pr q.ct) (mQ q) (AQ q) b_ (vn n) rH fun m bQ fU bU dJ H'=>∃x M,Cy q n x M∧u_ n x∧Tj n (DF n rows) x∧(∀j,Z j→x.m j≠0)∧SH [] H H' M∧m=2*List.count 0 x.ms +x.fs.length) m Kp)):=by
   intro lo' H' bU dJ rg aa8 hT hS
   refine tl ?_
   repeat(first|(refine hS.az ?_)|(refine hS.iG ?_))
   refine PU.of (iF vJ.1) ?_
   rw[Nat.zero_add]
   refine hS.vC 6 rfl (v:=vi (lo'[node]'aa)) (by show(lo'.map vi)[node]?=_;rw[List.getElem?_map,List.getElem?_eq_getElem (show node<lo'.length by omega)];rfl) ?_
   repeat(first|(refine hS.az ?_)|(refine hS.iG ?_))
   refine PU.of (iF vJ.1) ?_
   rw[Nat.zero_add]
   refine hS.vC 5 rfl (v:=vi (x.ms[node]'aa)) (by show(x.ms.map vi)[node]?=_;rw[List.getElem?_map,List.getElem?_eq_getElem (show node<x.ms.length by omega)];rfl) ?_
   refine hS.az ?_;refine pK ?_
   obtain⟨M2,hC2,hS2⟩:=JS (x:={x with lo:=lo',sf:=sf,fs:=fs'}) h1 aa8 h3 Zr h5 hS
   refine ah (fun hc6=>?_) (fun hc6=>?_)
   rotate_left
   ·exact⟨2*x.ms.count 0 +fs'.length,aa,_,_,_,_,_,_,rfl,_,M2,hC2,hO2 _ _,hT.stay rfl (fun e=>hc6 (by rw[←getD_in,←getD_in];exact e)),hZ,hS2,rfl⟩
   have Xy:SH [] H H' (M2++[]):=by rw[List.append_nil];exact hS2
   show ak Pg X 185 [vn node,pr q.st,pr q.o,pr q.s] H' _
   refine ak.mono (UW hn hC2 (hO2 _ _) vJ.1 hin Xy) ?_
   rintro v H4 ⟨p,op,sf',M3,hp,hlast,hE,XE,kH⟩
   rw[List.append_nil]at kH
   refine⟨2*x.ms.count 0 +fs'.length,aa,_,_,_,_,_,_,rfl,_,M3,XE,?_,hT.shut rfl (by rw[←getD_in,←getD_in]at hc6;exact hc6) ?_ hp ?_ ?_ (fun j=>?_) (fun j=>?_),hZ,kH,rfl⟩
   rotate_left
   ·unfold DF;rw[List.length_map];omega
   ·obtain⟨_,_,_,_,_,_,_,g,_⟩:=XE;exact g
   ·obtain⟨_,_,_,_,_,_,_,_,g,_⟩:=XE;exact g
   ·have:=hE.1 j;rw[List.take_of_length_le (by rw[List.length_drop];exact Nat.le_refl _)]at this;exact this
   ·have:=hE.2 j;rw[List.take_of_length_le (by rw[List.length_drop];exact Nat.le_refl _)]at this;exact this
   have hO3:=hO2 lo' sf
   refine⟨hO3.cnt,hO3.fs,fun j hj=>hO.ss j (List.mem_of_mem_take hj),?_,?_,hO3.fl⟩
   ·have:=hO.sub
    rw[hfs,List.map_append]at this
    exact US this hp hlast
   ·show(x.ss.take p).length≤x.cnt
    have:=hO.sl
    rw[List.length_take]
    omega
  refine hS.a_ ?_;refine hS.a_ ?_;refine hS.az ?_
  refine aH ?_
  rw[show((x.fs.length:Int) -1)=(fs'.length:Int) by omega]
  refine PU.of (tq aa) ?_
  refine hS.iB fun Hn hS=>?_;refine hS.a_ ?_;refine hS.az ?_
  have hS:SH [] H Hn (Qo q n {x with lo:=lo,sf:=sf,fs:=fs'} rf (uZ fs'++(vn node::vn nx::aF)) (.slice (some ⟨rf,0,none⟩) fs'.length (aK 2)) Aq w9):=hS
  refine ah (fun hc6=>?_) (fun hc6=>?_)
  rotate_left
  ·exact last _ _ _ _ _ hlo hT hS
  obtain⟨fs2,p2,XF⟩:∃fs2 p,fs'=fs2++[p]:=by
   rcases List.eq_nil_or_concat fs' with h|⟨l,p,h⟩
   ·rw[h]at hc6;simp at hc6
   ·exact⟨l,p,by rw[h,List.concat_eq_append]⟩
  obtain⟨up,un⟩:=p2
  have hup:up<n:=(hO.fs (up,un) (by rw[hfs,XF];simp)).1
  have JV:fs'.length=fs2.length +1:=by rw[XF];simp
  have hrow:uZ fs'=uZ (fs2++[(up,un)]):=by rw[XF]
  refine hS.a_ ?_;refine hS.a_ ?_;refine hS.az ?_
  refine aH ?_
  rw[show((fs'.length:Int) -1)=(fs2.length:Int) by omega]
  refine PU.of (oF aa) ?_
  rw[Nat.zero_add]
  refine au ?_
  refine hS.ld 0 rfl (v:=vn up) (by rw[hrow];exact(zx fs2 up un _).1) ?_
  repeat(first|(refine hS.az ?_)|(refine hS.iG ?_))
  refine PU.of (iF hup) ?_
  rw[Nat.zero_add]
  refine hS.vC 6 rfl (v:=vi (lo[up]'aa)) (by show(lo.map vi)[up]?=_;rw[List.getElem?_map,List.getElem?_eq_getElem (show up<lo.length by omega)];rfl) ?_
  repeat(first|(refine hS.az ?_)|(refine hS.iG ?_))
  refine PU.of (iF vJ.1) ?_
  rw[Nat.zero_add]
  refine hS.vC 6 rfl (v:=vi (lo[node]'aa)) (by show(lo.map vi)[node]?=_;rw[List.getElem?_map,List.getElem?_eq_getElem (show node<lo.length by omega)];rfl) ?_
  refine hS.az ?_
  refine PU.of (iF hup) ?_
  rw[Nat.zero_add]
  have n5:q.l≠q.dl:=hS.nq 3 6 rfl rfl aa
  have QX:=(hT.up (A:=fs2) (up:=up) (ku:=un) (node:=node) (nx:=nx) (by rw[XF])).1
  replace QX:Tj n (DF n rows) {x with lo:=lo.set up (min (lo[up]'aa) (lo[node]'aa)),sf:=sf,fs:=fs'++[(node,nx)]}:=by
   rw[←getD_in,←getD_in];exact QX
  generalize min (lo[up]'aa) (lo[node]'aa)=mn at QX⊢
  refine hS.Lm 6 rfl rfl (by rw[List.length_map];show up +1≤lo.length;omega) rfl fun H4 hS=>?_
  refine splitK (fun K hK=>?_) ?_
  ·simp only[aN,aQ]
   generalize q.l=ql at n5⊢
   generalize q.dl=dl at n5⊢
   apply oG n5 (by intros;rfl) (by kernel_rfl) (by kernel_rfl) hK
  have hS:SH [] H _ ((Qo q n {x with lo:=lo,sf:=sf,fs:=fs'} rf (uZ fs'++(vn node::vn nx::aF)) (.slice (some ⟨rf,0,none⟩) fs'.length (aK 2)) Aq w9).set 6 (q.dl,3,splice (lo.map vi) up [vi mn])):=hS
  rw[gF vi aa]at hS
  exact last (lo.set up mn) _ _ _ _ (by rw[List.length_set];exact hlo) QX hS
 refine hS.zf hc1 hr1 ?_
 refine hS.az ?_
 refine hS.vC 0 rfl (zx fs' node nx aF).2.1 ?_
 obtain⟨r2,o2,hl2,e2,hr2,hc2'⟩:=hU3.1.Qc (show nx<rn by omega) rc
 have hto:((rows node).map vi)[nx]=vi ((rows node)[nx]'aa):=List.getElem_map ..
 rw[hto]at hc2'
 have hrw:=aaJ (n:=n) (rows:=rows) (i:=node) (k:=nx) aa
 generalize(rows node)[nx]'aa=to at hrw hc2'
 rw[e2]
 refine hS.az ?_
 refine hS.zf hc2' hr2 ?_
 refine hS.az ?_;refine pK ?_
 refine hS.ld 0 rfl (zx fs' node nx aF).2.1 ?_
 refine ay ?_
 refine hS.st 0 rfl rfl (by rw[List.length_append,rA,List.length_append];show fs'.length*2 +1 +1≤(fs'.length +1)*2 +aF.length;omega) rfl fun H3 hS=>?_
 have hS:SH [] H H3 (Qo q n {x with lo:=lo,sf:=sf} rf (splice (uZ (fs'++[(node,nx)])++aF) (fs'.length*2 +1) [vn (nx +1)]) (.slice (some ⟨rf,0,none⟩) x.fs.length (aK 2)) Aq w9):=hS
 rw[(zx fs' node nx aF).2.2]at hS
 have fin:∀(b:Bool) rg,Az rg 83=.bool b→b=decide (to<0∨(n:Int)≤to)→aT Pg X (sub dz [1,1,1,1,1,1,1,1,0,1,0,0,1,1,0,0,1,0,1,1,0,0,1,0,1,1,0,0,0,1,0,1,1,0,1]) (cr (.slice ua n uc) (.slice none 0 0) (pr q.m) (pr q.l) (pr q.o) (pr q.s) (pr q.st) (pr q.fr) (pr q.ct) (mQ q) (AQ q) b_ (.pointer (some ⟨rf,fs'.length*2,none⟩)) (vn node) (vi to) dJ (vn n) rH rg H3) (iA 6 (iA 5 (wZ (dI (.slice ua n uc) (.slice none 0 0) (pr q.m) (pr q.l) (pr q.o) (pr q.s) (pr q.st) (pr q.fr) (pr q.ct) (mQ q) (AQ q) b_ (.pointer (some ⟨rf,fs'.length*2,none⟩)) (vn node) dJ (vn n) rH fun m15 bU H'=>∃(nx:Nat)(lo:List Int)(sf:List Bool),m15=rn -nx∧nx≤1000000∧lo.length=n∧sf.length=n∧Tj n (DF n rows) {x with lo:=lo,sf:=sf,fs:=fs'++[(node,nx)]}∧SH [] H H' (Qo q n {x with lo:=lo,sf:=sf} rf (uZ (fs'++[(node,nx)])++aF) (.slice (some ⟨rf,0,none⟩) x.fs.length (aK 2)) Aq w9)) (rn -nx) (iA 4 (kN Pg X (sub dz [1,1,1,1,1,1,1,1,0,1,0,0,1,1,0,0,1,0,1,1,0,0,1,0,1,1,1]) (iA 3 (wZ (fA (.slice ua n uc) (.slice none 0 0) (pr q.m) (pr q.l) (pr q.o) (pr q.s) (pr q.st) (pr q.fr) (pr q.ct) (mQ q) (AQ q) b_ (vn n) rH fun m bQ fU bU dJ H'=>∃x M,Cy q n x M∧u_ n x∧Tj n (DF n rows) x∧(∀j,Z j→x.m j≠0)∧SH [] H H' M∧m=2*List.count 0 x.ms +x.fs.length) m Kp))))))):=by
  intro b rg hb hto
  refine tl ?_
  rw[hb]
  refine au ?_
  have uY:∀pO H' lo' sf',lo'.length=n→sf'.length=n→Tj n (DF n rows) {x with lo:=lo',sf:=sf',fs:=fs'++[(node,nx +1)]}→SH [] H H' (Qo q n {x with lo:=lo',sf:=sf'} rf (uZ (fs'++[(node,nx +1)])++aF) (.slice (some ⟨rf,0,none⟩) x.fs.length (aK 2)) Aq w9)→∃m_1,m_1<rn -nx∧dI (.slice ua n uc) (.slice none 0 0) (pr q.m) (pr q.l) (pr q.o) (pr q.s) (pr q.st) (pr q.fr) (pr q.ct) (mQ q) (AQ q) b_ (.pointer (some ⟨rf,fs'.length*2,none⟩)) (vn node) dJ (vn n) rH (fun m15 bU H'=>∃(nx:Nat)(lo:List Int)(sf:List Bool),m15=rn -nx∧nx≤1000000∧lo.length=n∧sf.length=n∧Tj n (DF n rows) {x with lo:=lo,sf:=sf,fs:=fs'++[(node,nx)]}∧SH [] H H' (Qo q n {x with lo:=lo,sf:=sf} rf (uZ (fs'++[(node,nx)])++aF) (.slice (some ⟨rf,0,none⟩) x.fs.length (aK 2)) Aq w9)) m_1 (cr (.slice ua n uc) (.slice none 0 0) (pr q.m) (pr q.l) (pr q.o) (pr q.s) (pr q.st) (pr q.fr) (pr q.ct) (mQ q) (AQ q) b_ (.pointer (some ⟨rf,fs'.length*2,none⟩)) (vn node) (vi to) dJ (vn n) rH pO H'):=
   fun pO H' lo' sf' g1 g2 g3 g4=>⟨rn -(nx +1),aa,_,_,_,rfl,nx +1,lo',sf',rfl,aa,g1,g2,g3,g4⟩
  refine aA (fun hb2=>?_) (fun hb2=>?_)
  ·refine uY _ _ lo sf hlo Zr (hT.out (node:=node) rfl fun t hr ht=>?_) hS
   rw[hrw,if_neg (by have:=of_decide_eq_true (hto.symm.trans hb2);omega)]at hr
   cases hr;omega
  have aeH:=of_decide_eq_false (hto.symm.trans hb2)
  obtain⟨t,rfl⟩:∃j:Nat,to=j:=⟨to.toNat,aa⟩
  have htn:t<n:=by omega
  rw[if_pos aa,Int.toNat_natCast]at hrw
  refine ah (fun hc4=>?_) (fun hc4=>?_)
  ·refine hS.a_ ?_
   refine PU.of (iF vJ.1) ?_
   rw[Nat.zero_add]
   refine hS.st 9 rfl rfl (by rw[List.length_map];show node +1≤sf.length;omega) rfl fun H4 hS=>?_
   refine uY _ _ lo (sf.set node true) hlo (by rw[List.length_set];exact Zr) (hT.own (node:=node) rfl) ?_
   have hS:SH [] H H4 (Qo q n {x with lo:=lo,sf:=sf} rf (uZ (fs'++[(node,nx +1)])++aF) (.slice (some ⟨rf,0,none⟩) x.fs.length (aK 2)) Aq w9|>.set 9 (q.ds,4,splice (sf.map .bool) node [.bool true])):=hS
   rw[gF Value.bool aa]at hS
   exact hS
  refine hS.a_ ?_
  refine PU.of (iF htn) ?_
  rw[Nat.zero_add]
  refine hS.ld 5 rfl (v:=vi (x.ms[t]'aa)) (by show(x.ms.map vi)[t]?=_;rw[List.getElem?_map,List.getElem?_eq_getElem (show t<x.ms.length by omega)];rfl) ?_
  refine au ?_
  refine ah (fun Py=>?_) (fun Py=>?_)
  ·have hm0:x.ms[t]?=some 0:=by rw[List.getElem?_eq_getElem (show t<x.ms.length by omega),Py]
   obtain⟨M2,hC2,hS2⟩:=top (nx +1) lo sf hlo Zr hS
   have hO2:=ad8 (nx +1) lo sf aa
   have hS2:SH [] H H3 (M2++[]):=by rw[List.append_nil];exact hS2
   show ak Pg X 184 [vn t,pr q.ct,pr q.m,pr q.l,pr q.o,pr q.st,pr q.fr] H3 _
   refine ak.mono (Dm hn hC2 hO2 htn hm0 hS2) ?_
   rintro v H4 ⟨M3,XE,kH⟩
   rw[List.append_nil]at kH
   have hct:=wS x.ms t ((x.cnt +1:Nat):Int) hm0 aa
   refine⟨2*(x.ms.set t ((x.cnt +1:Nat):Int)).count 0 +(fs'.length +2),aa,_,_,_,_,_,_,rfl,_,M3,XE,hO2.begin htn hm0,hT.call (node:=node) rfl hrw htn (by show x.ms[t]?.getD 0=0;rw[hm0];rfl),fun j hj=>?_,kH,?_⟩
   ·intro h
    replace h:=(yj (hT.1.zw (fs':=fs') (node:=node) (nx:=nx) rfl) htn j).symm.trans h
    split at h
    ·omega
    ·exact hZ j hj h
   show _=2*(x.ms.set t ((x.cnt +1:Nat):Int)).count 0 +((fs'++[(node,nx +1)])++[(t,0)]).length
   rw[List.length_append,List.length_append]
   simp
  refine hS.a_ ?_
  refine PU.of (iF htn) ?_
  rw[Nat.zero_add]
  refine hS.ld 7 rfl (v:=.bool (x.op[t]'aa)) (by show(x.op.map Value.bool)[t]?=_;rw[List.getElem?_map,List.getElem?_eq_getElem (show t<x.op.length by omega)];rfl) ?_
  refine au ?_
  refine aA (fun hb6=>?_) (fun hb6=>?_)
  rotate_left
  ·refine uY _ _ lo sf hlo Zr (hT.out (node:=node) rfl fun u hr _=>?_) hS
   rw[hrw]at hr;cases hr
   exact⟨fun e=>Py (by rw[←getD_in];exact e),by show x.op[t]?.getD false=false;rw[getD_in];exact hb6⟩
  repeat(first|(refine hS.az ?_)|(refine hS.iG ?_))
  refine PU.of (iF vJ.1) ?_
  rw[Nat.zero_add]
  refine hS.vC 6 rfl (v:=vi (lo[node]'aa)) (by show(lo.map vi)[node]?=_;rw[List.getElem?_map,List.getElem?_eq_getElem (show node<lo.length by omega)];rfl) ?_
  repeat(first|(refine hS.az ?_)|(refine hS.iG ?_))
  refine PU.of (iF htn) ?_
  rw[Nat.zero_add]
  refine hS.vC 5 rfl (v:=vi (x.ms[t]'aa)) (by show(x.ms.map vi)[t]?=_;rw[List.getElem?_map,List.getElem?_eq_getElem (show t<x.ms.length by omega)];rfl) ?_
  refine hS.az ?_
  refine PU.of (iF vJ.1) ?_
  rw[Nat.zero_add]
  have n1:q.m≠q.l:=hS.nq 2 3 rfl rfl aa
  have n2:q.m≠q.dm:=hS.nq 2 5 rfl rfl aa
  have n3:q.m≠q.dl:=hS.nq 2 6 rfl rfl aa
  have n4:q.l≠q.dm:=hS.nq 3 5 rfl rfl aa
  have n5:q.l≠q.dl:=hS.nq 3 6 rfl rfl aa
  have n6:q.dm≠q.dl:=hS.nq 5 6 rfl rfl aa
  have QX:=hT.opn (node:=node) (nx:=nx) (t:=t) rfl (by show x.op[t]?.getD false=true;rw[getD_in];exact hb6) aa
  replace QX:Tj n (DF n rows) {x with lo:=lo.set node (min (lo[node]'aa) (x.ms[t]'aa)),sf:=sf,fs:=fs'++[(node,nx +1)]}:=by
   rw[←getD_in,←getD_in];exact QX
  generalize min (lo[node]'aa) (x.ms[t]'aa)=mn at QX⊢
  refine hS.Lm 6 rfl rfl (by rw[List.length_map];show node +1≤lo.length;omega) rfl fun H4 hS=>?_
  refine splitK (fun K hK=>?_) ?_
  ·simp only[aN,aQ]
   generalize q.m=qm at n1 n2 n3⊢
   generalize q.l=ql at n1 n4 n5⊢
   generalize q.dm=dm at n2 n4 n6⊢
   generalize q.dl=dl at n3 n5 n6⊢
   apply aai n1 n2 n3 n4 n5 n6 (by intros;rfl) (by kernel_rfl) (by kernel_rfl) hK
  refine uY _ _ (lo.set node mn) sf (by rw[List.length_set];exact hlo) Zr QX ?_
  have hS:SH [] H _ ((Qo q n {x with lo:=lo,sf:=sf} rf (uZ (fs'++[(node,nx +1)])++aF) (.slice (some ⟨rf,0,none⟩) x.fs.length (aK 2)) Aq w9).set 6 (q.dl,3,splice (lo.map vi) node [vi mn])):=hS
  rw[gF vi aa]at hS
  exact hS
 refine ah (fun hc3=>?_) (fun hc3=>?_)
 ·exact fin _ _ rfl (decide_eq_true aa).symm
 ·exact fin _ _ rfl (decide_eq_decide.2 aa)
end
section
variable{H0 H:ae}{L M:List aC}{S:List Nat}{F:Nat→Prop}{Q:Int→Prop}{r n c:Nat}{ty:TypeId}
theorem _root_.Go.Ae.SH.UX{S:List Nat}{H0 H:ae}{L:List aC}(hS:SH S H0 H L){e:TypeId}{z:List Value}{K:Value→ae→Prop}(k:∀H1 r,SH S H0 (hM H H1) ((r,e,z)::L)→PI H H1=cl 5→K (.pointer (some ⟨r,0,none⟩)) H1):ME (Go.Ae.bZ e z (Go.Ae.hN H)) K:=
 ME.of rfl (k _ _ (hS.EO e z) (Bi (Ext.new _ _)))
theorem _root_.Go.Ae.SH.mkD{S:List Nat}{H0 H:ae}{L:List aC}(hS:SH S H0 H L){e:TypeId}{z:List Value}{n:Nat}{K:Value→ae→Prop}(hn:n≤16777216)(k:∀H1 r,SH S H0 (hM H H1) ((r,e,gQ z n)::L)→PI H H1=cl 5→K (.slice (some ⟨r,0,none⟩) n n) H1):ME (Go.Ae.mkS e z (vn n) (vn n) (Go.Ae.hN H)) K:=by
 refine ME.of ?_ (k _ _ (hS.EO e (gQ z n)) (Bi (Ext.new _ _)))
 show(aj (oV (vn n)) fun n'=>aj (oV (vn n)) fun m=>gd (Nat.ble n' m&&Nat.ble m 16777216&&true) _)=_
 show gd (Nat.ble n n&&Nat.ble n 16777216&&true) _=_
 rw[Nat.ble_eq_true_of_le (Nat.le_refl n),Nat.ble_eq_true_of_le hn];rfl
def acZ(n K:Nat)(Q:Int→Prop)(H:ae)(v:Value):Prop:=∃b,Bj b K Q n H v
def aaK(b n:Nat)(H:ae)(v:Value):Prop:=∃a c,∃bs:List Bool,v=.slice a n c∧bs.length=n∧eO (b≤·) 4 H a n 1 (bs.map .bool)
def Mh(b n:Nat)(rows:Nat→List Int)(H:ae)(v:Value):Prop:=∃a c,∃bs:List Bool,v=.slice a n c∧bs.length=n∧eO (b≤·) 4 H a n 1 (bs.map .bool)∧((∀j:Nat,bs[j]?.getD false=false)→∃rk:Nat→Nat,∀i,i<n→∀t∈DF n rows i,t<n→rk t<rk i)
theorem JW{q:CY}{ua:Option Addr}{uc K:Nat}(hn:n≤1000)(hK:K≤1000000){rows:Nat→List Int}(hU:Fh n K rows H (.slice ua n uc))(x:rP)(M:List aC)(hC:Cy q n x M)(hO:u_ n x)(hT:Tj n (DF n rows) x)(hf:x.fs=[])(b_ bQ fU bU dJ:Value)(rg)(H1:ae)(hS:SH [] H H1 M):
 aT Pg X (.loop (sub dz [1,1,1,1,1,1,1,1,0,1,0,0])) (cr (.slice ua n uc) (.slice none 0 0) (pr q.m) (pr q.l) (pr q.o) (pr q.s) (pr q.st) (pr q.fr) (pr q.ct) (mQ q) (AQ q) b_ bQ fU bU dJ (vn n) (vi 0) rg H1) (iA 0 (kN Pg X (sub dz [1,1,1,1,1,1,1,1,1]) (cK Pg [.tmp 2] (Q1 (fun v H'=>Mh H.next n rows H' v) H)))):=by
 refine Zd 12 13 14 15 16 33 (I:=fun m b_ bQ fU bU dJ rH H'=>∃x M i,rH=vn i∧i +m=n∧Cy q n x M∧u_ n x∧Tj n (DF n rows) x∧(∀j,j<i→x.m j≠0)∧x.fs=[]∧SH [] H H' M) ?_ n ⟨x,M,0,rfl,aa,hC,hO,hT,fun j h=>by omega,hf,hS⟩
 clear hC hO hT hf hS x M
 rintro m y12 y13 y14 y15 y16 y33 rg H1 ⟨x,M,i,rfl,him,hC,hO,hT,hZ,hf,hS⟩
 refine tl ?_
 refine au ?_
 have hC0:=hC
 have hS0:=hS
 obtain⟨Aq,Mg,w9,JR,rfl,h1,h2,h3,h4,h5,h6⟩:=hC
 refine ah (fun hc=>?_) (fun hc=>?_)
 rotate_left
 ·refine tl ?_
  refine hS.a_ ?_
  have hd:=hS.wm (List.mem_of_getElem? (i:=8) rfl)
  refine rr ?_;refine⟨⟨_,_,x.sf,rfl,h4,eO.one hS (List.mem_of_getElem? (i:=8) rfl) (by rw[List.length_map,h4,Nat.mul_one]) hd,fun hj=>hT.done hf (fun j h=>hZ j aa) hj⟩,hS.ext⟩
 refine aT.scope (R:=fun _ _ _=>False) (fun _ _ _ _ h=>h.elim) 0 ?_
 have fin:∀x M bQ fU bU dJ rg H1,Cy q n x M→u_ n x→Tj n (DF n rows) x→(∀j,j<i +1→x.m j≠0)→SH [] H H1 M→aT Pg X (sub dz [1,1,1,1,1,1,1,1,0,1,0,0,1,1,0,0,1,0,1]) (cr (.slice ua n uc) (.slice none 0 0) (pr q.m) (pr q.l) (pr q.o) (pr q.s) (pr q.st) (pr q.fr) (pr q.ct) (mQ q) (AQ q) (vn i) bQ fU bU dJ (vn n) (vn i) rg H1) (Ta (sub dz [1,1,1,1,1,1,1,1,0,1,0,0,1,1,0,0,1,0]) (fun _ _ _=>False) 0 (iA 1 (kN Pg X (sub dz [1,1,1,1,1,1,1,1,0,1,0,0,1,1,1]) (wZ (nJ (.slice ua n uc) (.slice none 0 0) (pr q.m) (pr q.l) (pr q.o) (pr q.s) (pr q.st) (pr q.fr) (pr q.ct) (mQ q) (AQ q) (vn n) fun m b_ bQ fU bU dJ rH H'=>∃x M i,rH=vn i∧i +m=n∧Cy q n x M∧u_ n x∧Tj n (DF n rows) x∧(∀j,j<i→x.m j≠0)∧x.fs=[]∧SH [] H H' M) m (iA 0 (kN Pg X (sub dz [1,1,1,1,1,1,1,1,1]) (cK Pg [.tmp 2] (Q1 (fun v H'=>Mh H.next n rows H' v) H)))))))):=by
  intro x M bQ fU bU dJ rg H1 hC hO hT hZ hS
  refine tl ?_
  refine JU hn hK hU x M hC hO hT hZ _ _ _ _ _ _ hS fun x M bQ fU bU dJ rg H1 hC hO hT hZ hf hS=>?_
  refine au ?_
  rw[Tc]
  refine au ?_
  refine tl ?_
  refine au ?_
  refine ay ?_
  exact⟨n -(i +1),aa,_,_,_,_,_,_,_,_,rfl,x,M,i +1,iC,aa,hC,hO,hT,hZ,hf,hS⟩
 refine tl ?_
 refine hS.a_ ?_
 have hin:i<n:=by omega
 refine PU.of (iF hin) ?_
 rw[Nat.zero_add]
 refine hS.ld 4 rfl (v:=vi (x.ms[i]'aa)) (by show(x.ms.map vi)[i]?=_;rw[List.getElem?_map,List.getElem?_eq_getElem (show i<x.ms.length by omega)];rfl) ?_
 refine au ?_
 refine ah (fun Py=>?_) (fun Py=>?_)
 rotate_left
 ·exact fin x _ _ _ _ _ _ _ hC0 hO hT (fun j hj=>(Nat.lt_succ_iff_lt_or_eq.1 hj).elim (hZ j) fun e=>by subst e;intro h;exact Py (by rw[←getD_in];exact h)) hS
 have hm0:x.ms[i]?=some 0:=by rw[List.getElem?_eq_getElem (show i<x.ms.length by omega),Py]
 have hS2:=hS
 rw[←List.append_nil (_::_)]at hS2
 show ak Pg X 184 [vn i,pr q.ct,pr q.m,pr q.l,pr q.o,pr q.st,pr q.fr] H1 _
 refine ak.mono (Dm hn hC0 hO hin hm0 hS2) ?_
 rintro v H4 ⟨M3,XE,kH⟩
 rw[List.append_nil]at kH
 have h0:x.m i=0:=by show x.ms[i]?.getD 0=0;rw[hm0];rfl
 refine fin _ M3 _ _ _ _ _ _ XE (hO.begin hin hm0) (hT.root hf hin h0) (fun j hj=>?_) kH
 rw[yj hT.1 hin]
 split
 ·omega
 ·exact hZ j aa
theorem ym(hw:Wf H){v:Value}{K:Nat}{rows:Nat→List Int}(hn:n≤1000)(hK:K≤1000000)(hU:Fh n K rows H v):ak Pg X 153 [v] H (Q1 (fun v H'=>Mh H.next n rows H' v) H):=by
 obtain⟨ua,uc,vs,rfl,hU1,hU2⟩:=hU
 have hU:Fh n K rows H (.slice ua n uc):=⟨ua,uc,vs,rfl,hU1,hU2⟩
 have hS:=SH.refl hw
 refine ce [0,2,3,4,5,6,7,8,9,10,11,12,13,14,15,16,32,33] ?_;refine tl ?_
 refine au ?_
 refine hS.mkD aa fun H1 dm hS f1=>?_
 (try simp only[aZ hS.wf])
 refine hS.mkD aa fun H2 dl hS f2=>?_
 (try simp only[aZ hS.wf])
 refine hS.UX fun H3 m hS f3=>?_
 (try simp only[aZ hS.wf])
 refine hS.UX fun H4 l hS f4=>?_
 repeat(refine hS.qf fun Hn hS=>?_)
 have n1:l≠m:=hS.nq 0 1 rfl rfl aa
 refine splitK (fun K hK=>?_) ?_
 ·simp only[f1,f2,f3,f4,aQ]
  apply oG (a:=l) (b:=m) n1 (by intros;rfl) (by kernel_rfl) (by kernel_rfl) hK
 generalize hM (hM (hM (hM (hM (hM H H1) H2) H3) H4) _) Hn=H5 at*
 refine hS.mkD aa fun H6 dO hS g1=>?_
 (try simp only[aZ hS.wf])
 refine hS.mkD aa fun H7 ds hS g2=>?_
 (try simp only[aZ hS.wf])
 refine hS.UX fun H8 o hS g3=>?_
 (try simp only[aZ hS.wf])
 refine hS.UX fun H9 s hS g4=>?_
 repeat(refine hS.qf fun Hn hS=>?_)
 have n2:s≠o:=hS.nq 0 1 rfl rfl aa
 refine splitK (fun K hK=>?_) ?_
 ·simp only[g1,g2,g3,g4,aQ]
  apply oG (a:=s) (b:=o) n2 (by intros;rfl) (by kernel_rfl) (by kernel_rfl) hK
 refine hS.bZ fun Hn st hS=>?_
 refine hS.bZ fun Hn fr hS=>?_
 refine hS.bZ fun Hn ct hS=>?_
 refine hS.iB fun Hn hS=>?_
 have hz:gQ [.int .i64 0] n=(List.replicate n (0:Int)).map vi:=by rw[gD,List.map_replicate]
 have hb:gQ [.bool false] n=(List.replicate n false).map Value.bool:=by rw[gD,List.map_replicate]
 rw[hz,hb]at hS
 have hS:SH [] H Hn [(ct,3,[vn 0]),(fr,253,[.slice none 0 0]),(st,23,[.slice none 0 0]),(s,36,[.slice (some ⟨ds,0,none⟩) n n]),(o,36,[.slice (some ⟨dO,0,none⟩) n n]),(ds,4,(List.replicate n false).map Value.bool),(dO,4,(List.replicate n false).map Value.bool),(l,23,[.slice (some ⟨dl,0,none⟩) n n]),(m,23,[.slice (some ⟨dm,0,none⟩) n n]),(dl,3,(List.replicate n (0:Int)).map vi),(dm,3,(List.replicate n (0:Int)).map vi)]:=hS
 have hS:=hS.perm (L':=[(ct,3,[vn 0]),(m,23,[.slice (some ⟨dm,0,none⟩) n n]),(l,23,[.slice (some ⟨dl,0,none⟩) n n]),(o,36,[.slice (some ⟨dO,0,none⟩) n n]),(dm,3,(List.replicate n (0:Int)).map vi),(dl,3,(List.replicate n (0:Int)).map vi),(dO,4,(List.replicate n false).map Value.bool),(s,36,[.slice (some ⟨ds,0,none⟩) n n]),(ds,4,(List.replicate n false).map Value.bool),(st,23,[.slice none 0 0]),(fr,253,[.slice none 0 0])])
  (List.Perm.cons _ (ja [_,_,_,_,_,_,_] [_,_] (ja [_,_,_,_,_,_] [_,_] (ja [_,_,_] [_,_,_,_] (ja [_,_,_,_,_,_] [] (ja [_,_,_,_,_] [] (ja [_,_,_,_] [] (ja [_,_] [_] (ja [_,_] [] (ja [_] [] (List.Perm.refl _)))))))))))
 exact JW (q:=⟨ct,m,l,o,dm,dl,dO,s,ds,st,fr⟩) hn hK hU ⟨0,List.replicate n 0,List.replicate n 0,List.replicate n false,List.replicate n false,[],[]⟩ _
  ⟨.slice none 0 0,.slice none 0 0,[],[],rfl,by simp,by simp,by simp,by simp,GB.nil _ _,GB.nil _ _⟩
  ⟨by simp,(fun p h=>nomatch h),(fun j h=>nomatch h),List.Sublist.refl _,Nat.le_refl _,Nat.le_refl _⟩ (Tj.start n _) rfl _ _ _ _ _ _ _ hS
theorem Bj.told{b K:Nat}{v:Value}(h:Bj b K Q n H v):∃rows,Fh n K rows H v:=by
 obtain⟨a,c,vs,rfl,h1,h2⟩:=h
 have:∀i,∃l:List Int,∀h:i<vs.length,∃ra rc,vs[i]=.slice ra l.length rc∧eO (fun _=>True) 3 H ra l.length 1 (l.map vi)∧l.length≤K:=fun i=>by
  by_cases h:i<vs.length
  ·obtain⟨ra,rn,rc,rcs,e,g1,g2,g3⟩:=h2 _ (List.getElem_mem h)
   have key:∀rcs:List Value,(∀x∈rcs,∃z:Int,x=vi z∧Q z)→∃l:List Int,rcs=l.map vi:=by
    intro rcs
    induction rcs with
    |nil=>exact fun _=>⟨[],rfl⟩
    |cons x t ih=>
     intro g
     obtain⟨z,rfl,_⟩:=g x (List.mem_cons_self ..)
     obtain⟨l,rfl⟩:=ih fun y hy=>g y (List.mem_cons_of_mem _ hy)
     exact⟨z::l,rfl⟩
   obtain⟨l,rfl⟩:=key rcs g3
   have hl:l.length=rn:=by have:=g1.1.1;rw[List.length_map,Nat.mul_one]at this;exact this
   subst hl
   exact⟨l,fun _=>⟨ra,rc,e,g1.wk fun _ _=>trivial,g2⟩⟩
  ·exact⟨[],fun g=>absurd g h⟩
 exact⟨fun i=>(this i).choose,a,c,vs,rfl,h1.wk fun _ _=>trivial,fun i h=>(this i).choose_spec h⟩
theorem JX(hw:Wf H){v:Value}{K:Nat}(hn:n≤1000)(hK:K≤1000000)(hU:acZ n K Q H v):ak Pg X 153 [v] H (Q1 (fun v H'=>aaK H.next n H' v) H):=by
 obtain⟨b,hU⟩:=hU
 obtain⟨rows,hU⟩:=hU.told
 exact ak.mono (ym hw hn hK hU) fun v H' ⟨⟨a,c,bs,h1,h2,h3,_⟩,hx⟩=>⟨⟨a,c,bs,h1,h2,h3⟩,hx⟩
end
section
variable{H0 H:ae}{L M:List aC}{S:List Nat}{F:Nat→Prop}{Q:Int→Prop}{r n c:Nat}{ty:TypeId}
def Fa(cs:List Value):Prop:=∀i,i<cs.length/3→∃(z a b:Int),El cs 3 i=[vi z,vi a,vi b]∧z≠0
theorem Fa.app{cs:List Value}(h:Fa cs)(hl:cs.length %3=0){z:Int}(hz:z≠0)(a b:Int):Fa (cs++[vi z,vi a,vi b]):=by
 intro i hi
 have hE:=zo (es:=3) (n:=cs.length/3) (cs:=cs) aa (xs:=[vi z,vi a,vi b]) rfl
 rw[List.length_append]at hi
 simp only[List.length_cons,List.length_nil]at hi
 rcases Nat.lt_or_ge i (cs.length/3)with h'|h'
 ·rw[hE.1 i h'];exact h i h'
 ·obtain rfl:i=cs.length/3:=by omega
  exact⟨z,a,b,hE.2,hz⟩
theorem XG{Pf:List aC}{x:Value}{cs:List Value}{gb:List aC}(hg:GB 135 3 x cs gb)(hF:Fa cs)(hl:cs.length≤10000000)(hS:SH S H0 H (Pf++gb)){z a b:Int}(hz:z≠0){K:Value→Value→ae→Prop}
 (kk:∀w v' H' bJ,GB 135 3 v' (cs++[vi z,vi a,vi b]) bJ→Fa (cs++[vi z,vi a,vi b])→SH S H0 H' (Pf++bJ)→K w v' H'):
 ME (bS 135 [.int .i64 0,.int .i64 0,.int .i64 0] 3 1 [(0,.agg ⟨[vi z,vi a,vi b]⟩)] H) fun w H5=>ME (wh 135 3 x w H5) (K w):=by
 have hl3:cs.length %3=0:=by
  rcases hg with⟨_,rfl,_⟩|⟨r,n,aF,_,e,_⟩
  ·rfl
  ·omega
 refine hS.bS rfl rfl rfl aa fun H1 rx hS1=>?_
 have hS1:=hS1.perm (List.Perm.cons _ (List.perm_append_comm (l₁:=Pf)))
 obtain⟨v',H6,bJ,e1,hg',kY,_⟩:=hg.app (m:=0) (cx:=1) hS1 aa rfl rfl aa aa
 refine ME.of e1 (kk _ v' H6 bJ hg' (hF.app hl3 hz a b) (kY.perm List.perm_append_comm))
def yo(v:Value)(H:ae)(P:Prop):Prop:=∃a n c cs,v=.slice a n c∧Fl H a n 3 cs∧Fa cs∧(n=0→P)
theorem ac0{b:Nat}{ra na:Option Addr}{rn rc nn nc r rg:Nat}{rcs bY:List Value}{mm:List (ByteArray×Value)}{P:Prop}(hG:Gr b H ra rn rcs na nn bY)(hnm:GJ rn mm)(hB:∀j,j<rn→0≤rootOf rcs j∧rootOf rcs j<nn)(H1:ae)(hm:jJ H1 r mm){x3:Value}{cs:List Value}{gb:List aC}(hS:SH [] H H1 ((rg,69,[.slice ra rn rc,.slice na nn nc])::gb))(hg:GB 135 3 x3 cs gb)(hF:Fa cs)(hl:cs.length≤9000000)(hu:cs=[]→P)(x2 x5 x6 x7 x8 x9 aW bg b_ x30 x31 x32 AB wC x52 x88 x89 x90:Value)(eP):
 aT Pg X (sub tK [1,1,1,1,1,1,1]) (qX (gV ra rn rc na nn nc) (.pointer (some ⟨rg,0,none⟩)) x2 x3 (.map (some r)) x5 x6 x7 x8 x9 aW bg b_ x30 x31 x32 AB wC x52 x88 x89 x90 eP H1) (cK Pg [.tmp 2] (Q1 (fun v H'=>yo v H' P) H)):=by
 have g2:=hG.2.1
 refine tl ?_
 refine hS.bL ?_
 refine ak.mono (JL hS.wf (hG.ex hS.ext) hm hnm hB) ?_
 rintro v H2 ⟨hv,hx2⟩
 have hS:=hS.call hx2
 refine ak.mono (JX hS.wf (K:=500000) (Q:=VX rn) aa aa ⟨_,hv⟩) ?_
 rintro v H3 ⟨⟨ba,bc,bs,rfl,hbl,hbf⟩,hx3⟩
 have hS:=hS.call hx3
 refine au ?_
 have hlt:=hS.lt
 have hS0:=hS
 have hS:=hS0.base
 refine Ht 3 11 12 90 (I:=fun m y3 y11 y12 y90 H'=>∃(i:Nat)(cs:List Value)(gb:List aC),y90=vn i∧i +m=rn∧GB 135 3 y3 cs gb∧Fa cs∧cs.length≤9000000 +3*i∧(cs=[]→P)∧SH _ H3 H' ((rg,69,[.slice ra rn rc,.slice na nn nc])::gb)) ?_ rn ⟨0,cs,gb,rfl,aa,hg,hF,aa,hu,hS⟩
 have hty:=hS0.PR (ty:=4) (by simp[hg.all])
 clear hS hg hF hl hu
 rintro m y3 y11 y12 y90 Eg H4 ⟨i,cs',bJ,rfl,him,hg,hF,hl,hu,hS⟩
 refine tl ?_
 refine au ?_
 refine ah (fun hc=>?_) (fun hc=>?_)
 rotate_left
 ·refine tl ?_
  obtain⟨a,n,c,rfl,hcl,hf⟩:=hg.W9 (F:=fun _=>True) (hS.perm (List.perm_append_comm (l₁:=[_]))) fun _ _=>trivial
  refine rr ?_;exact⟨⟨a,n,c,cs',rfl,hf.1,hF,fun h=>hu (by subst h;exact List.eq_nil_of_length_eq_zero aa)⟩,(hS0.over hS).ext⟩
 have hb4:=hbf.stay hS.ext fun q hq=>.inr (hty q hq)
 obtain⟨r',o',hl',e',hr',Df⟩:=hb4.1.Qc (show i<rn by omega) bc
 rw[e']
 refine au ?_
 rw[List.getElem_map]at Df
 refine ME.ld Df ?_
 refine au ?_
 refine aA (fun hb=>?_) (fun hb=>?_)
 ·refine PU.b3 rfl ?_
  refine XG (Pf:=[_]) hg hF aa hS (z:=20) (by decide) fun w v' H5 gb5 hg5 hF5 hS5=>?_
  refine ay ?_
  refine⟨rn -(i +1),aa,_,_,_,_,_,_,rfl,i +1,_,gb5,iC,aa,hg5,hF5,by rw[List.length_append];show cs'.length +3≤_;omega,fun h=>absurd h (by simp),hS5⟩
 ·refine ay ?_
  exact⟨rn -(i +1),aa,_,_,_,_,_,_,rfl,i +1,cs',bJ,iC,aa,hg,hF,aa,hu,hS⟩
theorem ac1{b:Nat}{ra na:Option Addr}{rn rc nn nc r rg:Nat}{rcs bY:List Value}{mm:List (ByteArray×Value)}{P:Prop}(hG:Gr b H ra rn rcs na nn bY)(hnm:GJ rn mm)(hB:∀j,j<rn→0≤rootOf rcs j∧rootOf rcs j<nn)(H1:ae)(hm:jJ H1 r mm){x3:Value}{cs:List Value}{gb:List aC}(hS:SH [] H H1 ((rg,69,[.slice ra rn rc,.slice na nn nc])::gb))(hg:GB 135 3 x3 cs gb)(hF:Fa cs)(hl:cs.length≤1000)(hu:cs=[]→P)(x2 x5 x6 x7 x8 x9 aW bg b_ x30 x31 x32 AB wC x52 x88 x89 x90:Value)(eP):
 aT Pg X (sub tK [1,1,1,1,1,1]) (qX (gV ra rn rc na nn nc) (.pointer (some ⟨rg,0,none⟩)) x2 x3 (.map (some r)) x5 x6 x7 x8 x9 aW bg b_ x30 x31 x32 AB wC x52 x88 x89 x90 eP H1) (cK Pg [.tmp 2] (Q1 (fun v H'=>yo v H' P) H)):=by
 have g2:=hG.2.1
 have g5:=hG.2.2.2.2.1
 refine tl ?_
 repeat(first|(refine hS.az ?_)|(refine hS.a_ ?_))
 have hS0:=hS
 have hnr:=hS0.wM hm
 have hS:=hS0.base
 refine Zd 3 7 8 9 10 52 (I:=fun m y3 y7 y8 y9 y10 y52 H'=>∃(i:Nat)(cs:List Value)(gb:List aC),y52=vn i∧i +m=rn∧GB 135 3 y3 cs gb∧Fa cs∧cs.length≤1000 +12006*i∧(cs=[]→P)∧SH _ H1 H' ((rg,69,[.slice ra rn rc,.slice na nn nc])::gb)) ?_ rn ⟨0,cs,gb,rfl,aa,hg,hF,aa,hu,hS⟩
 clear hS hg hF hl hu
 rintro m y3 y7 y8 y9 y10 y52 Eg H4 ⟨i,cs',bJ,rfl,him,hg,hF,hl,hu,hS⟩
 refine tl ?_
 refine au ?_
 refine ah (fun hc=>?_) (fun hc=>?_)
 rotate_left
 ·exact ac0 hG hnm hB H4 (hm.ex hS.ext hnr) (hS0.over hS) hg hF aa hu _ _ _ _ _ _ _ _ _ _ _ _ _ _ _ _ _ _ _
 have hi:i<rn:=by omega
 obtain⟨r1,o1,mZ,u1,f1,w1,c1,a1,e1,hl1,o7,ji,hsz,_⟩:=(hG.ex (hS0.over hS).ext).ru hi rc
 rw[e1]
 refine au ?_
 refine ME.mU o7 ?_
 refine hS.jI rfl rfl rfl fun H5 ru hS hx5=>?_
 have hS:SH _ H1 H5 ((ru,141,kQ mZ u1 f1 w1 c1 (rootOf rcs i) a1)::(rg,69,[.slice ra rn rc,.slice na nn nc])::bJ):=hS
 refine hS.bL ?_
 refine ak.mono (Fe hS.wf (hG.ex (hS0.over (SH.drop (A:=[_]) hS)).ext) hi hB) ?_
 rintro v H6 ⟨⟨k0,rfl,hk0⟩,hx6⟩
 have hS:=hS.call hx6
 have hb:=hB i hi
 refine Oc 3 9 10 (I:=fun m' z3 z9 z10 H'=>∃(k:Nat)(cs:List Value)(gb:List aC),z9=vn k∧k +m'=4001∧GB 135 3 z3 cs gb∧Fa cs∧cs.length≤1000 +12006*i +3*k∧(cs=[]→P)∧SH _ H1 H' ((ru,141,kQ mZ u1 f1 w1 c1 (rootOf rcs i) a1)::(rg,69,[.slice ra rn rc,.slice na nn nc])::gb)) ?_ (4001 -k0) ⟨k0,cs',bJ,rfl,aa,hg,hF,aa,hu,hS⟩
 clear hS hg hF hl hu
 rintro m' z3 z9 z10 aeI H7 ⟨k,cs2,Xa,rfl,hkm,hg,hF,hl,hu,hS⟩
 refine tl ?_
 repeat(first|(refine hS.az ?_)|(refine hS.a_ ?_))
 refine ah (fun hc2=>?_) (fun hc2=>?_)
 rotate_left
 ·refine tl ?_
  refine au ?_
  refine ay ?_
  exact⟨rn -(i +1),aa,_,_,_,_,_,_,_,_,rfl,i +1,cs2,Xa,iC,aa,hg,hF,aa,hu,SH.drop (A:=[_]) hS⟩
 have hkn:k<nn:=by omega
 have hG7:=hG.ex (hS0.over (SH.drop (A:=[_]) hS)).ext
 repeat(first|(refine hS.az ?_)|(refine hS.iG ?_)|(refine hS.mW ?_))
 obtain⟨kd,ka,kn,kc,ks',t,rs,at',he,hk1,hk2,hk3,hk4,hk5⟩:=hG7.2.2.2.2.2 k hkn
 obtain⟨xa,xn,xc,xcs,rfl,Qa⟩:=id hk5
 obtain⟨r2,o2,e2,hl2,Qh,kV⟩:=hG7.no hkn nc he
 rw[e2]
 refine hS.az ?_
 refine ME.mU (H:=hN _) Qh ?_
 simp only[aZ hS.wf]
 have hm7:=hm.ex hS.ext hnr
 refine ak.mono (Ma (H:=hN H7) (Nat.le_refl _) (r:=r) (m:=mm) (show Gr b (hN H7) ra rn rcs na nn bY from hG7) hm7 hnm) ?_
 rintro v H8 ⟨⟨z,rfl⟩,DD⟩
 have hS:=hS.kX DD
 refine splitK (fun K hK=>?_) ?_
 ·exact jw (by simp only[aN,bn DD];rfl) hK
 refine au ?_
 refine aO (fun hc3=>?_) (fun hc3=>?_)
 ·refine PU.b3 rfl ?_
  refine XG (Pf:=[_,_]) hg hF aa hS hc3 fun w v' H5 gb5 hg5 hF5 hS5=>?_
  refine ay ?_
  exact⟨4001 -(k +1),aa,_,_,_,_,_,rfl,k +1,_,gb5,iC,aa,hg5,hF5,by rw[List.length_append];show cs2.length +3≤_;omega,fun h=>absurd h (by simp),hS5⟩
 ·refine ay ?_
  exact⟨4001 -(k +1),aa,_,_,_,_,_,rfl,k +1,cs2,Xa,iC,aa,hg,hF,aa,hu,hS⟩
end
section
variable{H0 H:ae}{L M:List aC}{S:List Nat}{F:Nat→Prop}{Q:Int→Prop}{r n c:Nat}{ty:TypeId}
def yt(rcs:List Value)(i:Nat):Bool:=match((El rcs 7 i)[1]?.getD (.bool false))with
 |.bool b=>b
 |_=>false
theorem Bo{rcs:List Value}{i:Nat}{nm:ByteArray}{u f w:Bool}{ch root at':Int}(h:El rcs 7 i=kQ nm u f w ch root at'):yt rcs i=u:=by unfold yt;rw[h];rfl
theorem Zs{b:Nat}{ra na:Option Addr}{rn rc nn nc rg:Nat}{rcs bY:List Value}{P:Prop}(hG:Gr b H ra rn rcs na nn bY)(hB:∀j,j<rn→0≤rootOf rcs j∧rootOf rcs j<nn)(H1:ae){x3:Value}{cs:List Value}{gb:List aC}(hS:SH [] H H1 ((rg,69,[.slice ra rn rc,.slice na nn nc])::gb))(hg:GB 135 3 x3 cs gb)(hF:Fa cs)(hl:cs.length≤3)(hu:cs=[]→P)(x2 x4 x5 x6 x7 x8 x9 aW bg b_ x30 x31 x32 AB wC x52 x88 x89 x90:Value)(eP):
 aT Pg X (sub tK [1,1,1,1]) (qX (gV ra rn rc na nn nc) (.pointer (some ⟨rg,0,none⟩)) x2 x3 x4 x5 x6 x7 x8 x9 aW bg b_ x30 x31 x32 AB wC x52 x88 x89 x90 eP H1) (cK Pg [.tmp 2] (Q1 (fun v H'=>yo v H' P) H)):=by
 have g2:=hG.2.1
 refine tl ?_
 refine hS.az ?_;refine hS.bL ?_
 refine ak.mono (L_ hS.wf (hG.ex hS.ext)) ?_
 rintro v H2 ⟨r,mm,rfl,hm,hnm,hx2,hge⟩
 have hS:=hS.call hx2
 refine hS.a_ ?_;refine hS.az ?_
 have hS0:=hS
 have hnr:=hS0.wM hm
 have hS:=hS0.base
 refine Ht 3 5 6 32 (I:=fun m y3 y5 y6 y32 H'=>∃(i:Nat)(cs:List Value)(gb:List aC),y32=vn i∧i +m=rn∧GB 135 3 y3 cs gb∧Fa cs∧cs.length≤3 +3*i∧(cs=[]→P)∧SH _ H2 H' ((rg,69,[.slice ra rn rc,.slice na nn nc])::gb)) ?_ rn ⟨0,cs,gb,rfl,aa,hg,hF,aa,hu,hS⟩
 clear hS hg hF hl hu
 rintro m y3 y5 y6 y32 Eg H4 ⟨i,cs',bJ,rfl,him,hg,hF,hl,hu,hS⟩
 refine tl ?_
 refine au ?_
 refine ah (fun hc=>?_) (fun hc=>?_)
 rotate_left
 ·exact ac1 hG hnm hB H4 (hm.ex hS.ext hnr) (hS0.over hS) hg hF aa hu _ _ _ _ _ _ _ _ _ _ _ _ _ _ _ _ _ _ _
 have hi:i<rn:=by omega
 obtain⟨r1,o1,mZ,u1,f1,w1,c1,a1,e1,hl1,o7,ji,hsz,_⟩:=(hG.ex (hS0.over hS).ext).ru hi rc
 rw[e1]
 refine au ?_
 refine ME.mU o7 ?_
 refine hS.jI rfl rfl rfl fun H5 ru hS hx5=>?_
 have hS:SH _ H2 H5 ((ru,141,kQ mZ u1 f1 w1 c1 (rootOf rcs i) a1)::(rg,69,[.slice ra rn rc,.slice na nn nc])::bJ):=hS
 refine hS.az ?_;refine hS.a_ ?_
 refine ME.Zl (hm.ex hS.ext hnr) q_ JI VW fun f hf hn=>?_
 obtain⟨z,hz⟩:∃z:Int,f.getD (vi 0)=vi z:=by
  cases f with
  |none=>exact⟨0,rfl⟩
  |some v=>
   obtain⟨j,_,e⟩:=hnm _ (hf v rfl)
   have e:v=vn j:=e
   exact⟨j,by rw[e];rfl⟩
 rw[hz]
 refine au ?_
 refine aO (fun hc3=>?_) (fun hc3=>?_)
 ·refine PU.b3 rfl ?_
  refine XG (Pf:=[_]) hg hF aa (SH.drop (A:=[_]) hS) (z:=16) (by decide) fun w v' H6 gb5 hg5 hF5 hS5=>?_
  refine ay ?_
  exact⟨rn -(i +1),aa,_,_,_,_,_,_,rfl,i +1,_,gb5,iC,aa,hg5,hF5,by rw[List.length_append];show cs'.length +3≤_;omega,fun h=>absurd h (by simp),hS5⟩
 ·refine ay ?_
  exact⟨rn -(i +1),aa,_,_,_,_,_,_,rfl,i +1,cs',bJ,iC,aa,hg,hF,aa,hu,SH.drop (A:=[_]) hS⟩
def Clean(F:Nat→Prop)(H:ae)(rn:Nat)(rcs:List Value)(nn:Nat)(bY:List Value):Prop:=Dg F H rn rcs nn bY∧yt rcs 0=false
theorem JY(hw:Wf H){b:Nat}{ra na:Option Addr}{rn rc nn nc:Nat}{rcs bY:List Value}(hG:Gr b H ra rn rcs na nn bY):ak Pg X 114 [gV ra rn rc na nn nc] H (Q1 (fun v H'=>yo v H' (Clean (b≤·) H rn rcs nn bY)) H):=by
 have hS:=SH.refl hw
 refine ce [0,1,2,3,4,5,6,7,8,9,10,11,12,30,31,32,50,51,52,88,89,90] ?_;refine tl ?_
 refine hS.box rfl fun H1 rg hS=>?_
 refine hS.az ?_;refine hS.bL ?_
 have hx1:=hS.ext
 refine ak.mono (L9 hS.wf (hG.ex hx1)) ?_
 rintro v H2 ⟨⟨t,rfl,ht⟩,hx⟩
 have hS:=hS.call hx
 refine au ?_
 refine aA (fun hb=>?_) (fun hb=>?_)
 ·refine PU.b3 rfl ?_
  refine hS.bS rfl rfl rfl aa fun H3 rx hS=>?_
  have hfl:=eO.one (F:=fun _=>True) (n:=1) (es:=3) hS (List.mem_cons_self ..) rfl trivial
  refine rr ?_;refine⟨⟨_,1,1,_,rfl,hfl.1,?_,fun h=>by cases h⟩,hS.ext⟩
  intro i hi
  have hi:i<1:=hi
  obtain rfl:i=0:=by omega
  exact⟨2,-1,-1,rfl,by decide⟩
 have hs:Dg (b≤·) H rn rcs nn bY:=by
  have h:=ht (by cases t with
   |true=>rfl
   |false=>cases hb)
  exact⟨h.1.back hG hx1,h.2⟩
 refine hS.a_ ?_
 obtain⟨r1,o1,mZ,u1,f1,w1,c1,a1,e1,hl1,o7,ji,hsz,he1⟩:=hG.ru (i:=0) hs.2.1 rc
 rw[show(Value.int .i64 0)=vn 0 from rfl,e1]
 refine au ?_
 refine hS.wo (ji 1 _ aa rfl) hl1 ?_
 refine au ?_
 refine aA (fun hb2=>?_) (fun hb2=>?_)
 ·refine PU.b3 rfl ?_
  refine XG (Pf:=[_]) (GB.nil _ _) (cs:=[]) (fun i h=>absurd h (by simp)) (by simp) hS (z:=18) (by decide) fun w v' H5 gb5 hg5 hF5 hS5=>?_
  exact Zs hG hs.1.2 H5 hS5 hg5 hF5 (by simp) (fun h=>absurd h (by simp)) _ _ _ _ _ _ _ _ _ _ _ _ _ _ _ _ _ _ _ _
 ·exact Zs hG hs.1.2 _ hS (GB.nil _ _) (fun i h=>absurd h (by simp)) (by simp) (fun _=>⟨hs,by rw[Bo he1];exact hb2⟩) _ _ _ _ _ _ _ _ _ _ _ _ _ _ _ _ _ _ _ _
theorem Dp(hw:Wf H){b:Nat}{ra na:Option Addr}{rn rc nn nc:Nat}{rcs bY:List Value}(hG:Gr b H ra rn rcs na nn bY):ak Pg X 74 [gV ra rn rc na nn nc] H (Q1 (fun v _=>∃z a c:Int,v=.agg ⟨[vi z,vi a,vi c]⟩∧(z=0→Clean (b≤·) H rn rcs nn bY)) H):=by
 have hS:=SH.refl hw
 refine ce [0,1,2,3] ?_;refine tl ?_
 refine hS.box rfl fun H1 rg hS=>?_
 refine hS.bZ fun Hn rf hS=>?_
 refine hS.bL ?_
 have hx1:=hS.ext
 refine ak.mono (JY hS.wf (hG.ex hx1)) ?_
 rintro v H2 ⟨⟨a,n,c,cs,rfl,hf,hF,hP⟩,hx⟩
 have hS:=hS.call hx
 refine au ?_
 refine ah (fun hc=>?_) (fun hc=>?_)
 ·obtain⟨r,o,e,hr,hrd,_⟩:=hf.read aa (show 0<n by omega) c
  rw[show(Value.int .i64 0)=vn 0 from rfl,e]
  refine au ?_
  obtain⟨z,x,y,he,hz⟩:=hF 0 (by have:=hf.1;omega)
  rw[he]at hrd
  refine ME.mU hrd ?_
  refine hS.iB fun Hn hS=>?_
  refine rr ?_
  refine hS.bL ?_
  exact⟨⟨z,x,y,rfl,fun h=>absurd h hz⟩,hS.ext⟩
 ·have hn:n=0:=by omega
  have hcl:=hP hn
  refine PU.b3 rfl ?_
  refine hS.iB fun Hn hS=>?_
  refine rr ?_
  refine hS.bL ?_
  exact⟨⟨0,0,0,rfl,fun _=>⟨⟨hcl.1.1.back hG hx1,hcl.1.2⟩,hcl.2⟩⟩,hS.ext⟩
end
section
variable{H0 H:ae}{L M:List aC}{S:List Nat}{F:Nat→Prop}{n c:Nat}{a:Option Addr}{cs:List Value}
def TyP(l:List Value):Prop:=∃(t:ByteArray)(r ch:Int)(w:Bool),l=[.string t,vi r,vi ch,.bool w]∧t.size≤1000000
def Vo(F:Nat→Prop)(H:ae)(a:Option Addr)(n:Nat)(cs:List Value):Prop:=eO F 149 H a n 4 cs∧n≤5000∧∀i,i<n→TyP (El cs 4 i)
abbrev vV(a:Option Addr)(n c:Nat):Value:=.agg ⟨[.slice a n c]⟩
theorem Mi(hw:Wf H):ak Pg X 117 [vV a n c] H (Q1 (fun v _=>v=vn n) H):=by
 have hS:=SH.refl hw
 refine ce [0,1,2] ?_;refine tl ?_
 refine hS.box rfl fun H1 rg hS=>?_
 repeat(first|(refine hS.az ?_)|(refine hS.a_ ?_))
 refine rr ?_;exact⟨rfl,hS.ext⟩
theorem yu(hw:Wf H)(hV:Vo F H a n cs){p:Value}(hp:∀H' l,Ext H H'→Wf H'→TyP l→eG Pg X (Dy p) [.agg ⟨l⟩] H' (Q1 (fun v _=>∃b:Bool,v=.bool b) H')):
 ak Pg X 155 [.slice a n c,p] H (Q1 (fun v _=>∃z:Int,v=vi z∧-1≤z∧z<n) H):=by
 obtain⟨hf,hn,ht⟩:=hV
 have hS:=SH.refl hw
 refine ce [0,1,4,5,7,8] ?_;refine tl ?_
 refine au ?_
 refine Oc 4 5 8 (I:=fun m x4 x5 x8 H'=>∃i:Nat,x8=vn i∧i +m=n∧SH [] H H' []) ?_ n ⟨0,rfl,aa,hS⟩
 clear hS
 rintro m x4 x5 x8 rg H1 ⟨i,rfl,him,hS⟩
 refine tl ?_
 refine au ?_
 refine ah (fun hc=>?_) (fun hc=>?_)
 rotate_left
 ·refine tl ?_
  refine rr ?_;exact⟨⟨-1,rfl,aa,aa⟩,hS.ext⟩
 obtain⟨r,o,e,hr,hrd,_⟩:=hf.1.read aa (show i<n by omega) c
 rw[e]
 refine au ?_
 refine hS.mM hrd hr ?_
 refine eG.mono (hp H1 _ hS.ext hS.wf (ht i aa)) ?_
 rintro v H2 ⟨⟨b,rfl⟩,hx⟩
 have hS:=hS.call hx
 refine au ?_
 refine aA (fun hb=>?_) (fun hb=>?_)
 ·refine rr ?_;exact⟨⟨i,rfl,aa,aa⟩,hS.ext⟩
 ·refine ay ?_
  exact⟨n -(i +1),aa,_,_,_,_,_,rfl,i +1,iC,aa,hS⟩
theorem Mj(hw:Wf H)(hV:Vo F H a n cs)(k:Int):ak Pg X 115 [vV a n c,vi k] H (Q1 (fun v _=>∃z:Int,v=vi z∧-1≤z∧z<n) H):=by
 have hS:=SH.refl hw
 refine ce [0,1,2,3,4] ?_;refine tl ?_
 refine hS.box rfl fun H1 rg hS=>?_
 refine hS.box rfl fun H2 rk hS=>?_
 repeat(first|(refine hS.az ?_)|(refine hS.a_ ?_))
 refine ah (fun hc=>?_) (fun hc=>?_)
 ·refine rr ?_;exact⟨⟨-1,rfl,aa,aa⟩,hS.ext⟩
 refine hS.a_ ?_
 have hV2:Vo F H2 a n cs:=⟨hV.1.ex hS.ext,hV.2⟩
 refine ak.mono (yu hS.wf hV2 (p:=.func (.func 156) ⟨[]⟩ ⟨[.pointer (some ⟨rk,0,none⟩)]⟩) fun H' l hx hw' hl=>?_) ?_
 ·obtain⟨t,r,ch,w,rfl,_⟩:=hl
  show ak Pg X 156 [_,.pointer (some ⟨rk,0,none⟩)] H' _
  have hk:=((hS.call hx).get 0 rfl).cell (o:=0) (v:=vi k) rfl
  have hkl:=((hS.call hx).lo _ (List.mem_of_getElem? (i:=0) rfl)).2
  have hS:=SH.refl hw'
  refine ce [0,1,2,3] ?_;refine tl ?_
  refine hS.box rfl fun H3 rt hS=>?_
  refine hS.az ?_;refine hS.a_ ?_
  refine hS.wo hk hkl ?_
  refine au ?_
  refine rr ?_;exact⟨⟨_,rfl⟩,hS.ext⟩
 ·rintro v H3 ⟨hz,hx⟩
  refine rr ?_;exact⟨hz,(hS.call hx).ext⟩
theorem Ei(hw:Wf H)(hV:Vo F H a n cs)(s:ByteArray):ak Pg X 116 [vV a n c,.string s] H (Q1 (fun v _=>∃z:Int,v=vi z∧-1≤z∧z<n) H):=by
 have hS:=SH.refl hw
 refine ce [0,1,2,3,4] ?_;refine tl ?_
 refine hS.box rfl fun H1 rg hS=>?_
 refine hS.box rfl fun H2 rk hS=>?_
 refine hS.az ?_;refine hS.a_ ?_
 have hV2:Vo F H2 a n cs:=⟨hV.1.ex hS.ext,hV.2⟩
 refine ak.mono (yu hS.wf hV2 (p:=.func (.func 157) ⟨[]⟩ ⟨[.pointer (some ⟨rk,0,none⟩)]⟩) fun H' l hx hw' hl=>?_) ?_
 ·obtain⟨t,r,ch,w,rfl,_⟩:=hl
  show ak Pg X 157 [_,.pointer (some ⟨rk,0,none⟩)] H' _
  have hk:=((hS.call hx).get 0 rfl).cell (o:=0) (v:=.string s) rfl
  have hkl:=((hS.call hx).lo _ (List.mem_of_getElem? (i:=0) rfl)).2
  have hS:=SH.refl hw'
  refine ce [0,1,2,3] ?_;refine tl ?_
  refine hS.box rfl fun H3 rt hS=>?_
  repeat(first|(refine hS.az ?_)|(refine hS.a_ ?_))
  refine ah (fun hc=>?_) (fun hc=>?_)
  ·refine hS.a_ ?_
   refine hS.wo hk hkl ?_
   refine au ?_
   refine rr ?_;exact⟨⟨_,rfl⟩,hS.ext⟩
  ·refine rr ?_;exact⟨⟨_,rfl⟩,hS.ext⟩
 ·rintro v H3 ⟨hz,hx⟩
  refine rr ?_;exact⟨hz,(hS.call hx).ext⟩
end
theorem aaL:ZA Pg 149=some (.inr [3,1,1,2]):=by kernel_rfl
theorem ac2(t t':ByteArray)(r r' ch ch':Int)(w w':Bool):∃b,iq Pg 149 (.agg ⟨[.string t,vi r,vi ch,.bool w]⟩) (.agg ⟨[.string t',vi r',vi ch',.bool w']⟩)=some b:=by
 have e:iq Pg 149 (.agg ⟨[.string t,vi r,vi ch,.bool w]⟩) (.agg ⟨[.string t',vi r',vi ch',.bool w']⟩)=(av (iM t t') (av (Ib r r') (av (Ib ch ch') (av (qy w w') (some true) (some false)) (some false)) (some false)) (some false)):=by
  show(aj (ZA Pg 149) fun q=>_)=_
  rw[aaL];rfl
 rw[e]
 cases iM t t'<;>cases Ib r r'<;>cases Ib ch ch'<;>cases qy w w'<;>exact⟨_,rfl⟩
theorem aea(t t':ByteArray)(r r' ch ch':Int)(w w':Bool)(i j:Nat):∃b:Bool,eF Pg .neq 149 (.tmp i) (.tmp j) (.agg ⟨[.string t,vi r,vi ch,.bool w]⟩) (.agg ⟨[.string t',vi r',vi ch',.bool w']⟩)=some (.bool b):=by
 obtain⟨b,hb⟩:=ac2 t t' r r' ch ch' w w'
 refine⟨!b,?_⟩
 show vk .neq (VM Pg 149 (.tmp i) (.tmp j) _ _)=_
 have:VM Pg 149 (.tmp i) (.tmp j) (.agg ⟨[.string t,vi r,vi ch,.bool w]⟩) (.agg ⟨[.string t',vi r',vi ch',.bool w']⟩)=some b:=by
  rw[←hb];rfl
 rw[this];rfl
theorem Ml{H:ae}{F F':Nat→Prop}{a a':Option Addr}{n c n' c':Nat}{cs cs':List Value}(hw:Wf H)(hV:Vo F H a n cs)(hV':Vo F' H a' n' cs'):ak Pg X 75 [vV a n c,vV a' n' c'] H (Q1 (fun v _=>∃b:Bool,v=.bool b) H):=by
 have hS:=SH.refl hw
 have hn:=hV.2.1
 refine ce [0,1,2,3,4,5,6,15,16,17] ?_;refine tl ?_
 refine hS.box rfl fun H1 r1 hS=>?_
 refine hS.box rfl fun H2 r2 hS=>?_
 repeat(first|(refine hS.az ?_)|(refine hS.a_ ?_))
 refine aO (fun hc=>?_) (fun hc=>?_)
 ·refine rr ?_;exact⟨⟨_,rfl⟩,hS.ext⟩
 have hnn:n=n':=by omega
 refine hS.a_ ?_;refine hS.az ?_
 refine Ht 4 5 6 17 (I:=fun m x4 x5 x6 jc H'=>∃i:Nat,x4=.bool false∧jc=vn i∧i +m=n∧SH [] H H' [(r2,79,[.slice a' n' c']),(r1,79,[.slice a n c])]) ?_ n ⟨0,rfl,rfl,aa,hS⟩
 clear hS
 rintro m x4 x5 x6 jc rg H3 ⟨i,rfl,rfl,him,hS⟩
 refine tl ?_
 refine au ?_
 refine ah (fun hc2=>?_) (fun hc2=>?_)
 rotate_left
 ·refine tl ?_
  refine rr ?_;exact⟨⟨_,rfl⟩,hS.ext⟩
 obtain⟨q,o,e,hr,hrd,_⟩:=hV.1.1.read aa (show i<n by omega) c
 obtain⟨q',o',e',hr',Df,_⟩:=hV'.1.1.read aa (show i<n' by omega) c'
 obtain⟨t,k,ch,w,he,_⟩:=hV.2.2 i aa
 obtain⟨t',k',ch',w',he',_⟩:=hV'.2.2 i aa
 rw[he]at hrd
 rw[he']at Df
 rw[e]
 refine au ?_
 refine hS.mM hrd hr ?_
 refine hS.jI rfl rfl rfl fun H4 rt hS hx4=>?_
 have hS:SH [] H H4 [(rt,149,[.string t,vi k,vi ch,.bool w]),(r2,79,[.slice a' n' c']),(r1,79,[.slice a n c])]:=hS
 repeat(first|(refine hS.az ?_)|(refine hS.iG ?_)|(refine hS.mW ?_))
 rw[e']
 refine hS.az ?_
 refine ME.mU (H:=hN _) ((mD (hS.ext.obj q' hr' (by simp)) o' 4).trans Df) ?_
 obtain⟨b,hb⟩:=aea t t' k k' ch ch' w w' 22 27
 refine PU.of hb ?_
 refine hS.az ?_;refine pK ?_
 refine aA (fun hb2=>?_) (fun hb2=>?_)
 ·refine rr ?_;exact⟨⟨_,rfl⟩,hS.ext⟩
 ·refine ay ?_
  exact⟨n -(i +1),aa,_,_,_,_,_,_,rfl,i +1,rfl,iC,aa,SH.drop (A:=[_]) hS⟩
section
variable{H0 H:ae}{L M:List aC}{S:List Nat}{F:Nat→Prop}{Q:Int→Prop}{r n c:Nat}{ty:TypeId}
theorem _root_.Go.Ae.UY{r o n es lo hi:Nat}(h:lo≤hi)(h2:hi≤n):WT es (.slice (some ⟨r,o,none⟩) n (aK es)) (some (vn lo)) (some (vn hi)) none=some (.slice (some ⟨r,o +lo*es,none⟩) (hi -lo) (aK es)):=by
 show av (aX (aK es)) _ (gd (Nat.beq (aK es) (aK es)) (gd (Nat.ble lo hi&&Nat.ble hi n) (some (Value.slice (some ⟨r,Nat.add o (Nat.mul lo es),none⟩) (Nat.sub hi lo) (aK es)))))=_
 rw[p9,bR,Nat.beq_refl,Nat.ble_eq_true_of_le h,Nat.ble_eq_true_of_le h2];rfl
theorem Gr.sub{b:Nat}{ra na:Option Addr}{rn nn nc:Nat}{rcs bY:List Value}(hG:Gr b H ra rn rcs na nn bY)(hc:na=none∨nc=aK 5){lo hi:Nat}(h:lo≤hi)(hn:hi≤nn)(h0:0<nn):
 ∃r o,WT 5 (.slice na nn nc) (some (vn lo)) (some (vn hi)) none=some (.slice (some ⟨r,o +lo*5,none⟩) (hi -lo) (aK 5))∧r<H.next∧∀i,i<hi -lo→sS 5 (.slice (some ⟨r,o +lo*5,none⟩) (hi -lo) (aK 5)) (vn i)=some (.pointer (some ⟨r,o +(lo +i)*5,none⟩))∧H.read r (o +(lo +i)*5) 5=some (El bY 5 (lo +i)):=by
 obtain⟨r,o,_,hr,_,o0,rfl,_⟩:=hG.2.2.2.1.1.idx (c:=nc) aa h0
 have hcap:nc=aK 5:=hc.resolve_left (by simp)
 subst hcap
 refine⟨r,o0,UY h hn,hr,fun i hi'=>?_⟩
 obtain⟨r',o',e',hr',hrd,_⟩:=hG.no (i:=lo +i) aa (aK 5) rfl
 rw[oF aa]at e'
 cases e'
 refine⟨?_,hrd⟩
 rw[oF hi',show o0 +lo*5 +i*5=o0 +(lo +i)*5 by omega]
def uu(cs:List Value):Prop:=∃n,cs.length=n*4∧∀i,i<n→TyP (El cs 4 i)
theorem uu.nil:uu []:=⟨0,rfl,fun i h=>absurd h aa⟩
theorem uu.app{cs l:List Value}(h:uu cs)(hl:TyP l):uu (cs++l):=by
 obtain⟨n,h1,h2⟩:=h
 have hl4:l.length=4:=by obtain⟨t,r,ch,w,rfl,_⟩:=hl;rfl
 have hE:=zo (es:=4) (n:=n) h1 (xs:=l) hl4
 refine⟨n +1,by rw[List.length_append];omega,fun i hi=>?_⟩
 rcases Nat.lt_or_ge i n with h|h
 ·rw[hE.1 i h];exact h2 i h
 ·obtain rfl:i=n:=by omega
  rw[hE.2];exact hl
theorem ME.UZ{t:TypeId}{q:TypeId×TypeId}{K:Value→ae→Prop}(hS:SH S H0 H L)(h1:rR Pg t=some q)(kk:∀H' r,jJ H' r []→Ext H H'→H.next≤r→SH S H0 H' L→K (.map (some r)) H'):ME (kD Pg t none H) K:=by
 refine ME.of (v:=.map (some H.next)) (H:=H.new (.map [])) ?_ (kk _ _ ⟨Nat.lt_succ_self _,by rw[oz,if_pos rfl];rfl⟩ (Ext.new _ _) (Nat.le_refl _) (hS.call (Ext.new _ _)))
 show aj (rR Pg t) _=_
 rw[h1];rfl
def oO(rcs:List Value)(i:Nat):Nat:=if i=0 then 0 else(rootOf rcs (i -1) +1).toNat
theorem Dg.from{rn nn:Nat}{rcs bY:List Value}(h:Dg F H rn rcs nn bY){i:Nat}(hi:i<rn):(oO rcs i:Int)≤rootOf rcs i∧rootOf rcs i<nn∧(oO rcs (i +1):Int)=rootOf rcs i +1:=by
 have h1:=h.1.2 i hi
 have e:oO rcs (i +1)=(rootOf rcs i +1).toNat:=rfl
 refine⟨?_,h1.2,by rw[e];omega⟩
 unfold oO
 split
 ·omega
 ·next h0=>
  have h2:=h.2.2 (i -1) aa
  have h3:=h.1.2 (i -1) aa
  rw[show i -1 +1=i by omega]at h2
  omega
theorem aeb{Pf:List aC}{x:Value}{cs:List Value}{gb:List aC}{l:List Value}(hg:GB 149 4 x cs gb)(hT:uu cs)(hl:cs.length≤10000000)(hS:SH S H0 H (Pf++gb))(hp:TyP l){K:Value→Value→ae→Prop}
 (kk:∀w v' H' bJ,GB 149 4 v' (cs++l) bJ→uu (cs++l)→SH S H0 H' (Pf++bJ)→K w v' H'):
 ME (bS 149 [.string ⟨#[]⟩,.int .i64 0,.int .i64 0,.bool false] 4 1 [(0,.agg ⟨l⟩)] H) fun w H5=>ME (wh 149 4 x w H5) (K w):=by
 obtain⟨t,r,ch,w,rfl,hsz⟩:=id hp
 refine hS.bS rfl rfl rfl aa fun H1 rx hS1=>?_
 have hS1:=hS1.perm (List.Perm.cons _ (List.perm_append_comm (l₁:=Pf)))
 obtain⟨v',H6,bJ,e1,hg',kY,_⟩:=hg.app (m:=0) (cx:=1) hS1 aa rfl rfl aa aa
 exact ME.of e1 (kk _ v' H6 bJ hg' (hT.app hp) (kY.perm List.perm_append_comm))
theorem U0(hw:Wf H){v:Value}{a:Option Addr}{n c:Nat}{cs:List Value}(hv:v=.slice a n c)(hf:Fl H a n 4 cs)(hn:n≤5000)(ht:∀i,i<n→TyP (El cs 4 i)):ak Pg X 80 [v] H (Q1 (fun v H'=>∃a n c cs,v=.slice a n c∧Vo (H.next≤·) H' a n cs) H):=by
 subst hv
 have hS:=SH.refl hw
 refine ce [0,2] ?_;refine tl ?_
 rw[tu (by kernel_rfl)]
 refine au ?_
 refine aA (fun hb=>?_) (fun hb=>?_)
 ·refine rr ?_;exact⟨⟨none,0,0,[],rfl,eO.nil _ _ _ _ _,aa,fun i h=>absurd h aa⟩,Ext.refl _⟩
 ·refine ME.of (aag aa) ?_
  have hS:=hS.grow 149 []
  have hge:=hS.ext.next
  refine hS.Ls aa (.inr ⟨_,rfl⟩) (hf.ex hS.ext) aa fun a' c' H1 L' hf' hS'=>?_
  refine rr ?_;exact⟨⟨a',n,c',cs,rfl,hf'.le hge,hn,ht⟩,hS'.ext⟩
end
section
variable{H0 H:ae}{L M:List aC}{S:List Nat}{F:Nat→Prop}{Q:Int→Prop}{r n c:Nat}{ty:TypeId}
theorem ac3{b rg rv:Nat}{ra na:Option Addr}{rn rc nn nc:Nat}{rcs bY:List Value}(hG:Gr b H ra rn rcs na nn bY){x3:Value}{cs:List Value}{gb:List aC}{H1:ae}(hg:GB 149 4 x3 cs gb)(hT:uu cs)(hl:cs.length≤16000)(hS:SH [] H H1 ([(rv,79,[.slice none 0 0]),(rg,69,[.slice ra rn rc,.slice na nn nc])]++gb)){x4 x5 x7 x9 bg b_ bQ oQ Af qi rH x34 xW x74 x75 LB:Value}{eP:List (Nat×Value)}:
 aT Pg X (sub lS [1,1,1,1,1,1]) (j5 (gV ra rn rc na nn nc) (pr rg) (pr rv) x3 x4 x5 x7 x9 bg b_ bQ oQ Af qi rH x34 xW x74 x75 LB eP H1) (cK Pg [.cell 2 79] (Q1 (fun v H'=>∃a n c cs,v=vV a n c∧Vo (H.next≤·) H' a n cs) H)):=by
 have g2:=hG.2.1
 simp only[List.cons_append,List.nil_append]at hS
 refine tl ?_
 repeat(first|(refine hS.az ?_)|(refine hS.a_ ?_))
 refine Ht 3 12 13 76 (I:=fun m x3 b_ bQ LB H'=>∃i cs gb,LB=vn i∧i +m=rn∧GB 149 4 x3 cs gb∧uu cs∧cs.length≤16000 +4*i∧SH [] H H' ([(rv,79,[.slice none 0 0]),(rg,69,[.slice ra rn rc,.slice na nn nc])]++gb)) ?_ rn ⟨0,cs,gb,rfl,aa,hg,hT,aa,hS⟩
 clear hg hT hl hS
 rintro m x3 b_ bQ LB eP H2 ⟨i,cs,gb,rfl,him,hg,hT,hl,hS⟩
 refine tl ?_
 refine au ?_
 refine ah (fun hc=>?_) (fun hc=>?_)
 rotate_left
 ·refine tl ?_
  obtain⟨k,hk,ht⟩:=hT
  have hS2:=hS.perm (List.perm_append_comm (l₁:=[_,_]))
  obtain⟨a,n,c,rfl,hn,hf⟩:=hg.fl hS2
  obtain rfl:n=k:=by omega
  refine ak.mono (U0 hS.wf rfl hf aa ht) ?_
  rintro v H3 ⟨⟨a',n',c',cs',rfl,hV⟩,hx⟩
  have hge:=hS.ext.next
  have hlt:=hS.lt
  have hS0:=hS.call hx
  refine PU.b1 rfl ?_
  have hS:=SH.own (M:=[(rv,79,[.slice none 0 0]),(rg,69,[.slice ra rn rc,.slice na nn nc])]) hS0
  refine hS.az ?_;refine hS.iB fun Hn hS=>?_
  refine rr ?_
  refine hS.bL ?_
  have Ij:=hS.ext
  exact⟨⟨a',n',c',cs',rfl,(hV.1.stay Ij fun q hq=>.inl (by have:=hlt q (by simp at hq⊢;rcases hq with h|h<;>simp[h]);omega)).wk fun r h=>Nat.le_trans hge h,hV.2⟩,(SH.frame (M:=[_,_]) hS0 hS).ext⟩
 have hi:i<rn:=by omega
 obtain⟨r1,o1,mZ,u1,f1,w1,c1,a1,e1,hl1,o7,ji,hsz,_⟩:=hG.ru hi rc
 rw[e1]
 refine au ?_
 refine hS.mM o7 hl1 ?_
 refine hS.jI rfl rfl rfl fun H5 ru hS hx5=>?_
 have hS:SH [] H H5 ((ru,141,kQ mZ u1 f1 w1 c1 (rootOf rcs i) a1)::(rv,79,[.slice none 0 0])::(rg,69,[.slice ra rn rc,.slice na nn nc])::gb):=hS
 repeat(first|(refine hS.az ?_)|(refine hS.a_ ?_))
 have uY:∀x3 cs gb eP H',GB 149 4 x3 cs gb→uu cs→cs.length≤16000 +4*(i +1)→SH [] H H' ((ru,141,kQ mZ u1 f1 w1 c1 (rootOf rcs i) a1)::(rv,79,[.slice none 0 0])::(rg,69,[.slice ra rn rc,.slice na nn nc])::gb)→
  aT Pg X (sub lS [1,1,1,1,1,1,0,1,0,0,1,1,1]) (j5 (gV ra rn rc na nn nc) (pr rg) (pr rv) x3 x4 x5 x7 x9 bg (vn i) (pr ru) oQ Af qi rH x34 xW (.slice ra rn rc) (vn rn) (vn i) eP H')
   (wZ (kZ (gV ra rn rc na nn nc) (pr rg) (pr rv) x4 x5 x7 x9 bg oQ Af qi rH x34 xW (.slice ra rn rc) (vn rn) fun m x3 b_ bQ LB H'=>∃i cs gb,LB=vn i∧i +m=rn∧GB 149 4 x3 cs gb∧uu cs∧cs.length≤16000 +4*i∧SH [] H H' ([(rv,79,[.slice none 0 0]),(rg,69,[.slice ra rn rc,.slice na nn nc])]++gb)) m (iA 4 (kN Pg X (sub lS [1,1,1,1,1,1,1]) (cK Pg [.cell 2 79] (Q1 (fun v H'=>∃a n c cs,v=vV a n c∧Vo (H.next≤·) H' a n cs) H))))):=by
  intro x3 cs gb eP H' h1 h2 h3 h4
  refine tl ?_
  refine ay ?_
  exact⟨rn -(i +1),aa,_,_,_,_,_,_,rfl,i +1,cs,gb,iC,aa,h1,h2,h3,SH.drop (A:=[_]) h4⟩
 have ap:(lkv:Bool)→∀eP,Az eP 87=.bool lkv→aT Pg X (sub lS [1,1,1,1,1,1,0,1,0,0,1,1,0,0,1,1]) (j5 (gV ra rn rc na nn nc) (pr rg) (pr rv) x3 x4 x5 x7 x9 bg (vn i) (pr ru) oQ Af qi rH x34 xW (.slice ra rn rc) (vn rn) (vn i) eP H5)
  (iA 5 (kN Pg X (sub lS [1,1,1,1,1,1,0,1,0,0,1,1,1]) (wZ (kZ (gV ra rn rc na nn nc) (pr rg) (pr rv) x4 x5 x7 x9 bg oQ Af qi rH x34 xW (.slice ra rn rc) (vn rn) fun m x3 b_ bQ LB H'=>∃i cs gb,LB=vn i∧i +m=rn∧GB 149 4 x3 cs gb∧uu cs∧cs.length≤16000 +4*i∧SH [] H H' ([(rv,79,[.slice none 0 0]),(rg,69,[.slice ra rn rc,.slice na nn nc])]++gb)) m (iA 4 (kN Pg X (sub lS [1,1,1,1,1,1,1]) (cK Pg [.cell 2 79] (Q1 (fun v H'=>∃a n c cs,v=vV a n c∧Vo (H.next≤·) H' a n cs) H))))))):=by
  intro b eP hb
  refine tl ?_
  rw[hb]
  refine aA (fun hb=>?_) (fun hb=>?_)
  rotate_left
  ·refine au ?_
   exact uY _ _ _ _ _ hg hT aa hS
  repeat(first|(refine hS.az ?_)|(refine hS.iG ?_))
  refine ak.mono (wF (oC H5) mZ hsz) ?_
  rintro v H6 ⟨rfl,hx6⟩
  have hS:=hS.kX hx6
  repeat(first|(refine hS.az ?_)|(refine PU.b4 rfl ?_)|(refine hS.iG ?_))
  have hpt:TyP [.string mZ,vn i,vi c1,.bool w1]:=⟨mZ,i,c1,w1,rfl,hsz⟩
  refine hS.S8 rfl rfl rfl aa fun H7 rx hS ji=>?_
  have hS:=hS.to (cs':=[.string mZ,vn i,vi c1,.bool w1]) rfl
  refine hg.Co (hS.perm (List.Perm.cons _ (List.perm_append_comm (l₁:=[_,_,_])))) aa rfl rfl aa fun v' H8 bJ hg' hS _ _ kV=>?_
  have hS:=hS.perm (List.perm_append_comm (l₂:=[_,_,_]))
  simp only[List.cons_append,List.nil_append]at hS
  refine splitK (fun K hK=>?_) ?_
  ·simp only[ji,aN,bn hx6]
   rcases kV with e|e<;>rw[e]<;>apply Lt (a:=ru) (by intros;rfl) (by kernel_rfl) (by kernel_rfl) hK
  exact uY _ _ _ _ _ hg' (hT.app hpt) (by rw[List.length_append];show cs.length +4≤_;omega) hS
 refine aA (fun hb=>?_) (fun hb=>?_)
 ·refine hS.a_ ?_;refine hS.az ?_
  exact ap (!f1) _ rfl
 ·exact ap false _ rfl
theorem JZ(hw:Wf H){b:Nat}{ra na:Option Addr}{rn rc nn nc:Nat}{rcs bY:List Value}(hG:Gr b H ra rn rcs na nn bY)(hcap:na=none∨nc=aK 5):ak Pg X 31 [gV ra rn rc na nn nc] H (Q1 (fun v H'=>∃a n c cs,v=vV a n c∧Vo (H.next≤·) H' a n cs) H):=by
 have hS:=SH.refl hw
 have g2:=hG.2.1
 have g5:=hG.2.2.2.2.1
 refine ce [0,1,2,3,4,5,7,9,11,12,13,21,22,23,33,34,35,74,75,76] ?_;refine tl ?_
 refine hS.box rfl fun H1 rg hS=>?_
 refine hS.bZ fun Hn rv hS=>?_
 refine hS.az ?_;refine hS.bL ?_
 refine ak.mono (Dp hS.wf (hG.ex hS.ext)) ?_
 rintro v H2 ⟨⟨z,a,c,rfl,hcl⟩,hx⟩
 have hS:=hS.call hx
 rw[wK]
 refine au ?_
 refine aO (fun hc=>?_) (fun hc=>?_)
 ·refine PU.b1 rfl ?_
  refine hS.iB fun Hn hS=>?_
  refine rr ?_
  refine hS.bL ?_
  exact⟨⟨none,0,0,[],rfl,eO.nil _ _ _ _ _,aa,fun i h=>absurd h aa⟩,hS.ext⟩
 have hC:=(hcl hc).1
 have hn1:=hC.2.1
 have hn0:0<nn:=by have:=hC.1.2 0 aa;omega
 have hge:=hS.ext.next
 refine ME.UZ hS q_ fun H3 rm hm hx3 hrm hS=>?_
 have hrm:H.next≤rm:=by omega
 refine hS.a_ ?_;refine hS.az ?_
 refine lp9 3 5 7 9 11 23 33 34 35 (I:=fun m x3 x5 x7 x9 bg qi rH x34 xW H'=>∃i mm cs gb,x5=vn (oO rcs i)∧qi=vn i∧i +m=rn∧jJ H' rm mm∧GB 149 4 x3 cs gb∧uu cs∧cs.length≤4*oO rcs i∧SH [] H H' ([(rv,79,[.slice none 0 0]),(rg,69,[.slice ra rn rc,.slice na nn nc])]++gb)) ?_ rn ⟨0,[],[],[],rfl,rfl,aa,hm,GB.nil _ _,uu.nil,Nat.zero_le _,hS⟩
 clear hS hm
 rintro m x3 x5 x7 x9 bg qi rH x34 xW eP H4 ⟨i,mm,cs,gb,rfl,rfl,him,hm,hg,hT,hl,hS⟩
 refine tl ?_
 refine au ?_
 refine ah (fun hc=>?_) (fun hc=>?_)
 rotate_left
 ·obtain rfl:i=rn:=by omega
  have hfr:=hC.from (i:=i -1) aa
  rw[show i -1 +1=i by omega]at hfr
  exact ac3 hG hg hT aa hS
 have hi:i<rn:=by omega
 have hfr:=hC.from hi
 obtain⟨r1,o1,mZ,u1,f1,w1,c1,a1,e1,hl1,o7,ji,hsz,_⟩:=hG.ru hi rc
 rw[e1]
 refine au ?_
 refine hS.mM o7 hl1 ?_
 refine hS.jI rfl rfl rfl fun H5 ru hS hx5=>?_
 have hm:=hm.ex hx5 (fun h=>nomatch h)
 have hS:SH [] H H5 ((ru,141,kQ mZ u1 f1 w1 c1 (rootOf rcs i) a1)::(rv,79,[.slice none 0 0])::(rg,69,[.slice ra rn rc,.slice na nn nc])::gb):=hS
 refine hS.az ?_;refine hS.a_ ?_;refine hS.a_ ?_
 refine ay ?_
 rw[←hfr.2.2]
 have hlo:oO rcs i≤oO rcs (i +1):=by omega
 have hhi:oO rcs (i +1)≤nn:=by omega
 generalize hh:oO rcs (i +1)=hi' at hlo hhi hfr⊢
 generalize oO rcs i=lo at hlo hl hfr⊢
 obtain⟨r2,o2,esl,hr2,hsub⟩:=hG.sub hcap hlo hhi hn0
 refine PU.of esl ?_
 refine au ?_
 refine Ht 3 9 11 35 (I:=fun m x3 x9 bg xW H'=>∃k mm cs gb,xW=vn k∧k +m=hi' -lo∧jJ H' rm mm∧GB 149 4 x3 cs gb∧uu cs∧cs.length≤4*(lo +k)∧SH [] H H' ([(ru,141,kQ mZ u1 f1 w1 c1 (rootOf rcs i) a1),(rv,79,[.slice none 0 0]),(rg,69,[.slice ra rn rc,.slice na nn nc])]++gb)) ?_ (hi' -lo) ⟨0,mm,cs,gb,rfl,aa,hm,hg,hT,aa,hS⟩
 clear hS hm hg hT hl hc
 rintro m' y3 y9 y11 y35 Eg H6 ⟨k,mm,cs,gb,rfl,hkm,hm,hg,hT,hl,hS⟩
 simp only[List.cons_append,List.nil_append]at hS
 refine tl ?_
 refine au ?_
 refine ah (fun hc=>?_) (fun hc=>?_)
 rotate_left
 ·obtain rfl:k=hi' -lo:=by omega
  refine tl ?_
  refine hS.az ?_;refine hS.a_ ?_
  refine ay ?_
  refine tl ?_
  refine ay ?_
  exact⟨rn -(i +1),aa,_,_,_,_,_,_,_,_,_,_,_,rfl,i +1,mm,cs,gb,by rw[hh,←hfr.2.2],iC,aa,hm,hg,hT,aa,SH.drop (A:=[_]) hS⟩
 have hk:k<hi' -lo:=by omega
 obtain⟨eid,erd⟩:=hsub k hk
 refine PU.of eid ?_
 obtain⟨kd,ka,kn,kc,ks,t,xa,xn,xc,at',he,_,htz,_⟩:=hC.1.1 (lo +k) aa
 rw[he]at erd
 refine hS.mM erd hr2 ?_
 refine hS.jI rfl rfl rfl fun H7 rb hS hx7=>?_
 have hm:=hm.ex hx7 (fun h=>nomatch h)
 have hS:SH [] H H7 ((rb,145,[vi kd,.slice ka kn kc,.string t,.slice xa xn xc,vi at'])::(ru,141,kQ mZ u1 f1 w1 c1 (rootOf rcs i) a1)::(rv,79,[.slice none 0 0])::(rg,69,[.slice ra rn rc,.slice na nn nc])::gb):=hS
 refine hS.az ?_;refine hS.a_ ?_
 refine ME.JH hm q_ JI VW fun f _ _=>?_
 refine au ?_
 have uY:∀{bg mm cs gb pO H8 x3},jJ H8 rm mm→GB 149 4 x3 cs gb→uu cs→cs.length≤4*(lo +(k +1))→SH [] H H8 ((rb,145,[vi kd,.slice ka kn kc,.string t,.slice xa xn xc,vi at'])::(ru,141,kQ mZ u1 f1 w1 c1 (rootOf rcs i) a1)::(rv,79,[.slice none 0 0])::(rg,69,[.slice ra rn rc,.slice na nn nc])::gb)→
  ∃m_1,m_1<m'∧mF (gV ra rn rc na nn nc) (pr rg) (pr rv) (.map (some rm)) (vn lo) (pr ru) top top (.slice ra rn rc) (vn rn) (vn i) (.slice (some ⟨r2,o2 +lo*5,none⟩) (hi' -lo) (aK 5)) (vn (hi' -lo)) top top top (fun m x3 x9 bg xW H'=>∃k mm cs gb,xW=vn k∧k +m=hi' -lo∧jJ H' rm mm∧GB 149 4 x3 cs gb∧uu cs∧cs.length≤4*(lo +k)∧SH [] H H' ([(ru,141,kQ mZ u1 f1 w1 c1 (rootOf rcs i) a1),(rv,79,[.slice none 0 0]),(rg,69,[.slice ra rn rc,.slice na nn nc])]++gb)) m_1
   (j5 (gV ra rn rc na nn nc) (pr rg) (pr rv) x3 (.map (some rm)) (vn lo) (pr ru) (pr rb) bg top top (.slice ra rn rc) (vn rn) (vn i) (.slice (some ⟨r2,o2 +lo*5,none⟩) (hi' -lo) (aK 5)) (vn (hi' -lo)) (vi ((k:Int) +1)) top top top pO H8):=by
  intro bg mm cs gb pO H8 x3 h1 h2 h3 h4 h5
  exact⟨hi' -lo -(k +1),aa,_,_,_,_,_,_,rfl,k +1,mm,cs,gb,iC,aa,h1,h2,h3,h4,SH.drop (A:=[_]) h5⟩
 refine aA (fun hb=>?_) (fun hb=>?_)
 ·refine ay ?_
  exact uY hm hg hT aa hS
 refine hS.a_ ?_;refine hS.az ?_
 refine aA (fun hb2=>?_) (fun hb2=>?_)
 ·refine ay ?_
  exact uY hm hg hT aa hS
 refine hS.a_ ?_;refine hS.az ?_
 refine aO (fun hc3=>?_) (fun hc3=>?_)
 ·refine ay ?_
  exact uY hm hg hT aa hS
 refine tl ?_
 refine hS.az ?_;refine hS.a_ ?_
 obtain⟨a3,n3,c3,rfl,hn3,_⟩:=hg.fl (hS.perm (List.perm_append_comm (l₁:=[_,_,_,_])))
 refine au ?_
 refine hS.upd (.inr hrm) hm q_ VW fun H8 mm2 hm2 _ hS=>?_
 refine hS.a_ ?_
 refine ak.mono (wF hS.wf t htz) ?_
 rintro v H9 ⟨rfl,Qp⟩
 have hm2:=hm2.ex Qp (fun h=>nomatch h)
 have hS:=hS.call Qp
 have aeJ:=hm2.1
 refine PU.b4 rfl ?_
 have hnm:=hS.wM hm2
 have hS:SH [] H H9 ([(rb,145,[vi kd,.slice ka kn kc,.string t,.slice xa xn xc,vi at']),(ru,141,kQ mZ u1 f1 w1 c1 (rootOf rcs i) a1),(rv,79,[.slice none 0 0]),(rg,69,[.slice ra rn rc,.slice na nn nc])]++gb):=hS
 have hS0:=hS
 have hS:=hS0.base
 refine aeb hg hT aa hS (l:=[.string t,vi (-1),vi 0,.bool false]) ⟨t,-1,0,false,rfl,htz⟩ fun w v' GU bJ hg' hT' hS'=>?_
 have Jy:=hm2.ex hS'.ext hnm
 refine au ?_
 refine tl ?_
 refine ay ?_
 exact uY Jy hg' hT' (by rw[List.length_append];show cs.length +4≤_;omega) (hS0.over hS')
end
section
variable{H0 H:ae}{L M:List aC}{S:List Nat}{F:Nat→Prop}{Q:Int→Prop}{r n c:Nat}{ty:TypeId}
def oP(rcs:List Value):Nat→Nat
 |0=>0
 |i +1=>oP rcs i +(if yt rcs i=true then 0 else 1)
theorem zy(rcs:List Value){i j:Nat}(h:i≤j):oP rcs i≤oP rcs j:=by
 induction j with
 |zero=>obtain rfl:i=0:=by omega
        exact Nat.le_refl _
 |succ j ih=>
  rcases Nat.lt_or_ge i (j +1)with h1|h1
  ·have:=ih aa
   show _≤oP rcs j +_
   omega
  ·obtain rfl:i=j +1:=by omega
   exact Nat.le_refl _
theorem GV(rcs:List Value):∀i,oP rcs i≤i
 |0=>Nat.le_refl _
 |i +1=>by
  have:=GV rcs i
  show oP rcs i +_≤_
  split<;>omega
def kM(tn lw:Nat)(l:List Value):Prop:=∃k a:Nat,l=[vn k,vn a,vn 0]∧(k=0∨(k=1∧a<tn)∨(k=2∧a<lw))
theorem kM.zero(tn lw:Nat):kM tn lw [vi 0,vi 0,vi 0]:=⟨0,0,rfl,.inl rfl⟩
def Fj(tn lw:Nat)(m:List (ByteArray×Value)):Prop:=∀p∈m,∃l,p.2=.agg ⟨l⟩∧kM tn lw l
theorem GX:rR Pg 189=some (9,47):=by kernel_rfl
theorem U1:vg Pg 47=some (.agg ⟨[vi 0,vi 0,vi 0]⟩):=by kernel_rfl
theorem Fj.get{tn lw:Nat}{m:List (ByteArray×Value)}(h:Fj tn lw m){k:ByteArray}{f:Option Value}(hf:∀v,f=some v→(k,v)∈m):∃l,f.getD (.agg ⟨[vi 0,vi 0,vi 0]⟩)=.agg ⟨l⟩∧kM tn lw l:=by
 cases f with
 |none=>exact⟨_,rfl,kM.zero _ _⟩
 |some v=>exact h _ (hf v rfl)
theorem U2{tn lw rm re ru rv rg:Nat}{va ra na:Option Addr}{vc rn rc nn nc:Nat}{mm:List (ByteArray×Value)}{nm:ByteArray}{u f w:Bool}{ch root at' kd ar:Int}{H1:ae}(hrm:H.next≤rm)(hm:jJ H1 rm mm)(hE:Fj tn lw mm)(hk:0≤ar→kM tn lw [vi kd,vi ar,vi 0])
 (hS:SH [] H H1 [(re,47,[vi kd,vi ar,vi 0]),(ru,141,kQ nm u f w ch root at'),(rv,79,[.slice va tn vc]),(rg,69,[.slice ra rn rc,.slice na nn nc])]){x0 x1 x6 x7 bg b_ bQ fU bU jK nT x20 Xh Xi LC Ke:Value}{eP:List (Nat×Value)}{K:Out→Prop}
 (kk:∀bg QV pO H',jJ H' rm QV→Fj tn lw QV→SH [] H H' [(rv,79,[.slice va tn vc]),(rg,69,[.slice ra rn rc,.slice na nn nc])]→K (.norm (fV x0 x1 (pr rg) (pr rv) (.slice none 0 0) (.map (some rm)) x6 x7 (pr ru) (pr re) bg b_ bQ fU bU jK nT x20 Xh Xi LC Ke pO H'))):
 aT Pg X (sub mO [1,1,1,0,1,0,0,1,1,0,0,1,1,1]) (fV x0 x1 (pr rg) (pr rv) (.slice none 0 0) (.map (some rm)) x6 x7 (pr ru) (pr re) bg b_ bQ fU bU jK nT x20 Xh Xi LC Ke eP H1) K:=by
 refine tl ?_
 refine hS.az ?_;refine hS.a_ ?_
 refine ME.JH hm GX U1 VW fun fo hf _=>?_
 refine au ?_
 obtain⟨l,e,hl⟩:=hE.get hf
 rw[e]
 obtain⟨k1,a1,rfl,hl⟩:=hl
 refine hS.jI rfl rfl rfl fun H2 rt hS hx=>?_
 have hm:=hm.ex hx (fun h=>nomatch h)
 have hS:SH [] H H2 ((rt,47,[vn k1,vn a1,vn 0])::[(re,47,[vi kd,vi ar,vi 0]),(ru,141,kQ nm u f w ch root at'),(rv,79,[.slice va tn vc]),(rg,69,[.slice ra rn rc,.slice na nn nc])]):=hS
 have put:∀b:Bool,(b=true→0≤ar)→∀bg eP,Az eP 48=.bool b→aT Pg X (sub mO [1,1,1,0,1,0,0,1,1,0,0,1,1,1,1,1]) (fV x0 x1 (pr rg) (pr rv) (.slice none 0 0) (.map (some rm)) x6 x7 (pr ru) (pr re) bg b_ bQ fU bU jK nT x20 Xh Xi LC Ke eP H2) K:=by
  intro b hb bg eP hlk
  refine tl ?_
  rw[hlk]
  refine aA (fun hb2=>?_) (fun hb2=>?_)
  ·refine hS.az ?_;refine hS.a_ ?_;refine hS.bL ?_
   refine hS.upd (.inr hrm) hm GX VW fun H3 mm2 hm2 hmm hS=>?_
   refine kk _ mm2 _ _ hm2 (fun p hp=>?_) (SH.drop (A:=[_,_,_]) hS)
   rcases hmm p hp with h|rfl
   ·exact hE p h
   ·exact⟨_,rfl,hk (hb hb2)⟩
  ·exact kk _ mm _ _ hm hE (SH.drop (A:=[_,_,_]) hS)
 refine aA (fun hb=>?_) (fun hb=>?_)
 ·refine hS.a_ ?_;refine hS.az ?_
  exact put _ of_decide_eq_true _ _ rfl
 ·exact put false (fun h=>by cases h) _ _ rfl
theorem _root_.Go.Ae.SH.aec{S:List Nat}{H0 H:ae}{L:List aC}{K:Value→ae→Prop}(hS:SH S H0 H L){e:TypeId}{z:List Value}{n m:Nat}(hn:n≤m)(hm:m≤16777216)
 (k:∀H1 r,SH S H0 H1 ((r,e,gQ z m)::L)→Ext H H1→H.next≤r→K (.slice (some ⟨r,0,none⟩) n m) H1):ME (Go.Ae.mkS e z (vn n) (vn m) H) K:=
 (SH.refl hS.wf).mkS hn hm fun H1 r hO=>k H1 r (SH.frame (M:=[]) (L:=L) hS hO) hO.ext (hO.wm (List.mem_cons_self ..))
theorem aaM(z:List Value)(n:Nat):∀k,k<n→El (gQ z n) z.length k=z:=by
 induction n with
 |zero=>intro k h;omega
 |succ n ih=>
  intro k h
  have e:gQ z (n +1)=z++gQ z n:=by show app z (gQ z n)=_;rw[jd]
  rw[e]
  cases k with
  |zero=>unfold El;simp
  |succ k=>
   have:=ih k aa
   unfold El at this⊢
   rw[show(k +1)*z.length=z.length +k*z.length by rw[Nat.add_mul];omega,List.drop_append,List.drop_of_length_le aa]
   rw[show z.length +k*z.length -z.length=k*z.length by omega]
   exact this
theorem aaN{tn lw rm rv rg b:Nat}{va ra na:Option Addr}{vc rn rc nn nc:Nat}{rcs bY vcs:List Value}{mm:List (ByteArray×Value)}{H1:ae}(hG:Gr b H ra rn rcs na nn bY)(hR:∀i,i<nn→UI (b≤·) H i (El bY 5 i))(hV:Vo F H va tn vcs)(hm:jJ H1 rm mm)(hE:Fj tn lw mm)
 (hS:SH [] H H1 [(rv,79,[.slice va tn vc]),(rg,69,[.slice ra rn rc,.slice na nn nc])]){x0 x1 x6 x7 x8 x9 bg b_ bQ fU bU jK nT x20 Xh Xi LC Ke:Value}{eP:List (Nat×Value)}:
 aT Pg X (sub mO [1,1,1,1]) (fV x0 x1 (pr rg) (pr rv) (.slice none 0 0) (.map (some rm)) x6 x7 x8 x9 bg b_ bQ fU bU jK nT x20 Xh Xi LC Ke eP H1)
  (cK Pg [.tmp 4] (Q1 (fun v H'=>∃rl cs,v=.slice (some ⟨rl,0,none⟩) nn nn∧H.next≤rl∧rl<H'.next∧Bk H' rl 47 cs∧cs.length=nn*3∧∀i,i<nn→kM tn lw (El cs 3 i)) H)):=by
 have g5:=hG.2.2.2.2.1
 have hnm:=hS.wM hm
 refine tl ?_
 repeat(first|(refine hS.az ?_)|(refine hS.a_ ?_))
 have aeK:=hm.1
 refine hS.aec (Nat.le_refl _) aa fun H2 rl hS hx2 hrl=>?_
 refine hS.ld 2 (o:=1) rfl rfl ?_
 refine au ?_
 have hm:=hm.ex hx2 (fun h=>nomatch h)
 have hin:∃cs,cs.length=nn*3∧(∀i,i<nn→kM tn lw (El cs 3 i))∧SH [] H H2 [(rl,47,cs),(rv,79,[.slice va tn vc]),(rg,69,[.slice ra rn rc,.slice na nn nc])]:=⟨_,EN _ _,fun i hi=>by rw[show(3:Nat)=[Value.int .i64 0,Value.int .i64 0,Value.int .i64 0].length from rfl,aaM _ _ _ hi];exact kM.zero _ _,hS⟩
 refine VP 13 14 15 61 67 (I:=fun m bQ fU bU LC Ke H'=>∃i cs,LC=vn i∧i +m=nn∧jJ H' rm mm∧cs.length=nn*3∧(∀i,i<nn→kM tn lw (El cs 3 i))∧SH [] H H' [(rl,47,cs),(rv,79,[.slice va tn vc]),(rg,69,[.slice ra rn rc,.slice na nn nc])]) ?_ nn ⟨0,hin.choose,rfl,aa,hm,hin.choose_spec.1,hin.choose_spec.2.1,hin.choose_spec.2.2⟩
 clear hS hm hin
 rintro m bQ fU bU LC Ke eP H3 ⟨i,cs,rfl,him,hm,hcl,hcs,hS⟩
 refine tl ?_
 refine au ?_
 refine ah (fun hc=>?_) (fun hc=>?_)
 rotate_left
 ·refine tl ?_
  refine rr ?_;exact⟨⟨rl,cs,rfl,hS.wm (List.mem_cons_self ..),(hS.lo _ (List.mem_cons_self ..)).2,hS.get 0 rfl,hcl,hcs⟩,hS.ext⟩
 have hi:i<nn:=by omega
 obtain⟨kd,ka,kn,kc,ks,t,xa,xn,xc,at',he,_,htz,_⟩:=hR i hi
 obtain⟨r2,o2,e2,hr2,hrd,_⟩:=hG.no hi nc he
 rw[e2]
 refine au ?_
 refine hS.mM hrd hr2 ?_
 refine hS.jI rfl rfl rfl fun H4 rb hS hx4=>?_
 have hm:=hm.ex hx4 (fun h=>nomatch h)
 have hS:SH [] H H4 ((rb,145,[vi kd,.slice ka kn kc,.string t,.slice xa xn xc,vi at'])::[(rl,47,cs),(rv,79,[.slice va tn vc]),(rg,69,[.slice ra rn rc,.slice na nn nc])]):=hS
 have uY:∀{bU Ke pO H5 cs},jJ H5 rm mm→cs.length=nn*3→(∀i,i<nn→kM tn lw (El cs 3 i))→SH [] H H5 ((rb,145,[vi kd,.slice ka kn kc,.string t,.slice xa xn xc,vi at'])::[(rl,47,cs),(rv,79,[.slice va tn vc]),(rg,69,[.slice ra rn rc,.slice na nn nc])])→
  ∃m_1,m_1<m∧o6 x0 x1 (pr rg) (pr rv) (.slice none 0 0) (.map (some rm)) x6 x7 x8 x9 bg (.slice (some ⟨rl,0,none⟩) nn nn) jK nT x20 (.slice na nn nc) (vn nn) (fun m bQ fU bU LC Ke H'=>∃i cs,LC=vn i∧i +m=nn∧jJ H' rm mm∧cs.length=nn*3∧(∀i,i<nn→kM tn lw (El cs 3 i))∧SH [] H H' [(rl,47,cs),(rv,79,[.slice va tn vc]),(rg,69,[.slice ra rn rc,.slice na nn nc])]) m_1
   (fV x0 x1 (pr rg) (pr rv) (.slice none 0 0) (.map (some rm)) x6 x7 x8 x9 bg (.slice (some ⟨rl,0,none⟩) nn nn) (vn i) (pr rb) bU jK nT x20 (.slice na nn nc) (vn nn) (vi ((i:Int) +1)) Ke pO H5):=by
  intro bU Ke pO H5 cs h1 h2 h3 h4
  exact⟨nn -(i +1),aa,_,_,_,_,_,_,_,rfl,i +1,cs,iC,aa,h1,h2,h3,SH.drop (A:=[_]) h4⟩
 have put:∀{H5 l}{K:Value→Value→ae→Prop},jJ H5 rm mm→kM tn lw l→SH [] H H5 ((rb,145,[vi kd,.slice ka kn kc,.string t,.slice xa xn xc,vi at'])::[(rl,47,cs),(rv,79,[.slice va tn vc]),(rg,69,[.slice ra rn rc,.slice na nn nc])])→
  (∀p H6 cs,jJ H6 rm mm→cs.length=nn*3→(∀i,i<nn→kM tn lw (El cs 3 i))→SH [] H H6 ((rb,145,[vi kd,.slice ka kn kc,.string t,.slice xa xn xc,vi at'])::[(rl,47,cs),(rv,79,[.slice va tn vc]),(rg,69,[.slice ra rn rc,.slice na nn nc])])→K p undef H6)→
  PU (sS 3 (.slice (some ⟨rl,0,none⟩) nn nn) (vn i)) fun p=>ME (yB 3 p (.agg ⟨l⟩) H5) (K p):=by
  intro H5 l K hm hl hS kk
  refine PU.of (oF hi) ?_
  rw[Nat.zero_add]
  obtain⟨k1,a1,rfl,_⟩:=id hl
  have hO:=hS.base
  refine hO.st 1 rfl rfl (by show i*3 +3≤cs.length;omega) rfl fun H6 hO6=>?_
  have hne:=hS.wM hm
  refine kk _ H6 _ (hm.ex hO6.ext hne) (by rw[eH (by show i*3 +3≤cs.length;omega)];exact hcl) (fun k hk=>?_) (hS.over hO6)
  show kM tn lw (El (splice cs (i*3) [vn k1,vn a1,vn 0]) 3 k)
  rw[zg (es:=3) (k:=i) rfl aa]
  split
  ·exact hl
  ·exact hcs k hk
 repeat(first|(refine hS.az ?_)|(refine hS.a_ ?_))
 refine ah (fun hc1=>?_) (fun hc1=>?_)
 ·refine hS.a_ ?_
  refine ME.Zl hm GX U1 VW fun fo hf _=>?_
  obtain⟨l,e,hl⟩:=hE.get hf
  rw[e]
  refine put hm hl hS fun p H6 cs h1 h2 h3 h4=>?_
  refine ay ?_
  exact uY h1 h2 h3 h4
 refine ah (fun hc2=>?_) (fun hc2=>?_)
 rotate_left
 ·refine ay ?_
  exact uY hm hcl hcs hS
 refine hS.bL ?_;refine hS.a_ ?_
 refine ak.mono (Ei hS.wf ⟨hV.1.ex hS.ext,hV.2⟩ t) ?_
 rintro v H5 ⟨⟨z,rfl,hz1,hz2⟩,hx5⟩
 have hS:=hS.call hx5
 have hm:=hm.ex hx5 (fun h=>nomatch h)
 refine au ?_
 refine ah (fun hc3=>?_) (fun hc3=>?_)
 ·obtain⟨z,rfl⟩:∃n:Nat,z=n:=⟨z.toNat,aa⟩
  refine PU.b3 rfl ?_
  refine put (l:=[vi 1,vn z,vi 0]) hm ⟨1,z,rfl,.inr (.inl ⟨rfl,aa⟩)⟩ hS fun p H6 cs h1 h2 h3 h4=>?_
  refine ay ?_
  exact uY h1 h2 h3 h4
 ·refine ay ?_
  exact uY hm hcl hcs hS
theorem Mm(hw:Wf H){b tn:Nat}{ra na va:Option Addr}{rn rc nn nc vc:Nat}{rcs bY vcs:List Value}(hG:Gr b H ra rn rcs na nn bY)(hR:∀i,i<nn→UI (b≤·) H i (El bY 5 i))(hV:Vo F H va tn vcs):ak Pg X 76 [gV ra rn rc na nn nc,vV va tn vc] H
 (Q1 (fun v H'=>∃rl cs,v=.slice (some ⟨rl,0,none⟩) nn nn∧H.next≤rl∧rl<H'.next∧Bk H' rl 47 cs∧cs.length=nn*3∧∀i,i<nn→kM tn (oP rcs rn) (El cs 3 i)) H):=by
 have g2:=hG.2.1
 have hS:=SH.refl hw
 refine ce [0,1,2,3,4,5,6,7,8,9,11,12,13,14,15,18,19,20,59,60,61,67] ?_;refine tl ?_
 refine hS.box rfl fun H1 rg hS=>?_
 refine hS.box rfl fun H2 rv hS=>?_
 have hge:=hS.ext.next
 refine ME.UZ hS GX fun H3 rm hm hx3 hrm hS=>?_
 have hrm:H.next≤rm:=by omega
 repeat(first|(refine hS.az ?_)|(refine hS.a_ ?_))
 refine Zd 6 7 8 9 11 20 (I:=fun m x6 x7 x8 x9 bg x20 H'=>∃i mm,x6=vn (oP rcs i)∧x20=vn i∧i +m=rn∧jJ H' rm mm∧Fj tn (oP rcs rn) mm∧SH [] H H' [(rv,79,[.slice va tn vc]),(rg,69,[.slice ra rn rc,.slice na nn nc])]) ?_ rn ⟨0,[],rfl,rfl,aa,hm,(fun p h=>nomatch h),hS⟩
 clear hS hm
 rintro m x6 x7 x8 x9 bg x20 eP H4 ⟨i,mm,rfl,rfl,him,hm,hE,hS⟩
 refine tl ?_
 refine au ?_
 refine ah (fun hc=>?_) (fun hc=>?_)
 rotate_left
 ·exact aaN hG hR hV hm hE hS
 have hi:i<rn:=by omega
 obtain⟨r1,o1,mZ,u1,f1,w1,c1,a1,e1,hl1,o7,ji,hsz,hel⟩:=hG.ru hi rc
 rw[e1]
 refine au ?_
 refine hS.mM o7 hl1 ?_
 refine hS.jI rfl rfl rfl fun H5 ru hS hx5=>?_
 have hm:=hm.ex hx5 (fun h=>nomatch h)
 refine PU.b3 rfl ?_
 refine hS.jI rfl rfl rfl fun H6 re hS hx6=>?_
 have hm:=hm.ex hx6 (fun h=>nomatch h)
 have hS:SH [] H H6 [(re,47,[vi 2,vn (oP rcs i),vi 0]),(ru,141,kQ mZ u1 f1 w1 c1 (rootOf rcs i) a1),(rv,79,[.slice va tn vc]),(rg,69,[.slice ra rn rc,.slice na nn nc])]:=hS
 have hlow:oP rcs (i +1)=oP rcs i +(if yt rcs i=true then 0 else 1):=rfl
 rw[Bo hel]at hlow
 have hmo:=zy rcs (show i +1≤rn by omega)
 have aed:=GV rcs i
 repeat(first|(refine hS.az ?_)|(refine hS.a_ ?_))
 refine aA (fun hb=>?_) (fun hb=>?_)
 ·rw[if_pos hb]at hlow
  refine hS.bL ?_
  refine ak.mono (Mj hS.wf ⟨hV.1.ex hS.ext,hV.2⟩ i) ?_
  rintro v H7 ⟨⟨z,rfl,hz1,hz2⟩,hx7⟩
  have hS:=hS.call hx7
  have hm:=hm.ex hx7 (fun h=>nomatch h)
  refine PU.b3 rfl ?_
  have hO:=hS.base
  refine hO.st 0 rfl rfl (Nat.le_refl 3) rfl fun H8 hO8=>?_
  have hm:=hm.ex hO8.ext (hS.wM hm)
  have hS:SH [] H H8 [(re,47,[vi 1,vi z,vi 0]),(ru,141,kQ mZ u1 f1 w1 c1 (rootOf rcs i) a1),(rv,79,[.slice va tn vc]),(rg,69,[.slice ra rn rc,.slice na nn nc])]:=hS.over hO8
  refine U2 hrm hm hE (fun h0=>by
   obtain⟨z,rfl⟩:∃n:Nat,z=n:=⟨z.toNat,aa⟩
   exact⟨1,z,rfl,.inr (.inl ⟨rfl,aa⟩)⟩) hS fun bg QV pO H9 g1 g2 g3=>?_
  refine au ?_
  refine tl ?_
  refine ay ?_
  exact⟨rn -(i +1),aa,_,_,_,_,_,_,_,_,rfl,i +1,QV,by rw[hlow];rfl,iC,aa,g1,g2,g3⟩
 ·rw[if_neg (by rw[hb];simp)]at hlow
  refine ay ?_
  rw[show((oP rcs i:Int) +1)=((oP rcs (i +1):Nat):Int) by omega]
  refine U2 hrm hm hE (fun h0=>⟨2,oP rcs i,rfl,.inr (.inr ⟨rfl,aa⟩)⟩) hS fun bg QV pO H9 g1 g2 g3=>?_
  refine au ?_
  refine tl ?_
  refine ay ?_
  exact⟨rn -(i +1),aa,_,_,_,_,_,_,_,_,rfl,i +1,QV,rfl,iC,aa,g1,g2,g3⟩
end
section
variable{H0 H:ae}{L M:List aC}{S:List Nat}{F:Nat→Prop}{Q:Int→Prop}{r n c:Nat}{ty:TypeId}
def Ov(F:Nat→Prop)(H:ae)(nn:Nat)(bY:List Value)(kd:Nat→Int)(zs:Nat→List Nat):Prop:=∀i,i<nn→∃(a:Option Addr)(c:Nat)(t:ByteArray)(xa:Option Addr)(xn xc:Nat)(at':Int),El bY 5 i=[vi (kd i),.slice a (zs i).length c,.string t,.slice xa xn xc,vi at']∧eO F 3 H a (zs i).length 1 (aP (zs i))∧Dc (kd i) (zs i).length∧(∀z∈zs i,z<i)∧t.size≤1000000∧(zs i).length≤20001
theorem Ow:∀{ks:List Value}{i:Nat},(∀x∈ks,∃z:Nat,x=vn z∧z<i)→∃zs,ks=aP zs∧∀z∈zs,z<i
 |[],i,h=>⟨[],rfl,fun z h=>nomatch h⟩
 |x::ks,i,h=>by
  obtain⟨z,rfl,hz⟩:=h x (List.mem_cons_self ..)
  obtain⟨zs,rfl,h2⟩:=Ow (ks:=ks) (i:=i) fun y hy=>h y (List.mem_cons_of_mem _ hy)
  exact⟨z::zs,rfl,fun y hy=>by
   rcases List.mem_cons.1 hy with rfl|hy
   ·exact hz
   ·exact h2 y hy⟩
theorem Ov.of{nn:Nat}{bY:List Value}(h:∀i,i<nn→UI F H i (El bY 5 i)):∃kd zs,Ov F H nn bY kd zs:=by
 have key:∀i,∃p:Int×List Nat,i<nn→∃(a:Option Addr)(c:Nat)(t:ByteArray)(xa:Option Addr)(xn xc:Nat)(at':Int),El bY 5 i=[vi p.1,.slice a p.2.length c,.string t,.slice xa xn xc,vi at']∧eO F 3 H a p.2.length 1 (aP p.2)∧Dc p.1 p.2.length∧(∀z∈p.2,z<i)∧t.size≤1000000∧p.2.length≤20001:=by
  intro i
  by_cases hi:i<nn
  ·obtain⟨kd,a,n,c,ks,t,xa,xn,xc,at',h1,h2,h3,h4,h5,h6⟩:=h i hi
   obtain⟨zs,rfl,h7⟩:=Ow h6
   have:n=zs.length:=by have:=h4.1.1;simp at this;omega
   subst this
   exact⟨(kd,zs),fun _=>⟨a,c,t,xa,xn,xc,at',h1,h4,h5,h7,h3,h2⟩⟩
  ·exact⟨(0,[]),fun h=>absurd h hi⟩
 exact⟨fun i=>(Classical.choose (key i)).1,fun i=>(Classical.choose (key i)).2,fun i hi=>Classical.choose_spec (key i) hi⟩
def W(ws:List Nat)(i:Nat):Nat:=ws[i]?.getD 0
def w_(kd:Int):Nat:=if kd=0 then 2 else if kd=1 then 0 else if kd=2∨kd=3∨kd=4 then 3 else 1
def AR(kd:Int):Nat:=if kd=0 then 1 else 0
def ig(ws:List Nat)(kd:Int)(l:List Nat):Nat:=(l.map fun z=>W ws z +AR kd).sum
def yw(kd:Nat→Int)(zs:Nat→List Nat)(ws:List Nat)(i:Nat):Prop:=W ws i=min (w_ (kd i) +ig ws (kd i) (zs i)) 4001
theorem Zt{ws:List Nat}{i x z:Nat}(h:z≠i):W (ws.set i x) z=W ws z:=by
 unfold W;rw[List.getElem?_set,if_neg (fun e=>h e.symm)]
theorem aaO{ws:List Nat}{i x:Nat}(h:i<ws.length):W (ws.set i x) i=x:=by
 unfold W;rw[List.getElem?_set,if_pos rfl,if_pos h];rfl
theorem J2{ws:List Nat}{i x:Nat}{kd:Int}{l:List Nat}(h:∀z∈l,z<i):ig (ws.set i x) kd l=ig ws kd l:=by
 unfold ig
 congr 1
 apply List.map_congr_left
 intro z hz
 rw[Zt (by have:=h z hz;omega)]
theorem ac4{ws:List Nat}{kd:Nat→Int}{zs:Nat→List Nat}{i:Nat}(h:yw kd zs ws i):W ws i≤4001:=by
 unfold yw at h;omega
theorem aee{nn rs rr rn rc nc i rb rg:Nat}{ra na xa:Option Addr}{t:ByteArray}{a:Option Addr}{c xn xc:Nat}{at':Int}{kd:Nat→Int}{zs:Nat→List Nat}{ws:List Nat}{bs:List Bool}{ok:Bool}{H1:ae}(hnn:nn≤4000)(hi:i<nn)(hwl:ws.length=nn)(hbl:bs.length=nn)
 (hf:eO F 3 H a (zs i).length 1 (aP (zs i)))(hzz:∀j,j<nn→∀z∈zs j,z<j)(hzl:(zs i).length≤20001)(hd:∀j,j<i→yw kd zs ws j)
 (hS:SH [] H H1 [(rb,145,[vi (kd i),.slice a (zs i).length c,.string t,.slice xa xn xc,vi at']),(rr,4,bools bs),(rs,3,aP ws),(rg,69,[.slice ra rn rc,.slice na nn nc])])
 {x0 x1 x4 x5 bQ qi x24 x25 x31 CX AB wC:Value}{eP:List (Nat×Value)}{K:Out→Prop}
 (kk:∀aW bg bQ CX AB wC ws' bs' pO H',ws'.length=nn→bs'.length=nn→(∀j,j<i +1→yw kd zs ws' j)→SH [] H H' [(rb,145,[vi (kd i),.slice a (zs i).length c,.string t,.slice xa xn xc,vi at']),(rr,4,bools bs'),(rs,3,aP ws'),(rg,69,[.slice ra rn rc,.slice na nn nc])]→
  K (.norm (iW x0 x1 (pr rg) x4 x5 (.slice (some ⟨rs,0,none⟩) nn nn) (.slice (some ⟨rr,0,none⟩) nn nn) (vn i) (pr rb) aW bg bQ qi x24 x25 x31 CX AB wC pO H'))):
 aT Pg X (sub fq [1,1,1,0,1,0,0,1,1,0,0,1,1,1]) (iW x0 x1 (pr rg) x4 x5 (.slice (some ⟨rs,0,none⟩) nn nn) (.slice (some ⟨rr,0,none⟩) nn nn) (vn i) (pr rb) (vn (w_ (kd i))) (.bool ok) bQ qi x24 x25 x31 CX AB wC eP H1) K:=by
 have hz:=hzz i hi
 have aeL:w_ (kd i)≤3:=by unfold w_;split<;>(try split)<;>(try split)<;>omega
 refine tl ?_
 repeat(first|(refine hS.az ?_)|(refine hS.a_ ?_))
 refine Ht 10 11 13 51 (I:=fun m aW bg bQ wC H'=>∃(k:Nat)(o:Bool),wC=vn k∧k +m=(zs i).length∧aW=vn (min (w_ (kd i) +ig ws (kd i) ((zs i).take k)) 4001)∧bg=.bool o∧SH [] H H' [(rb,145,[vi (kd i),.slice a (zs i).length c,.string t,.slice xa xn xc,vi at']),(rr,4,bools bs),(rs,3,aP ws),(rg,69,[.slice ra rn rc,.slice na nn nc])]) ?_ (zs i).length ⟨0,ok,rfl,aa,by rw[List.take_zero,show ig ws (kd i) []=0 from rfl,Nat.add_zero,Nat.min_eq_left aa];rfl,rfl,hS⟩
 clear hS
 rintro m aW bg bQ wC eP H2 ⟨k,o,rfl,hkm,rfl,rfl,hS⟩
 refine tl ?_
 refine au ?_
 refine ah (fun hc=>?_) (fun hc=>?_)
 rotate_left
 ·obtain rfl:k=(zs i).length:=by omega
  rw[List.take_length]
  refine tl ?_
  refine au ?_
  rw[show min ((min (w_ (kd i) +ig ws (kd i) (zs i)) 4001:Nat):Int) 4001=((min (w_ (kd i) +ig ws (kd i) (zs i)) 4001:Nat):Int) by omega]
  refine hS.Tt hi (by simpa using(by omega:i<ws.length)) (kk:=fun p H3 hS=>?_)
  refine hS.Tt hi (by simpa using(by omega:i<bs.length)) (kk:=fun p H4 hS=>?_)
  have e1:(aP ws).set i (vn (min (w_ (kd i) +ig ws (kd i) (zs i)) 4001))=aP (ws.set i (min (w_ (kd i) +ig ws (kd i) (zs i)) 4001)):=List.map_set.symm
  have e2:(bools bs).set i (.bool o)=bools (bs.set i o):=List.map_set.symm
  rw[e1,e2]at hS
  refine kk _ _ _ _ _ _ _ _ _ _ (by rw[List.length_set];exact hwl) (by rw[List.length_set];exact hbl) (fun j hj=>?_) hS
  unfold yw
  rcases Nat.lt_or_ge j i with h|h
  ·rw[Zt aa,J2 (fun z hz'=>Nat.lt_trans (hzz j aa z hz') h)]
   exact hd j h
  ·obtain rfl:j=i:=by omega
   rw[aaO aa,J2 hz]
 have hk:k<(zs i).length:=by omega
 have O4:(zs i)[k]?=some (zs i)[k]:=List.getElem?_eq_getElem hk
 have hzi:=hz _ (List.getElem_mem hk)
 refine(hf.ex hS.ext).ix hk (dZ _ O4) fun p=>?_
 have hzn:(zs i)[k]<nn:=by omega
 have hks:ig ws (kd i) ((zs i).take (k +1))=ig ws (kd i) ((zs i).take k) +(W ws (zs i)[k] +AR (kd i)):=by
  unfold ig
  rw[List.take_add_one,O4]
  show(List.map _ (_++[_])).sum=_
  rw[List.map_append,List.sum_append]
  rfl
 generalize(zs i)[k]=z at O4 hzi hzn hks⊢
 have hwz:W ws z≤4001:=ac4 (hd z hzi)
 have hwv:(aP ws)[z]?=some (vn (W ws z)):=by
  rw[List.getElem?_map,List.getElem?_eq_getElem (show z<ws.length by omega)]
  show _=some (vn (ws[z]?.getD 0))
  rw[List.getElem?_eq_getElem (show z<ws.length by omega)];rfl
 obtain⟨bz,hbz⟩:∃b,bs[z]?=some b:=⟨_,List.getElem?_eq_getElem aa⟩
 refine hS.ix hzn hwv fun p=>?_
 refine ay ?_
 refine hS.a_ ?_;refine hS.az ?_
 have fin:∀(T:Int),T=((min (w_ (kd i) +ig ws (kd i) ((zs i).take k)) 4001:Nat):Int) +(W ws z:Int) +(AR (kd i):Int)→∀eP,aT Pg X (sub fq [1,1,1,0,1,0,0,1,1,0,0,1,1,1,0,1,0,0,1,1,0,0,1,1,1]) (iW x0 x1 (pr rg) x4 x5 (.slice (some ⟨rs,0,none⟩) nn nn) (.slice (some ⟨rr,0,none⟩) nn nn) (vn i) (pr rb) (vi T) (.bool o) (vn z) qi x24 x25 x31 (.slice a (zs i).length c) (vn (zs i).length) (vn k) eP H2)
  (iA 4 (kN Pg X (sub fq [1,1,1,0,1,0,0,1,1,0,0,1,1,1,0,1,0,0,1,1,1]) (wZ (lU x0 x1 (pr rg) x4 x5 (.slice (some ⟨rs,0,none⟩) nn nn) (.slice (some ⟨rr,0,none⟩) nn nn) (vn i) (pr rb) qi x24 x25 x31 (.slice a (zs i).length c) (vn (zs i).length) fun m aW bg bQ wC H'=>∃(k:Nat)(o:Bool),wC=vn k∧k +m=(zs i).length∧aW=vn (min (w_ (kd i) +ig ws (kd i) ((zs i).take k)) 4001)∧bg=.bool o∧SH [] H H' [(rb,145,[vi (kd i),.slice a (zs i).length c,.string t,.slice xa xn xc,vi at']),(rr,4,bools bs),(rs,3,aP ws),(rg,69,[.slice ra rn rc,.slice na nn nc])]) m (iA 3 (kN Pg X (sub fq [1,1,1,0,1,0,0,1,1,0,0,1,1,1,1]) K))))):=by
  intro T hT eP
  refine tl ?_
  refine au ?_
  have eT:min T 4001=((min (w_ (kd i) +ig ws (kd i) ((zs i).take (k +1))) 4001:Nat):Int):=by rw[hT,hks];omega
  rw[eT]
  refine aA (fun hb=>?_) (fun hb=>?_)
  ·refine hS.ix (v:=.bool bz) hzn (dZ _ hbz) fun p=>?_
   refine tl ?_
   refine ay ?_
   exact⟨(zs i).length -(k +1),aa,_,_,_,_,_,_,rfl,k +1,bz,iC,aa,rfl,rfl,hS⟩
  ·refine tl ?_
   refine ay ?_
   exact⟨(zs i).length -(k +1),aa,_,_,_,_,_,_,rfl,k +1,false,iC,aa,rfl,rfl,hS⟩
 refine ah (fun hc2=>?_) (fun hc2=>?_)
 ·refine ay ?_
  exact fin _ (by unfold AR;rw[if_pos hc2];rfl) _
 ·exact fin _ (by unfold AR;rw[if_neg hc2];rfl) _
theorem Mo(hw:Wf H){b rl:Nat}{ra na:Option Addr}{rn rc nn nc:Nat}{rcs bY lcs:List Value}{tn lw lc:Nat}{kd:Nat→Int}{zs:Nat→List Nat}(hG:Gr b H ra rn rcs na nn bY)(hNd:Ov F H nn bY kd zs)(hl:Bk H rl 47 lcs)(hlr:rl<H.next)(hll:lcs.length=nn*3)(hlp:∀i,i<nn→kM tn lw (El lcs 3 i)):
 ak Pg X 77 [gV ra rn rc na nn nc,.slice (some ⟨rl,0,none⟩) nn lc] H (Q1 (fun v H'=>∃rs rr ws bs,v=.tuple ⟨[.slice (some ⟨rs,0,none⟩) nn nn,.slice (some ⟨rr,0,none⟩) nn nn]⟩∧(H.next≤rs∧rs<H'.next)∧(H.next≤rr∧rr<H'.next)∧Bk H' rs 3 (aP ws)∧Bk H' rr 4 (bools bs)∧ws.length=nn∧bs.length=nn∧∀j,j<nn→yw kd zs ws j) H):=by
 have g5:=hG.2.2.2.2.1
 have hzz:∀j,j<nn→∀z∈zs j,z<j:=fun j hj=>by obtain⟨_,_,_,_,_,_,_,_,_,_,h,_⟩:=hNd j hj;exact h
 have hS:=SH.refl hw
 refine ce [0,1,2,4,5,6,7,8,9,10,11,13,23,24,25,31,49,50,51] ?_;refine tl ?_
 refine hS.box rfl fun H1 rg hS=>?_
 repeat(first|(refine hS.az ?_)|(refine hS.a_ ?_))
 refine hS.mkS (Nat.le_refl _) aa fun H2 rs hS=>?_
 rw[gD]at hS
 refine hS.a_ ?_;refine hS.az ?_
 refine hS.mkS (Nat.le_refl _) aa fun H3 rr hS=>?_
 rw[gD]at hS
 refine hS.a_ ?_;refine hS.az ?_
 have hz:List.replicate nn (Value.int .i64 0)=aP (List.replicate nn 0):=by simp
 have hb:List.replicate nn (Value.bool false)=bools (List.replicate nn false):=by simp
 rw[hz,hb]at hS
 have hS:SH [] H H3 [(rr,4,bools (List.replicate nn false)),(rs,3,aP (List.replicate nn 0)),(rg,69,[.slice ra rn rc,.slice na nn nc])]:=hS
 refine acC 8 9 10 11 13 25 31 49 50 51 (I:=fun m x8 x9 aW bg bQ x25 x31 CX AB wC H'=>∃i ws bs,x25=vn i∧i +m=nn∧ws.length=nn∧bs.length=nn∧(∀j,j<i→yw kd zs ws j)∧SH [] H H' [(rr,4,bools bs),(rs,3,aP ws),(rg,69,[.slice ra rn rc,.slice na nn nc])]) ?_ nn ⟨0,_,_,rfl,aa,by simp,by simp,fun j h=>absurd h aa,hS⟩
 clear hS hz hb
 rintro m x8 x9 aW bg bQ x25 x31 CX AB wC eP H4 ⟨i,ws,bs,rfl,him,hwl,hbl,hd,hS⟩
 refine tl ?_
 refine au ?_
 refine ah (fun hc=>?_) (fun hc=>?_)
 rotate_left
 ·refine tl ?_
  obtain rfl:i=nn:=by omega
  refine Lu.rr ?_;exact⟨⟨rs,rr,ws,bs,rfl,⟨hS.wm (List.mem_of_getElem? (i:=1) rfl),(hS.lo _ (List.mem_of_getElem? (i:=1) rfl)).2⟩,⟨hS.wm (List.mem_cons_self ..),(hS.lo _ (List.mem_cons_self ..)).2⟩,hS.get 1 rfl,hS.get 0 rfl,hwl,hbl,hd⟩,hS.ext⟩
 have hi:i<nn:=by omega
 obtain⟨a,c,t,xa,xn,xc,at',he,hf,hfit,_,htz,hzl⟩:=hNd i hi
 obtain⟨r2,o2,e2,hr2,hrd,_⟩:=hG.no hi nc he
 rw[e2]
 refine au ?_
 refine hS.mM hrd hr2 ?_
 refine hS.jI rfl rfl rfl fun H5 rb hS hx5=>?_
 have hS:SH [] H H5 [(rb,145,[vi (kd i),.slice a (zs i).length c,.string t,.slice xa xn xc,vi at']),(rr,4,bools bs),(rs,3,aP ws),(rg,69,[.slice ra rn rc,.slice na nn nc])]:=hS
 repeat(first|(refine hS.az ?_)|(refine hS.a_ ?_))
 have fin:∀(ok:Bool){aW:Value},aW=vn (w_ (kd i))→∀{eP},aT Pg X (sub fq [1,1,1,0,1,0,0,1,1,0,0,1,1,1]) (iW (gV ra rn rc na nn nc) (.slice (some ⟨rl,0,none⟩) nn lc) (pr rg) (.slice none 0 0) (.slice none 0 0) (.slice (some ⟨rs,0,none⟩) nn nn) (.slice (some ⟨rr,0,none⟩) nn nn) (vn i) (pr rb) aW (.bool ok) bQ (.slice na nn nc) (vn nn) (vn i) (vi (kd i)) CX AB wC eP H5)
  (iA 1 (kN Pg X (sub fq [1,1,1,0,1,0,0,1,1,1]) (wZ (mX (gV ra rn rc na nn nc) (.slice (some ⟨rl,0,none⟩) nn lc) (pr rg) (.slice none 0 0) (.slice none 0 0) (.slice (some ⟨rs,0,none⟩) nn nn) (.slice (some ⟨rr,0,none⟩) nn nn) (.slice na nn nc) (vn nn) (fun m x8 x9 aW bg bQ x25 x31 CX AB wC H'=>∃i ws bs,x25=vn i∧i +m=nn∧ws.length=nn∧bs.length=nn∧(∀j,j<i→yw kd zs ws j)∧SH [] H H' [(rr,4,bools bs),(rs,3,aP ws),(rg,69,[.slice ra rn rc,.slice na nn nc])])) m (iA 0 (kN Pg X (sub fq [1,1,1,1]) (cK Pg [.tmp 4,.tmp 5] (Q1 (fun v H'=>∃rs rr ws bs,v=.tuple ⟨[.slice (some ⟨rs,0,none⟩) nn nn,.slice (some ⟨rr,0,none⟩) nn nn]⟩∧(H.next≤rs∧rs<H'.next)∧(H.next≤rr∧rr<H'.next)∧Bk H' rs 3 (aP ws)∧Bk H' rr 4 (bools bs)∧ws.length=nn∧bs.length=nn∧∀j,j<nn→yw kd zs ws j) H))))))):=by
  intro ok aW e10 eP
  subst e10
  refine aee g5 hi hwl hbl hf hzz hzl hd hS fun aW bg bQ CX AB wC ws' bs' pO H' h1 h2 h3 h4=>?_
  refine au ?_
  refine tl ?_
  refine ay ?_
  exact⟨nn -(i +1),aa,_,_,_,_,_,_,_,_,_,_,_,_,rfl,i +1,ws',bs',iC,aa,h1,h2,h3,SH.drop (A:=[_]) h4⟩
 have leaf:∀(b:Bool){bg:Value}{ok:Bool}{eP},bg=.bool ok→(b=true→w_ (kd i)=1)→(b=false→w_ (kd i)=0)→Az eP 38=.bool b→aT Pg X (sub fq [1,1,1,0,1,0,0,1,1,0,0,1,1,0,1,0,1,1,1,1,1]) (iW (gV ra rn rc na nn nc) (.slice (some ⟨rl,0,none⟩) nn lc) (pr rg) (.slice none 0 0) (.slice none 0 0) (.slice (some ⟨rs,0,none⟩) nn nn) (.slice (some ⟨rr,0,none⟩) nn nn) (vn i) (pr rb) (vn 0) bg bQ (.slice na nn nc) (vn nn) (vn i) (vi (kd i)) CX AB wC eP H5)
  (iA 2 (kN Pg X (sub fq [1,1,1,0,1,0,0,1,1,0,0,1,1,1]) (iA 1 (kN Pg X (sub fq [1,1,1,0,1,0,0,1,1,1]) (wZ (mX (gV ra rn rc na nn nc) (.slice (some ⟨rl,0,none⟩) nn lc) (pr rg) (.slice none 0 0) (.slice none 0 0) (.slice (some ⟨rs,0,none⟩) nn nn) (.slice (some ⟨rr,0,none⟩) nn nn) (.slice na nn nc) (vn nn) (fun m x8 x9 aW bg bQ x25 x31 CX AB wC H'=>∃i ws bs,x25=vn i∧i +m=nn∧ws.length=nn∧bs.length=nn∧(∀j,j<i→yw kd zs ws j)∧SH [] H H' [(rr,4,bools bs),(rs,3,aP ws),(rg,69,[.slice ra rn rc,.slice na nn nc])])) m (iA 0 (kN Pg X (sub fq [1,1,1,1]) (cK Pg [.tmp 4,.tmp 5] (Q1 (fun v H'=>∃rs rr ws bs,v=.tuple ⟨[.slice (some ⟨rs,0,none⟩) nn nn,.slice (some ⟨rr,0,none⟩) nn nn]⟩∧(H.next≤rs∧rs<H'.next)∧(H.next≤rr∧rr<H'.next)∧Bk H' rs 3 (aP ws)∧Bk H' rr 4 (bools bs)∧ws.length=nn∧bs.length=nn∧∀j,j<nn→yw kd zs ws j) H))))))))):=by
  intro b bg ok eP e11 hb1 hb0 hlk
  subst e11
  refine tl ?_
  rw[hlk]
  refine aA (fun hb=>?_) (fun hb=>?_)
  ·obtain⟨k1,a1,hle,_⟩:=hlp i hi
   refine PU.of (oF hi) ?_
   refine au ?_
   have hcell:H.cell rl (i*3)=some (vn k1):=by
    refine hl.cell ?_
    have:=congrArg (fun l=>l[0]?) hle
    simp only[jv]at this
    simpa using this
   refine hS.zf hcell hlr ?_
   refine hS.az ?_;refine pK ?_
   exact fin _ (by rw[hb1 hb];rfl)
  ·refine au ?_
   exact fin ok (by rw[hb0 hb])
 refine ah (fun h0=>?_) (fun h0=>?_)
 ·exact fin true (by unfold w_;rw[if_pos h0];rfl)
 have b3:kd i=2∨kd i=3∨kd i=4→w_ (kd i)=3:=fun h=>by unfold w_;rw[if_neg aa,if_neg aa,if_pos h]
 have b1:kd i=5∨kd i=6∨kd i=7→w_ (kd i)=1:=fun h=>by unfold w_;rw[if_neg aa,if_neg aa,if_neg aa]
 refine ah (fun h2=>?_) (fun h2=>?_)
 ·refine tl ?_
  refine au ?_
  refine ah (fun _=>?_) (fun h=>absurd h2 h)
  exact fin true (by rw[b3 aa]<;>rfl)
 refine ah (fun h3=>?_) (fun h3=>?_)
 ·refine tl ?_
  refine au ?_
  refine ah (fun _=>?_) (fun h=>absurd h3 h)
  exact fin true (by rw[b3 aa]<;>rfl)
 refine tl ?_
 refine au ?_
 refine ah (fun h4=>?_) (fun h4=>?_)
 ·exact fin true (by rw[b3 aa]<;>rfl)
 refine ah (fun h5=>?_) (fun h5=>?_)
 ·exact leaf (decide (kd i=5)) rfl (fun _=>b1 aa) (fun h=>absurd h5 (of_decide_eq_false h)) rfl
 refine ah (fun h6=>?_) (fun h6=>?_)
 ·exact leaf (decide (kd i=6)) rfl (fun _=>b1 aa) (fun h=>absurd h6 (of_decide_eq_false h)) rfl
 exact leaf (decide (kd i=7)) rfl (fun h=>b1 (by have:=of_decide_eq_true h;omega)) (fun h=>by
  have h7:=of_decide_eq_false h
  have:kd i=1:=by rcases hfit with h|h|h|h<;>omega
  unfold w_
  rw[if_neg h0,if_pos this]) rfl
end
end Go.Proofs.Lu
namespace Go.Proofs.Lv
open Go.Proofs.Lu
open Go.Ae Go.Ae.M
section
variable{H0 H:ae}{L M:List aC}{S:List Nat}{F:Nat→Prop}
def rC:List Ed→List Value
 |[]=>[]
 |e::l=>vn e.1::vn e.2.1::vn e.2.2::rC l
theorem Bp:∀l,(rC l).length=l.length*3
 |[]=>rfl
 |e::l=>by
  have:=Bp l
  simp only[rC,List.length_cons];omega
theorem GY:∀l l',rC (l++l')=rC l++rC l'
 |[],l'=>rfl
 |e::l,l'=>by simp only[List.cons_append,rC,GY l l']
theorem U3:∀{l:List Ed}{i:Nat}{e:Ed},l[i]?=some e→El (rC l) 3 i=[vn e.1,vn e.2.1,vn e.2.2]
 |[],i,e,h=>by simp at h
 |x::l,0,e,h=>by
  simp at h;subst h
  simp[El,rC]
 |x::l,i +1,e,h=>by
  have:=U3 (l:=l) (i:=i) (by simpa using h)
  rw[←this]
  unfold El
  rw[show(i +1)*3=i*3 +3 by omega]
  rfl
structure AV where
 na:Option Addr
 sa:Option Addr
 pa:Option Addr
 oa:Option Addr
 ea:Option Addr
 nc:Nat
 sc:Nat
 pc:Nat
 oc:Nat
 ec:Nat
def AV.cells(q:AV)(A:At):List Value:=[.slice q.na A.nr q.nc,.slice q.sa A.nr q.sc,.slice q.pa A.nr q.pc,.slice q.oa A.ns q.oc,.slice q.ea A.ns q.ec,vn A.ty]
abbrev AV.v(q:AV)(A:At):Value:=.agg ⟨q.cells A⟩
def EdM(F:Nat→Prop)(H:ae)(A:At)(evs:List Value):Prop:=∀i,i<A.ns→∃a c,evs[i]?=some (.slice a (A.E i).length c)∧eO F 47 H a (A.E i).length 3 (rC (A.E i))
structure mJ(F:Nat→Prop)(H:ae)(A:At)(q:AV):Prop where
 n:eO F 9 H q.na A.nr 1 (A.nm.map .string)
 s:eO F 3 H q.sa A.nr 1 (aP A.st)
 p:eO F 3 H q.pa A.nr 1 (aP A.sp)
 o:eO F 3 H q.oa A.ns 1 (aP A.ow)
 e:∃evs,eO F 45 H q.ea A.ns 1 evs∧EdM F H A evs
variable{A:At}{q:AV}
theorem mJ.ex{H':ae}(h:mJ F H A q)(hx:Ext H H'):mJ F H' A q:=
 ⟨h.n.ex hx,h.s.ex hx,h.p.ex hx,h.o.ex hx,let⟨evs,h1,h2⟩:=h.e;⟨evs,h1.ex hx,fun i hi=>let⟨a,c,h3,h4⟩:=h2 i hi;⟨a,c,h3,h4.ex hx⟩⟩⟩
theorem mJ.wk{F':Nat→Prop}(h:mJ F H A q)(hF:∀r,F r→F' r):mJ F' H A q:=
 ⟨h.n.wk hF,h.s.wk hF,h.p.wk hF,h.o.wk hF,let⟨evs,h1,h2⟩:=h.e;⟨evs,h1.wk hF,fun i hi=>let⟨a,c,h3,h4⟩:=h2 i hi;⟨a,c,h3,h4.wk hF⟩⟩⟩
theorem mJ.stay{H':ae}(h:mJ F H A q)(hx:kP S H H')(hS:∀r∈S,¬F r):mJ F H' A q:=
 ⟨h.n.stay hx fun r hr=>.inl (hS r hr),h.s.stay hx fun r hr=>.inl (hS r hr),h.p.stay hx fun r hr=>.inl (hS r hr),h.o.stay hx fun r hr=>.inl (hS r hr),let⟨evs,h1,h2⟩:=h.e;⟨evs,h1.stay hx fun r hr=>.inl (hS r hr),fun i hi=>let⟨a,c,h3,h4⟩:=h2 i hi;⟨a,c,h3,h4.stay hx fun r hr=>.inl (hS r hr)⟩⟩⟩
theorem zz{l:List Nat}{k:Nat}(h:k<l.length):(aP l)[k]?=some (vn (l[k]?.getD 0)):=by
 rw[List.getElem?_map,List.getElem?_eq_getElem h];rfl
theorem fZ(q:AV)(A:At):ax (q.v A)=q.cells A:=rfl
section steps
variable{k:Nat}{K:Value→Value→ae→Prop}
theorem mJ.ldS(h:mJ F H A q)(ho:A.Ok)(hk:k<A.nr)(kk:∀p,K p (vn (A.S k)) H):PU (sS 1 (.slice q.sa A.nr q.sc) (vn k)) fun p=>ME (lM none p H) (K p):=h.s.ix hk (zz (by rw[ho.Oj];exact hk)) kk
theorem mJ.ldP(h:mJ F H A q)(ho:A.Ok)(hk:k<A.nr)(kk:∀p,K p (vn (A.P k)) H):PU (sS 1 (.slice q.pa A.nr q.pc) (vn k)) fun p=>ME (lM none p H) (K p):=h.p.ix hk (zz (by rw[ho.QW];exact hk)) kk
theorem mJ.wo(h:mJ F H A q)(hk:k<A.ns)(kk:∀p,K p (vn (A.O k)) H):PU (sS 1 (.slice q.oa A.ns q.oc) (vn k)) fun p=>ME (lM none p H) (K p):=h.o.ix hk (zz hk) kk
theorem mJ.XH{H':ae}(h:mJ F H A q)(hx:Ext H H')(hk:k<A.ns)(kk:∀p a c,eO F 47 H a (A.E k).length 3 (rC (A.E k))→K p (.slice a (A.E k).length c) H'):PU (sS 1 (.slice q.ea A.ns q.ec) (vn k)) fun p=>ME (lM none p H') (K p):=by
 obtain⟨evs,h1,h2⟩:=h.e
 obtain⟨a,c,h3,h4⟩:=h2 k hk
 exact(h1.ex hx).ix hk h3 fun p=>kk p a c h4
theorem J3{l:List Ed}{a:Option Addr}{c:Nat}(h:eO F 47 H a l.length 3 (rC l))(hk:k<l.length)(kk:∀p,K p (.agg ⟨[vn l[k].1,vn l[k].2.1,vn l[k].2.2]⟩) H):PU (sS 3 (.slice a l.length c) (vn k)) fun p=>ME (lM (some 3) p H) (K p):=
 h.ixN aa hk (U3 (List.getElem?_eq_getElem hk)) kk
end steps
def Qe(p:Value→ae→Prop)(H:ae)(v:Value)(H':ae):Prop:=p v H'∧Ext H H'
theorem lW(hw:Wf H)(q:AV)(A:At):ak Pg X 17 [q.v A] H (Qe (fun v _=>v=vn A.ns) H):=by
 have hS:=SH.refl hw
 refine ce [0,1,2] ?_;refine tl ?_
 refine hS.box rfl fun H1 rg hS=>?_
 rw[fZ]at hS
 unfold AV.cells at hS
 repeat(first|(refine hS.az ?_)|(refine hS.a_ ?_))
 refine rr ?_;exact⟨rfl,hS.ext⟩
end
section
variable{H0 H:ae}{L M:List aC}{S:List Nat}{F:Nat→Prop}{A:At}{q:AV}
abbrev pt(r:Nat):Value:=.pointer (some ⟨r,0,none⟩)
theorem GZ(hw:Wf H)(h:mJ F H A q){rn rg s r:Nat}(h1:H.cell rn 0=some (vn A.ns))(h1':rn<H.next)(h2:H.cell rg 3=some (.slice q.oa A.ns q.oc))(h2':rg<H.next)(hs:s<A.ns)(hr:A.O s=r):
 ak Pg X 42 [vn s,vn r,pt rn,pt rg] H (Qe (fun v _=>v=.bool true) H):=by
 have hS:=SH.refl hw
 refine ce [0,1,2,3,6] ?_;refine tl ?_
 refine au ?_
 refine ah (fun hc=>?_) (fun hc=>absurd aa hc)
 refine hS.wo h1 h1' ?_
 refine au ?_
 refine ah (fun hc=>?_) (fun hc=>absurd aa hc)
 refine hS.wo h2 h2' ?_
 refine h.wo hs fun p=>?_
 rw[hr]
 refine au ?_
 refine rr ?_;exact⟨by simp,Ext.refl _⟩
theorem jA(hw:Wf H)(h:mJ F H A q)(ho:A.Ok):ak Pg X 15 [q.v A] H (Qe (fun v _=>v=.bool true) H):=by
 have hS:=SH.refl hw
 refine ce [0,1,2,3,4,5,6,7,8,10,45,46,71,72,73,89,90,91,102] ?_;refine tl ?_
 refine hS.box rfl fun H1 rg hS=>?_
 rw[fZ]at hS
 unfold AV.cells at hS
 repeat(first|(refine hS.az ?_)|(refine hS.iG ?_))
 refine hS.nD fun H2 rn hS f1=>?_
 refine hS.qf fun Hn hS=>?_
 have n1:rn≠rg:=hS.nq 0 1 rfl rfl aa
 refine splitK (fun K hK=>?_) ?_
 ·simp only[f1,aN,aQ]
  apply oG (a:=rn) (b:=rg) n1 (by intros;rfl) (by kernel_rfl) (by kernel_rfl) hK
 have hpos:=ho.pos
 have hbig:=ho.big
 have G4:=ho.few
 refine ah (fun hc=>absurd hc aa) (fun hc=>?_)
 refine hS.a_ ?_;refine hS.az ?_
 refine aO (fun hc=>absurd trivial hc) (fun _=>?_)
 refine hS.a_ ?_;refine hS.az ?_
 refine aO (fun hc=>absurd trivial hc) (fun _=>?_)
 repeat(first|(refine hS.az ?_)|(refine hS.a_ ?_))
 refine aO (fun hc=>absurd trivial hc) (fun _=>?_)
 refine hS.a_ ?_;refine hS.az ?_
 refine ah (fun hc=>absurd hc aa) (fun _=>?_)
 have hS:SH [] H _ [(rn,3,[vn A.ns]),(rg,26,[.slice q.na A.nr q.nc,.slice q.sa A.nr q.sc,.slice q.pa A.nr q.pc,.slice q.oa A.ns q.oc,.slice q.ea A.ns q.ec,vn A.ty])]:=hS
 have key:∀{H':ae}{L':List aC},SH [] H H' L'→(rn,3,[vn A.ns])∈L'→(rg,26,q.cells A)∈L'→∀{s r:Nat},s<A.ns→A.O s=r→∀{K:Value→ae→Prop},(∀H2,SH [] H H2 L'→K (.bool true) H2)→eG Pg X (Dy (.func (.func 42) ⟨[]⟩ ⟨[pt rn,pt rg]⟩)) [vn s,vn r] H' K:=by
  intro H' L' hS m1 m2 s r hs hr K kk
  show ak Pg X 42 [vn s,vn r,pt rn,pt rg] H' K
  refine ak.mono (GZ hS.wf (h.ex hS.ext) ((hS.bk _ m1).cell rfl) (hS.lo _ m1).2 ((hS.bk _ m2).cell (o:=3) rfl) (hS.lo _ m2).2 hs hr) ?_
  rintro v H2 ⟨rfl,hx⟩
  exact kk H2 (hS.call hx)
 have m1:((rn,3,[vn A.ns]):aC)∈([(rn,3,[vn A.ns]),(rg,26,q.cells A)]:List aC):=by simp
 have m2:((rg,26,q.cells A):aC)∈([(rn,3,[vn A.ns]),(rg,26,q.cells A)]:List aC):=by simp
 refine tl ?_
 refine Oc 2 6 46 (I:=fun m x2 x6 x46 H'=>∃i:Nat,x46=vn i∧i +m=A.nr∧SH [] H H' [(rn,3,[vn A.ns]),(rg,26,[.slice q.na A.nr q.nc,.slice q.sa A.nr q.sc,.slice q.pa A.nr q.pc,.slice q.oa A.ns q.oc,.slice q.ea A.ns q.ec,vn A.ty])]) ?_ A.nr ⟨0,rfl,aa,hS⟩
 clear hS
 rintro m x2 x6 x46 eP H3 ⟨i,rfl,him,hS⟩
 refine tl ?_
 refine au ?_
 refine ah (fun hc=>?_) (fun hc=>?_)
 ·have hi:i<A.nr:=by omega
  refine hS.a_ ?_
  refine(h.ex hS.ext).ldS ho hi fun p=>?_
  refine key hS m1 m2 (ho.s i hi).1 (ho.s i hi).2 fun H4 hS=>?_
  refine au ?_
  refine aA (fun hb=>by cases hb) (fun _=>?_)
  refine hS.a_ ?_
  refine(h.ex hS.ext).ldP ho hi fun p=>?_
  refine key hS m1 m2 (ho.p i hi).1 (ho.p i hi).2 fun H5 hS=>?_
  refine au ?_
  refine aA (fun hb=>by cases hb) (fun _=>?_)
  refine ay ?_
  exact⟨A.nr -(i +1),aa,_,_,_,_,_,rfl,i +1,iC,aa,hS⟩
 refine tl ?_
 repeat(first|(refine hS.az ?_)|(refine hS.a_ ?_))
 refine lp9 2 7 8 10 73 89 90 91 102 (I:=fun m x2 x7 x8 aW x73 x89 x90 x91 x102 H'=>∃i:Nat,x73=vn i∧i +m=A.ns∧SH [] H H' [(rn,3,[vn A.ns]),(rg,26,[.slice q.na A.nr q.nc,.slice q.sa A.nr q.sc,.slice q.pa A.nr q.pc,.slice q.oa A.ns q.oc,.slice q.ea A.ns q.ec,vn A.ty])]) ?_ A.ns ⟨0,rfl,aa,hS⟩
 clear hS hc him
 rintro m x2 x7 x8 aW x73 x89 x90 x91 x102 eP H4 ⟨s,rfl,him,hS⟩
 refine tl ?_
 refine au ?_
 refine ah (fun hc=>?_) (fun hc=>?_)
 rotate_left
 ·refine tl ?_
  refine rr ?_;exact⟨rfl,hS.ext⟩
 have hs:s<A.ns:=by omega
 refine(h.ex hS.ext).wo hs fun p=>?_
 refine au ?_
 have hO:=ho.o s hs
 refine ah (fun hc=>absurd hc aa) (fun _=>?_)
 refine ah (fun hc=>absurd hc aa) (fun _=>?_)
 refine tl ?_
 refine hS.az ?_;refine hS.a_ ?_
 refine h.XH hS.ext hs fun p ea ec hE=>?_
 refine au ?_
 have hx0:=hS.ext
 refine Ht 2 10 91 102 (I:=fun m x2 aW x91 x102 H'=>∃k:Nat,x91=vn k∧k +m=(A.E s).length∧SH [] H H' [(rn,3,[vn A.ns]),(rg,26,[.slice q.na A.nr q.nc,.slice q.sa A.nr q.sc,.slice q.pa A.nr q.pc,.slice q.oa A.ns q.oc,.slice q.ea A.ns q.ec,vn A.ty])]) ?_ (A.E s).length ⟨0,rfl,aa,hS⟩
 clear hS hc
 rintro m' x2 aW x91 x102 eP H5 ⟨k,rfl,hkm,hS⟩
 refine tl ?_
 refine au ?_
 refine ah (fun hc=>?_) (fun hc=>?_)
 rotate_left
 ·refine tl ?_
  refine ay ?_
  exact⟨A.ns -(s +1),aa,_,_,_,_,_,_,_,_,_,_,_,rfl,s +1,iC,aa,hS⟩
 have hk:k<(A.E s).length:=by omega
 refine J3 (hE.ex hS.ext) hk fun p=>?_
 have hmem:=List.getElem_mem hk
 obtain⟨g1,g2,g3⟩:=ho.e s hs _ hmem
 generalize hee:(A.E s)[k]=e at g1 g2 g3⊢
 refine hS.ns rfl rfl rfl fun H6 re hS hx6=>?_
 have hS:SH [] H H6 [(re,47,[vn e.1,vn e.2.1,vn e.2.2]),(rn,3,[vn A.ns]),(rg,26,[.slice q.na A.nr q.nc,.slice q.sa A.nr q.sc,.slice q.pa A.nr q.pc,.slice q.oa A.ns q.oc,.slice q.ea A.ns q.ec,vn A.ty])]:=hS
 refine hS.az ?_;refine hS.a_ ?_
 have hx5:=hS.ext
 have hS0:=hS
 refine key hS (List.mem_cons_of_mem _ m1) (List.mem_cons_of_mem _ m2) g1 g2 fun H7 hS=>?_
 refine au ?_
 refine aA (fun hb=>by cases hb) (fun _=>?_)
 have hS:SH [] H H7 ((re,47,[vn e.1,vn e.2.1,vn e.2.2])::[(rn,3,[vn A.ns]),(rg,26,[.slice q.na A.nr q.nc,.slice q.sa A.nr q.sc,.slice q.pa A.nr q.pc,.slice q.oa A.ns q.oc,.slice q.ea A.ns q.ec,vn A.ty])]):=hS
 refine hS.a_ ?_;refine hS.az ?_
 have hkb:k<1000000000:=by
  have:=ho.len s
  omega
 rcases g3 with g3|⟨g3,g4⟩|⟨g3,g4⟩
 ·refine ah (fun _=>?_) (fun hc=>absurd aa hc)
  refine ay ?_
  exact⟨(A.E s).length -(k +1),aa,_,_,_,_,_,_,rfl,k +1,iC,aa,SH.drop (A:=[_]) hS⟩
 ·refine ah (fun hc=>absurd hc aa) (fun _=>?_)
  refine ah (fun _=>?_) (fun hc=>absurd aa hc)
  refine hS.a_ ?_;refine hS.az ?_
  refine ah (fun hc=>absurd hc aa) (fun _=>?_)
  refine hS.a_ ?_;refine hS.a_ ?_;refine hS.az ?_
  refine ah (fun hc=>absurd hc aa) (fun _=>?_)
  refine ay ?_
  exact⟨(A.E s).length -(k +1),aa,_,_,_,_,_,_,rfl,k +1,iC,aa,SH.drop (A:=[_]) hS⟩
 ·refine ah (fun hc=>absurd hc aa) (fun _=>?_)
  refine ah (fun hc=>absurd hc aa) (fun _=>?_)
  refine ah (fun _=>?_) (fun hc=>absurd aa hc)
  refine hS.a_ ?_;refine hS.az ?_
  refine ah (fun hc=>absurd hc aa) (fun _=>?_)
  refine hS.a_ ?_;refine hS.az ?_
  refine ah (fun hc=>absurd hc aa) (fun _=>?_)
  refine ay ?_
  exact⟨(A.E s).length -(k +1),aa,_,_,_,_,_,_,rfl,k +1,iC,aa,SH.drop (A:=[_]) hS⟩
end
section
variable{H0 H:ae}{L M:List aC}{S:List Nat}{F:Nat→Prop}{A:At}{q:AV}
theorem _root_.Go.Ae.GB.sl{ty:TypeId}{es:Nat}{v:Value}{cs:List Value}{gb:List aC}(h:GB ty es v cs gb):∃a n c,v=.slice a n c:=by
 rcases h with⟨rfl,_⟩|⟨r,n,aF,rfl,_⟩<;>exact⟨_,_,_,rfl⟩
def Ms(m x dm n:Nat)(mk:List Bool)(nx:List Nat)(M:List aC):Prop:=∃nv gb,M=(m,36,[.slice (some ⟨dm,0,none⟩) n n])::(x,23,[nv])::(dm,4,bools mk)::gb∧GB 3 1 nv (aP nx) gb∧mk.length=n
def Mkd(s:Nat)(mk:List Bool)(nx:List Nat)(mk':List Bool)(nx':List Nat):Prop:=(mk[s]?=some true∧mk'=mk∧nx'=nx)∨(mk[s]?=some false∧mk'=mk.set s true∧nx'=nx++[s])
theorem zl{m x dm n s:Nat}{mk:List Bool}{nx:List Nat}(hM:Ms m x dm n mk nx M)(hS:SH S H0 H (M++L))(hs:s<n)(hb:nx.length≤1000000):
 ak Pg X 89 [vn s,pt m,pt x] H fun v H'=>∃mk' nx' M',Ms m x dm n mk' nx' M'∧SH S H0 H' (M'++L)∧Mkd s mk nx mk' nx':=by
 obtain⟨nv,gb,rfl,hg,hl⟩:=hM
 have hS:SH S H0 H ((m,36,[.slice (some ⟨dm,0,none⟩) n n])::(x,23,[nv])::(dm,4,bools mk)::(gb++L)):=hS
 refine ce [0,1,2] ?_;refine tl ?_
 refine hS.a_ ?_
 obtain⟨b,hb1⟩:∃b,mk[s]?=some b:=⟨_,List.getElem?_eq_getElem aa⟩
 refine hS.ix (v:=.bool b) hs (dZ _ hb1) fun p=>?_
 refine au ?_
 refine aA (fun hb2=>?_) (fun hb2=>?_)
 ·obtain rfl:b=false:=by cases b<;>simp_all
  refine hS.a_ ?_
  refine hS.Tt hs (by simp;omega) (kk:=fun p H1 hS=>?_)
  refine hS.a_ ?_
  refine hg.push (hS.perm (bB [_,_,_] gb L)) aa rfl rfl rfl rfl rfl aa (by simpa using(by omega:nx.length≤16777216)) fun w v' H2 bJ hg' hS=>?_
  have hS:=hS.perm (bB bJ [(m,36,[.slice (some ⟨dm,0,none⟩) n n]),(x,23,[nv]),(dm,4,(bools mk).set s (.bool true))] L)
  simp only[List.cons_append,List.nil_append]at hS
  obtain⟨va,vl,vc,rfl⟩:=hg'.sl
  refine hS.iB fun Hn hS=>?_
  refine rn ?_;refine⟨mk.set s true,nx++[s],_,⟨.slice va vl vc,bJ,rfl,?_,by rw[List.length_set];exact hl⟩,?_,.inr ⟨hb1,rfl,rfl⟩⟩
  ·have:aP (nx++[s])=aP nx++[vn s]:=by simp
   rw[this];exact hg'
  ·have:bools (mk.set s true)=(bools mk).set s (.bool true):=List.map_set
   rw[this];exact hS
 ·obtain rfl:b=true:=by cases b<;>simp_all
  refine rn ?_;exact⟨mk,nx,_,⟨nv,gb,rfl,hg,hl⟩,hS,.inl ⟨hb1,rfl,rfl⟩⟩
theorem Qq{m x dm n s:Nat}{mk:List Bool}{nx:List Nat}(hM:Ms m x dm n mk nx M)(hS:SH S H0 H (M++L))(hs:s<n)(hb:nx.length≤1000000):
 ak Pg X 90 [vn s,pt m,pt x] H fun v H'=>∃mk' nx' M',Ms m x dm n mk' nx' M'∧SH S H0 H' (M'++L)∧Mkd s mk nx mk' nx':=by
 obtain⟨nv,gb,rfl,hg,hl⟩:=hM
 have hS:SH S H0 H ((m,36,[.slice (some ⟨dm,0,none⟩) n n])::(x,23,[nv])::(dm,4,bools mk)::(gb++L)):=hS
 refine ce [0,1,2] ?_;refine tl ?_
 refine hS.a_ ?_
 obtain⟨b,hb1⟩:∃b,mk[s]?=some b:=⟨_,List.getElem?_eq_getElem aa⟩
 refine hS.ix (v:=.bool b) hs (dZ _ hb1) fun p=>?_
 refine au ?_
 refine aA (fun hb2=>?_) (fun hb2=>?_)
 ·obtain rfl:b=false:=by cases b<;>simp_all
  refine hS.a_ ?_
  refine hS.Tt hs (by simp;omega) (kk:=fun p H1 hS=>?_)
  refine hS.a_ ?_
  refine hg.push (hS.perm (bB [_,_,_] gb L)) aa rfl rfl rfl rfl rfl aa (by simpa using(by omega:nx.length≤16777216)) fun w v' H2 bJ hg' hS=>?_
  have hS:=hS.perm (bB bJ [(m,36,[.slice (some ⟨dm,0,none⟩) n n]),(x,23,[nv]),(dm,4,(bools mk).set s (.bool true))] L)
  simp only[List.cons_append,List.nil_append]at hS
  obtain⟨va,vl,vc,rfl⟩:=hg'.sl
  refine hS.iB fun Hn hS=>?_
  refine rn ?_;refine⟨mk.set s true,nx++[s],_,⟨.slice va vl vc,bJ,rfl,?_,by rw[List.length_set];exact hl⟩,?_,.inr ⟨hb1,rfl,rfl⟩⟩
  ·have:aP (nx++[s])=aP nx++[vn s]:=by simp
   rw[this];exact hg'
  ·have:bools (mk.set s true)=(bools mk).set s (.bool true):=List.map_set
   rw[this];exact hS
 ·obtain rfl:b=true:=by cases b<;>simp_all
  refine rn ?_;exact⟨mk,nx,_,⟨nv,gb,rfl,hg,hl⟩,hS,.inl ⟨hb1,rfl,rfl⟩⟩
end
section
variable{H0 H:ae}{L M:List aC}{S:List Nat}{F:Nat→Prop}{A:At}{q:AV}{n s:Nat}{Q P:Nat→Prop}{mk mk':List Bool}{nx nx':List Nat}
theorem Mkd.mj(h:Mkd s mk nx mk' nx')(hJ:MJ n Q P mk nx)(hq:Q s):MJ n Q P mk' nx'∧on mk' s∧(∀t,on mk t→on mk' t)∧mu mk' nx'≤mu mk nx:=by
 rcases h with⟨h1,rfl,rfl⟩|⟨h1,rfl,rfl⟩
 ·exact⟨hJ,h1,fun t h=>h,Nat.le_refl _⟩
 ·obtain⟨a,b,c,d⟩:=hJ.mark h1 hq
  exact⟨a,b,c,aa⟩
def Bs(b:Nat)(H:ae)(n:Nat)(v:Value)(mk:List Bool):Prop:=∃a c,v=.slice a n c∧mk.length=n∧eO (b≤·) 4 H a n 1 (bools mk)
theorem Bs.ex{b:Nat}{v:Value}{H':ae}(h:Bs b H n v mk)(hx:Ext H H'):Bs b H' n v mk:=let⟨a,c,h1,h2,h3⟩:=h;⟨a,c,h1,h2,h3.ex hx⟩
theorem Bs.le{b b':Nat}{v:Value}(h:Bs b H n v mk)(hb:b'≤b):Bs b' H n v mk:=let⟨a,c,h1,h2,h3⟩:=h;⟨a,c,h1,h2,h3.le hb⟩
def Wnt(A:At)(w:Ed→Prop)(H:ae)(wv:Value):Prop:=∀H' s e,Ext H H'→Wf H'→e∈A.E s→eG Pg X (Dy wv) [.agg ⟨[vn e.1,vn e.2.1,vn e.2.2]⟩] H' (Qe (fun v _=>∃b:Bool,v=.bool b∧(b=true↔w e)) H')
theorem Ox(hJ:mu mk nx≤8000):nx.length≤1000000:=by unfold mu at hJ;omega
theorem Fp(hw:Wf H)(h:mJ F H A q)(ho:A.Ok){fa:Option Addr}{fc:Nat}{fl:List Nat}(hf:eO F 3 H fa fl.length 1 (aP fl))(hfl:∀s∈fl,s<A.ns)(hfn:fl.length≤1000000){w:Ed→Prop}{wv:Value}(hwv:Wnt A w H wv):
 ak Pg X 40 [q.v A,.slice fa fl.length fc,wv] H (Qe (fun v H'=>∃mk,Bs H.next H' A.ns v mk∧∀s,on mk s↔A.Rc (·∈fl) w s) H):=by
 have hS:=SH.refl hw
 have hbig:=ho.big
 refine ce [0,1,2,3,6,7,8,9,11,12,14,19,20,21,47,48,49] ?_;refine tl ?_
 refine hS.box rfl fun H1 rg hS=>?_
 rw[fZ]at hS
 refine hS.mU 0 rfl (by show 0 +6≤6;omega) ?_
 refine ak.mono (lW hS.wf q A) ?_
 rintro v H2 ⟨rfl,hx⟩
 have hS:=hS.call hx
 refine hS.mkS (Nat.le_refl _) aa fun H3 dm hS=>?_
 rw[gD]at hS
 refine hS.bZ fun H4 mr hS=>?_
 refine hS.az ?_;refine hS.iB fun Hn hS=>?_
 refine hS.bZ fun H5 xr hS=>?_
 have hS:SH [] H H5 ([(xr,23,[.slice none 0 0]),(mr,36,[.slice (some ⟨dm,0,none⟩) A.ns A.ns]),(dm,4,List.replicate A.ns (.bool false)),(rg,26,q.cells A)]):=hS
 have hS:=hS.perm (L':=[(mr,36,[.slice (some ⟨dm,0,none⟩) A.ns A.ns]),(xr,23,[.slice none 0 0]),(dm,4,List.replicate A.ns (.bool false)),(rg,26,q.cells A)]) (List.Perm.swap _ _ _)
 have hM:Ms mr xr dm A.ns (List.replicate A.ns false) [] [(mr,36,[.slice (some ⟨dm,0,none⟩) A.ns A.ns]),(xr,23,[.slice none 0 0]),(dm,4,List.replicate A.ns (.bool false))]:=⟨.slice none 0 0,[],by simp,GB.nil _ _,by simp⟩
 have hmu:mu (List.replicate A.ns false) []≤8000:=by unfold mu;rw[Bl];show 2*A.ns +0≤8000;omega
 have call:∀{s:Nat}{mk:List Bool}{nx:List Nat}{M L:List aC}{H':ae}{P:Nat→Prop}{K:Value→ae→Prop},s<A.ns→Ms mr xr dm A.ns mk nx M→SH [] H H' (M++L)→MJ A.ns (A.Rc (·∈fl) w) P mk nx→mu mk nx≤8000→A.Rc (·∈fl) w s→
  (∀v H2 mk' nx' M',Ms mr xr dm A.ns mk' nx' M'→SH [] H H2 (M'++L)→MJ A.ns (A.Rc (·∈fl) w) P mk' nx'→on mk' s→(∀t,on mk t→on mk' t)→mu mk' nx'≤mu mk nx→K v H2)→
  eG Pg X (Dy (.func (.func 90) ⟨[]⟩ ⟨[pt mr,pt xr]⟩)) [vn s] H' K:=by
  intro s mk nx M L H' P K hs hM hS hJ hmu hq kk
  show ak Pg X 90 [vn s,pt mr,pt xr] H' K
  refine ak.mono (Qq hM hS hs (Ox hmu)) ?_
  rintro v H2 ⟨mk',nx',M',hM',hS',hk⟩
  obtain⟨a,b,c,d⟩:=hk.mj hJ hq
  exact kk v H2 mk' nx' M' hM' hS' a b c d
 refine lp2 11 21 (I:=fun m bg oQ H'=>∃i mk nx M,oQ=vn i∧i +m=fl.length∧Ms mr xr dm A.ns mk nx M∧SH [] H H' (M++[(rg,26,q.cells A)])∧MJ A.ns (A.Rc (·∈fl) w) (fun _=>False) mk nx∧mu mk nx≤8000∧∀j s,j<i→fl[j]?=some s→on mk s) ?_ fl.length ⟨0,_,_,_,rfl,aa,hM,hS,MJ.nil _ _,hmu,fun j s hj=>absurd hj aa⟩
 clear hS hM hmu hx
 rintro m bg oQ eP H6 ⟨i,mk,nx,M,rfl,him,hM,hS,hJ,hmu,hb⟩
 refine tl ?_
 refine au ?_
 refine ah (fun hc=>?_) (fun hc=>?_)
 ·have hi:i<fl.length:=by omega
  have hfi:fl[i]?=some fl[i]:=List.getElem?_eq_getElem hi
  refine(hf.ex hS.ext).ix hi (dZ _ hfi) fun p=>?_
  refine call (hfl _ (List.getElem_mem hi)) hM hS hJ hmu (.base _ (List.getElem_mem hi)) fun v H7 mk' nx' M' hM hS hJ hon hmo U4=>?_
  refine ay ?_
  refine⟨fl.length -(i +1),aa,_,_,_,_,rfl,i +1,mk',nx',M',iC,aa,hM,hS,hJ,aa,fun j s hj hs=>?_⟩
  rcases Nat.lt_or_ge j i with h1|h1
  ·exact hmo _ (hb j s h1 hs)
  ·obtain rfl:j=i:=by omega
   rw[hfi]at hs;cases hs;exact hon
 have hbase:∀s,s∈fl→on mk s:=fun s hs=>by
  obtain⟨j,hj,e⟩:=List.mem_iff_getElem.1 hs
  exact hb j s aa (by rw[←e];exact List.getElem?_eq_getElem hj)
 clear hb hc him
 refine tl ?_
 refine VP 12 14 47 48 49 (I:=fun m b_ fU x47 x48 CX H'=>∃mk nx M P,Ms mr xr dm A.ns mk nx M∧SH [] H H' (M++[(rg,26,q.cells A)])∧MJ A.ns (A.Rc (·∈fl) w) P mk nx∧mu mk nx≤8000∧mu mk nx=m∧(∀s,s∈fl→on mk s)∧∀s e,P s→e∈A.E s→w e→on mk e.2.2) ?_ (mu mk nx) ⟨mk,nx,M,_,hM,hS,hJ,hmu,rfl,hbase,fun s e h=>h.elim⟩
 clear hS hM hJ hmu hbase
 rintro m b_ fU x47 x48 CX eP H6 ⟨mk,nx,M,P,hM,hS,hJ,hmu,rfl,hbase,Mq⟩
 have hM0:=hM
 obtain⟨nv,gb,rfl,hg,hl⟩:=hM
 have hS:SH [] H H6 ((mr,36,[.slice (some ⟨dm,0,none⟩) A.ns A.ns])::(xr,23,[nv])::(dm,4,bools mk)::(gb++[(rg,26,q.cells A)])):=hS
 refine tl ?_
 refine hS.az ?_;refine hS.a_ ?_
 rcases hg with⟨rfl,hn,rfl⟩|⟨r,n,aF,rfl,hn,rfl⟩
 ·obtain rfl:nx=[]:=by simpa using hn
  refine au ?_
  refine ah (fun hc=>absurd hc aa) (fun _=>?_)
  refine tl ?_
  refine hS.a_ ?_
  refine rr ?_;refine⟨⟨mk,⟨_,_,rfl,hl,eO.one hS (List.mem_of_getElem? (i:=2) rfl) (by simpa using hl) (hS.wm (List.mem_of_getElem? (i:=2) rfl))⟩,A.On hJ Mq hbase⟩,hS.ext⟩
 have hn:nx.length=n:=by simpa using hn
 subst hn
 refine au ?_
 refine ah (fun hc=>?_) (fun hc=>?_)
 rotate_left
 ·have:nx=[]:=List.length_eq_zero_iff.1 aa
  subst this
  refine tl ?_
  refine hS.a_ ?_
  refine rr ?_;refine⟨⟨mk,⟨_,_,rfl,hl,eO.one hS (List.mem_of_getElem? (i:=2) rfl) (by simpa using hl) (hS.wm (List.mem_of_getElem? (i:=2) rfl))⟩,A.On hJ Mq hbase⟩,hS.ext⟩
 obtain⟨oU,cur,rfl⟩:∃a b,nx=a++[b]:=⟨nx.dropLast,nx.getLast (fun e=>by subst e;simp at hc),(List.dropLast_concat_getLast _).symm⟩
 have hlen:(oU++[cur]).length=oU.length +1:=by simp
 rw[hlen]at hS
 simp only[List.cons_append,List.nil_append]at hS
 have aaP:=Ox hmu
 rw[hlen]at aaP
 refine hS.a_ ?_;refine hS.a_ ?_;refine hS.az ?_
 refine aH ?_
 rw[show((oU.length +1:Nat):Int) -1=(oU.length:Nat) by omega]
 refine hS.ix (v:=vn cur) aa (by simp) fun p=>?_
 refine hS.a_ ?_;refine hS.a_ ?_;refine hS.az ?_
 refine aH ?_
 rw[show((oU.length +1:Nat):Int) -1=(oU.length:Nat) by omega]
 refine PU.of (tq aa) ?_
 refine hS.iB fun Hn hS=>?_;refine hS.a_ ?_
 have wT:cur<A.ns:=by have:=Zn (hJ.Zo cur (by simp));rw[hJ.len]at this;exact this
 have hS:SH [] H _ ((mr,36,[.slice (some ⟨dm,0,none⟩) A.ns A.ns])::(xr,23,[.slice (some ⟨r,0,none⟩) oU.length (aK 1)])::(dm,4,bools mk)::([(r,3,aP (oU++[cur])++aF)]++[(rg,26,q.cells A)])):=hS
 have hJ':=hJ.pop
 have Mr:=UN mk oU cur
 have hM:Ms mr xr dm A.ns mk oU ((mr,36,[.slice (some ⟨dm,0,none⟩) A.ns A.ns])::(xr,23,[.slice (some ⟨r,0,none⟩) oU.length (aK 1)])::(dm,4,bools mk)::[(r,3,aP (oU++[cur])++aF)]):=⟨_,_,rfl,.inr ⟨r,_,vn cur::aF,rfl,by simp,by simp⟩,hl⟩
 refine h.XH hS.ext wT fun p ea ec hE=>?_
 refine au ?_
 have hS:SH [] H _ (((mr,36,[.slice (some ⟨dm,0,none⟩) A.ns A.ns])::(xr,23,[.slice (some ⟨r,0,none⟩) oU.length (aK 1)])::(dm,4,bools mk)::[(r,3,aP (oU++[cur])++aF)])++[(rg,26,q.cells A)]):=hS
 have hrc:=hJ.snd cur (hJ.Zo cur (by simp))
 refine lp2 14 49 (I:=fun m fU CX H'=>∃k mk' nx' M,CX=vn k∧k +m=(A.E cur).length∧Ms mr xr dm A.ns mk' nx' M∧SH [] H H' (M++[(rg,26,q.cells A)])∧MJ A.ns (A.Rc (·∈fl) w) (fun t=>P t∨t=cur) mk' nx'∧mu mk' nx'≤mu mk oU∧(∀t,on mk t→on mk' t)∧∀j e,j<k→(A.E cur)[j]?=some e→w e→on mk' e.2.2) ?_ (A.E cur).length ⟨0,mk,oU,_,rfl,aa,hM,hS,hJ',Nat.le_refl _,fun t h=>h,fun j e hj=>absurd hj aa⟩
 clear hS hM hJ'
 rintro m' y14 y49 Eg H7 ⟨k,mk',nx',M,rfl,hkm,hM,hS,hJ',U4,hmo,hdone⟩
 refine tl ?_
 refine au ?_
 refine ah (fun hc2=>?_) (fun hc2=>?_)
 rotate_left
 ·refine⟨mu mk' nx',aa,_,_,_,_,_,_,_,rfl,mk',nx',M,_,hM,hS,hJ',aa,rfl,fun s hs=>hmo s (hbase s hs),fun s e hs he Mt=>?_⟩
  rcases hs with hs|rfl
  ·exact hmo _ (Mq s e hs he Mt)
  ·obtain⟨j,hj,e1⟩:=List.mem_iff_getElem.1 he
   exact hdone j e aa (by rw[←e1];exact List.getElem?_eq_getElem hj) Mt
 have hk:k<(A.E cur).length:=by omega
 refine J3 (hE.ex hS.ext) hk fun p=>?_
 have hmem:=List.getElem_mem hk
 have JV:=ho.len cur
 obtain⟨g1,g2,g3⟩:=ho.e cur wT _ hmem
 have hke:(A.E cur)[k]?=some (A.E cur)[k]:=List.getElem?_eq_getElem hk
 generalize hee:(A.E cur)[k]=e at g1 g2 g3 hke hmem⊢
 refine hS.ns rfl rfl rfl fun H8 re hS DD=>?_
 have hS:SH [] H H8 ([(re,47,[vn e.1,vn e.2.1,vn e.2.2])]++(M++[(rg,26,q.cells A)])):=hS
 refine hS.mU 0 rfl (by show 0 +3≤3;omega) ?_
 refine eG.mono (hwv H8 cur e hS.ext hS.wf hmem) ?_
 rintro v H9 ⟨⟨b,rfl,hbw⟩,Qp⟩
 have hS:=hS.call Qp
 refine au ?_
 refine aA (fun hb2=>?_) (fun hb2=>?_)
 ·refine hS.ld 0 (o:=2) rfl rfl ?_
  refine call g1 hM (hS.perm (bB [_] M [_])) hJ' aa (.step cur e hrc hmem (hbw.1 hb2)) fun v GU zA G5 M2 hM2 hS2 hJ2 Mv wU Mr=>?_
  refine ay ?_
  refine⟨(A.E cur).length -(k +1),aa,_,_,_,_,rfl,k +1,zA,G5,M2,iC,aa,hM2,?_,hJ2,aa,fun t ht=>wU t (hmo t ht),fun j e' hj he' Mt=>?_⟩
  ·have:=hS2.perm (bB M2 [(re,47,[vn e.1,vn e.2.1,vn e.2.2])] [(rg,26,q.cells A)])
   exact SH.drop (A:=[_]) this
  ·rcases Nat.lt_or_ge j k with h1|h1
   ·exact wU _ (hdone j e' h1 he' Mt)
   ·obtain rfl:j=k:=by omega
    rw[hke]at he';cases he';exact Mv
 ·refine ay ?_
  refine⟨(A.E cur).length -(k +1),aa,_,_,_,_,rfl,k +1,mk',nx',M,iC,aa,hM,SH.drop (A:=[_]) hS,hJ',aa,hmo,fun j e' hj he' Mt=>?_⟩
  rcases Nat.lt_or_ge j k with h1|h1
  ·exact hdone j e' h1 he' Mt
  ·obtain rfl:j=k:=by omega
   rw[hke]at he';cases he'
   exact absurd (hbw.2 Mt) (by rw[hb2];simp)
end
end Go.Proofs.Lv
