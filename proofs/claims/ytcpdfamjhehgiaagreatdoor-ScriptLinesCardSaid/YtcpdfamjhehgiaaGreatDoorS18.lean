/-
  Part 18 of the proof. No condition.
-/
import Derived.Test.YtcpdfamjhehgiaaGreatDoorS17
set_option linter.unusedVariables false
set_option linter.unusedSimpArgs false
set_option maxRecDepth 100000
set_option maxHeartbeats 8000000
noncomputable section
namespace Go.Proofs.Lu
open Go.Ae Go.Ae.M Go.Ae.si
section
variable{H0 H:ag}{L:List bF}
theorem dig_no:∀(n:Nat),∀x∈tZ n,x≠32:=by
 intro n
 induction n using Nat.strongRecOn with
 |_ n ih=>
  intro x hx
  by_cases h:n<10
  ·rw[rT h]at hx;simp at hx;omega
  ·rw[yV (by omega)]at hx
   rcases List.mem_append.1 hx with g|g
   ·exact ih (n/10) (by omega) x g
   ·simp at g;omega
theorem verb_no:∀i,i<11→∀x∈verbs.getD i [],x≠32:=by decide
theorem verb_one:∀i,i<11→∀j,j<11→verbs.getD i []=verbs.getD j []→i=j:=by decide
theorem cut_eq:∀{a a' b b':List Nat},a++32::b=a'++32::b'→(∀x∈a,x≠32)→(∀x∈a',x≠32)→a=a'∧b=b':=by
 intro a
 induction a with
 |nil=>
  intro a' b b' h _ h2
  cases a' with
  |nil=>exact⟨rfl,(List.cons.inj h).2⟩
  |cons y l=>exact absurd (List.cons.inj h).1.symm (h2 y (List.mem_cons_self ..))
 |cons x k ih=>
  intro a' b b' h h1 h2
  cases a' with
  |nil=>exact absurd (List.cons.inj h).1 (h1 x (List.mem_cons_self ..))
  |cons y l=>
   obtain⟨e1,e2⟩:=List.cons.inj h
   obtain⟨e3,e4⟩:=ih e2 (fun z hz=>h1 z (List.mem_cons_of_mem _ hz)) (fun z hz=>h2 z (List.mem_cons_of_mem _ hz))
   exact⟨by rw[e1,e3],e4⟩
theorem isCut_of{s:ByteArray}{v:Value}{p R:List Nat}(h:Sw s v)(e:tx s=p++R)(hp:∀x∈p,x≠32)(hR:R=[]∨∃Y,R=32::Y):
 ∃(wd w:ByteArray)(m:Bool),v=.tuple ⟨[.string wd,.string w,.bool m]⟩∧tx wd=p∧w.size≤s.size∧(m=true∧R=32::tx w∨m=false∧R=[]∧w=⟨#[]⟩):=by
 rcases h with⟨a,b,rfl,h1,h2⟩|⟨rfl,h1⟩
 ·rcases hR with rfl|⟨Y,rfl⟩
  ·exfalso
   rw[List.append_nil]at e
   exact hp 32 (by rw[←e,h1];simp) rfl
  ·obtain⟨e1,e2⟩:=cut_eq (h1.symm.trans e) h2 hp
   have hl:=congrArg List.length h1
   rw[List.length_append,List.length_cons,aW,aW,aW]at hl
   exact⟨a,b,true,rfl,e1,by omega,.inl ⟨rfl,by rw[e2]⟩⟩
 ·rcases hR with rfl|⟨Y,rfl⟩
  ·exact⟨s,⟨#[]⟩,false,rfl,by rw[e,List.append_nil],Nat.zero_le _,.inr ⟨rfl,rfl,rfl⟩⟩
  ·exfalso
   exact h1 32 (by rw[e];simp) rfl
def rem(K:Nat)(l:List Int)(t rs:List Nat)(j:Nat):List Nat:=(l.drop j).flatMap (fun n=>32::tZ n.toNat)++if(K:Int)≤2 then 32::qV t rs else[]
theorem rem_step{K:Nat}{l:List Int}{t rs:List Nat}{j:Nat}(h:j<l.length):rem K l t rs j=32::(tZ (l.getD j 0).toNat++rem K l t rs (j +1)):=by
 unfold rem
 rw[List.drop_eq_getElem_cons h,List.flatMap_cons,List.getD_eq_getElem?_getD,List.getElem?_eq_getElem h]
 simp
theorem rem_end{K:Nat}{l:List Int}{t rs:List Nat}{j:Nat}(h:l.length≤j):rem K l t rs j=if(K:Int)≤2 then 32::qV t rs else[]:=by
 unfold rem
 rw[List.drop_eq_nil_of_le h];rfl
theorem rem_or{K:Nat}{l:List Int}{t rs:List Nat}(j:Nat):rem K l t rs j=[]∨∃Y,rem K l t rs j=32::Y:=by
 rcases Nat.lt_or_ge j l.length with h|h
 ·exact .inr ⟨_,rem_step h⟩
 ·rw[rem_end h]
  split
  ·exact .inr ⟨_,rfl⟩
  ·exact .inl rfl
theorem counts_le:∀k,k<11→nG k≤60∧(k≤2→rU k=nG k):=by decide
theorem readLE(hw:Wf H)(hT:Tb H)(hN:Tn H)(hE:Te H)(s:ByteArray)(hs:s.size≤1000000)(K:Nat)(l:List Int)(t:ByteArray)(ht:t.size≤80000){rs:List Nat}(hok:ok (K:Int) l (tx t))(hrs:wR (tx t) rs)(XD:tx s=line (K:Int) l (tx t) rs):
 aj Pg X 11 [.string s] H (Q1 (fun v H'=>∃a c,v=.tuple ⟨[Us K a l.length c t,vi 0]⟩∧Fl H' a l.length 1 (l.map vi)) H):=by
 obtain⟨_,hk10,hfew,hmost,sM,hno,rs0,hrs0,hq⟩:=id hok
 obtain rfl:=wR.uniq hrs hrs0
 have hK:K<11:=by omega
 rw[Int.toNat_natCast]at hfew hmost
 obtain⟨Ze,hfm⟩:=counts_le K hK
 have hl60:l.length≤60:=by omega
 have hsr:tx s=verbs.getD K []++rem K l (tx t) rs 0:=by
  rw[XD,Qo,Int.toNat_natCast];unfold rem;rw[List.drop_zero,List.append_assoc]
 refine ce [0,2,3,4,5,6,7,8,9,11,12,13,14,15,16] ?_;refine tl ?_
 refine(SH.refl hw).fE fun H1 r2 hS=>?_
 refine aj.mono (Xm s hs) ?_
 rintro v H' ⟨hcut,rfl⟩
 obtain⟨wd,w0,m0,rfl,hwd,hw0,hm0⟩:=isCut_of hcut hsr (verb_no K hK) (rem_or 0)
 (try simp only[PP,Nat.reduceBEq])
 refine aj.mono (Xi hS.wf wd) ?_
 rintro v H2 ⟨hk,hx⟩
 have hS:=hS.call hx
 obtain rfl:v=.tuple ⟨[vn K,.bool true]⟩:=by
  rcases hk with⟨i,hi,hik,rfl⟩|⟨h,rfl⟩
  ·obtain rfl:=verb_one i hi K hK (by rw[←hik,hwd])
   rfl
  ·exact absurd hwd (h K hK)
 (try simp only[PP,Nat.reduceBEq])
 refine aU (fun h=>by cases h) (fun h=>?_)
 refine PU.of (v:=.agg ⟨[vn K,.slice none 0 0,.string ⟨#[]⟩]⟩) rfl ?_
 refine hS.fE fun H3 r9 hS=>?_
 refine hS.st 0 rfl rfl (by show 0 +3≤3;omega) rfl fun H4 hS=>?_
 refine aj.mono (Cq K (by omega)) ?_
 rintro v H5 ⟨rfl,rfl⟩
 (try simp only[PP,Nat.reduceBEq])
 have hS:SH [] H H5 ((r9,24,[vn K,.slice none 0 0,.string ⟨#[]⟩])::(r2,24,[vi 0,.slice none 0 0,.string ⟨#[]⟩])::([]++[])):=hS
 have last:∀(w:ByteArray)(m:Bool)(nv:Value)(gb:List bF)(y4 y13 Od Oe IM:Value)(rg:Rs){H1:ag}{L:List bF},GB 3 1 nv (l.map vi) gb→SH [] H H1 ((r9,24,[vn K,nv,.string t])::(r2,24,[vi 0,.slice none 0 0,.string ⟨#[]⟩])::(gb++L))→
  bC Pg X (sub jS [1,1,1,1,1,1,1,1]) (F Pg 11 (.c 0 (.string s)<|.c 2 (.pointer (some ⟨r2,0,none⟩))<|.c 3 (vi 0)<|.c 4 y4<|.c 5 (.string w)<|.c 6 (.bool m)<|.c 7 (vn K)<|.c 8 (.bool true)<|.c 9 (.pointer (some ⟨r9,0,none⟩))<|.c 11 (vn (nG K))<|.c 12 (.bool (decide (K≤2)))<|.c 13 y13<|.c 14 Od<|.c 15 Oe<|.c 16 IM .n) rg H1) (fD Pg [.cell 2 24,.tmp 3] (Q1 (fun v H'=>∃a c,v=.tuple ⟨[Us K a l.length c t,vi 0]⟩∧Fl H' a l.length 1 (l.map vi)) H)):=by
  intro w m nv gb y4 y13 Od Oe IM rg H1 L hg hS
  obtain⟨a,c,rfl,hf⟩:=GB.Ot hg (SH.drop (A:=[_,_]) hS)
  refine tl ?_
  refine hS.BX 0 rfl (by show 0 +3≤3;omega) ?_
  refine aj.mono (Bc hS.wf (hT.ex hS.ext) (hN.ex hS.ext) K hf (by omega) t (by omega)) ?_
  rintro v H6 ⟨⟨b,rfl,hb⟩,hx6⟩
  have hS:=hS.call hx6
  have hf:=hf.ex hx6
  obtain rfl:b=true:=hb.2 hok
  (try simp only[PP,Nat.reduceBEq])
  refine aU (fun h=>by cases h) (fun h=>?_)
  refine hS.BX 0 rfl (by show 0 +3≤3;omega) ?_
  refine aj.mono (Xf hS.wf (hT.ex hS.ext) (hN.ex hS.ext) K hf (by omega) t (by omega)) ?_
  rintro v H7 ⟨⟨hv,_⟩,hx7⟩
  have hS:=hS.call hx7
  have hf:=hf.ex hx7
  obtain⟨tl',rfl,htl⟩:=hv rs hok hrs
  (try simp only[PP,Nat.reduceBEq])
  refine bz (fun h=>absurd (y_ (by rw[htl,XD])) h) (fun h=>?_)
  refine hS.BX 0 rfl (by show 0 +3≤3;omega) ?_
  refine hS.st 1 rfl rfl (by show 0 +3≤3;omega) rfl fun Hn hS2=>?_
  refine rr ?_
  refine hS2.BX 1 rfl (by show 0 +3≤3;omega) ?_
  obtain⟨a2,c2,e2,hf2⟩:=GB.Ot hg (SH.drop (A:=[_,_]) hS2)
  cases e2
  exact⟨⟨a,c,rfl,hf2⟩,hS2.ext⟩
 have text:∀(w:ByteArray)(m:Bool)(nv:Value)(gb:List bF)(y4 y13 Od Oe IM:Value)(rg:Rs)(b:Bool){H1:ag}{L:List bF},Az rg 74=.bool b→(b=true→tx t≠[]∧tx w=quot rs)→(b=false→tx t=[])→GB 3 1 nv (l.map vi) gb→SH [] H H1 ((r9,24,[vn K,nv,.string ⟨#[]⟩])::(r2,24,[vi 0,.slice none 0 0,.string ⟨#[]⟩])::(gb++L))→
  bC Pg X (sub jS [1,1,1,1,1,1,1,0,1]) (F Pg 11 (.c 0 (.string s)<|.c 2 (.pointer (some ⟨r2,0,none⟩))<|.c 3 (vi 0)<|.c 4 y4<|.c 5 (.string w)<|.c 6 (.bool m)<|.c 7 (vn K)<|.c 8 (.bool true)<|.c 9 (.pointer (some ⟨r9,0,none⟩))<|.c 11 (vn (nG K))<|.c 12 (.bool (decide (K≤2)))<|.c 13 y13<|.c 14 Od<|.c 15 Oe<|.c 16 IM .n) rg H1) (pG Pg X (sub jS [1,1,1,1,1,1,1,1]) (fD Pg [.cell 2 24,.tmp 3] (Q1 (fun v H'=>∃a c,v=.tuple ⟨[Us K a l.length c t,vi 0]⟩∧Fl H' a l.length 1 (l.map vi)) H))):=by
  intro w m nv gb y4 y13 Od Oe IM rg b H1 L hb hbt hbf hg hS
  refine tl ?_
  rw[hb]
  (try simp only[PP,Nat.reduceBEq])
  refine aU (fun h=>?_) (fun h=>?_)
  rotate_left
  ·obtain rfl:=oo.1 (hbf h)
   exact last _ _ _ _ _ _ _ _ _ _ hg hS
  obtain⟨hne,hwq⟩:=hbt h
  have hwsz:w.size≤20000:=by rw[←aW,hwq];exact hq
  have hrne:rs≠[]:=by rintro rfl;exact hne hrs.1
  refine aj.mono (allE hS.wf (hT.ex hS.ext) w hrne hrs.2 hwq hwsz (by rw[←hrs.1,aW];omega)) ?_
  rintro v H6 ⟨⟨tt,a,n,c,cs,T_,rfl,hfl,hn1,hel⟩,hx6⟩
  obtain rfl:tt=t:=y_ (by rw[T_,hrs.1])
  have hS:=hS.call hx6
  (try simp only[PP,Nat.reduceBEq])
  refine(SH.refl hS.wf).fE fun H7 rz hB=>?_
  refine hB.st 0 rfl rfl (by show 0 +2≤2;omega) rfl fun H8 hB=>?_
  have hS:=SH.add hS hB
  (try simp only[PP,Nat.reduceBEq])
  refine hB.ld 0 rfl rfl ?_
  (try simp only[PP,Nat.reduceBEq])
  refine(show∀{A B:Prop},B→yu (some !decide True) A B from fun h=>h) ?_
  (try simp only[PP,Nat.reduceBEq])
  refine ai (fun h1=>absurd h1 (by omega)) (fun h1=>?_)
  obtain⟨r,o,ei,hr,hc,_⟩:=hfl.idx (c:=c) (by decide) (k:=0) (by omega)
  have hcell:∀f x,f<5→[vi 3,vn 0,vn w.size,.string tt,.slice none 0 0][f]?=some x→H8.cell r (o +f)=some x:=by
   intro f x ZW hx
   have h1:cs[0*5 +f]?=some x:=by
    rw[←hel,mM,if_pos ZW]at hx
    exact hx
   have h2:=hc f x ZW h1
   exact(fq (hB.ext.obj r hr (by simp)) _).trans h2
  refine PU.of ei ?_
  (try simp only[PP,Nat.reduceBEq])
  refine ME.ld (v:=vi 3) (hcell 0 _ (by decide) rfl) ?_
  (try simp only[PP,Nat.reduceBEq])
  refine(show∀{A B:Prop},B→yu (some !decide True) A B from fun h=>h) ?_
  refine tl ?_
  refine PU.of ei ?_
  (try simp only[PP,Nat.reduceBEq])
  refine ME.ld (v:=.string tt) (hcell 3 _ (by decide) rfl) ?_
  (try simp only[PP,Nat.reduceBEq])
  refine hS.st 1 rfl rfl (by show 2 +1≤3;omega) rfl fun H9 hS=>?_
  have hS:SH [] H H9 ((rz,92,[vi 0,vi 0])::(r9,24,[vn K,nv,.string tt])::(r2,24,[vi 0,.slice none 0 0,.string ⟨#[]⟩])::(gb++L)):=hS
  have hS:SH [] H H9 ((r9,24,[vn K,nv,.string tt])::(r2,24,[vi 0,.slice none 0 0,.string ⟨#[]⟩])::(gb++((rz,92,[vi 0,vi 0])::L))):=by
   refine hS.perm ?_
   refine(List.Perm.swap _ _ _).trans (List.Perm.cons _ ?_)
   refine(List.Perm.swap _ _ _).trans (List.Perm.cons _ ?_)
   exact List.perm_middle.symm
  (try simp only[PP,Nat.reduceBEq])
  exact last _ _ _ _ _ _ _ _ _ _ hg hS
 refine ZJ 3 4 5 6 13 14 (I:=fun n x3 x4 x5 x6 mQ AX H'=>∃(w:ByteArray)(m:Bool)(nv:Value)(j:Nat)(gb:List bF),x3=vi 0∧x5=.string w∧x6=.bool m∧w.size≤s.size∧n +j=l.length∧(m=true∧rem K l (tx t) rs j=32::tx w∨m=false∧rem K l (tx t) rs j=[]∧w=⟨#[]⟩)∧GB 3 1 nv ((l.take j).map vi) gb∧SH [] H H' ((r9,24,[vn K,nv,.string ⟨#[]⟩])::(r2,24,[vi 0,.slice none 0 0,.string ⟨#[]⟩])::(gb++[]))) ?_ l.length
  ⟨w0,m0,_,0,[],rfl,rfl,rfl,hw0,rfl,hm0,by rw[List.take_zero];exact GB.nil _ _,hS⟩
 rintro n x3 x4 x5 x6 mQ AX rg H6 ⟨w,m,nv,j,gb,rfl,rfl,rfl,hwl,hnl,hmr,hg,hS⟩
 have htl:(l.take j).length=j:=by rw[List.length_take];omega
 have off:∀(rg:Rs),j=l.length→bC Pg X (sub jS [1,1,1,1,1,1,1]) (F Pg 11 (.c 0 (.string s)<|.c 2 (.pointer (some ⟨r2,0,none⟩))<|.c 3 (vi 0)<|.c 4 x4<|.c 5 (.string w)<|.c 6 (.bool m)<|.c 7 (vn K)<|.c 8 (.bool true)<|.c 9 (.pointer (some ⟨r9,0,none⟩))<|.c 11 (vn (nG K))<|.c 12 (.bool (decide (K≤2)))<|.c 13 mQ<|.c 14 AX<|.c 15 top<|.c 16 top .n) rg H6) (fD Pg [.cell 2 24,.tmp 3] (Q1 (fun v H'=>∃a c,v=.tuple ⟨[Us K a l.length c t,vi 0]⟩∧Fl H' a l.length 1 (l.map vi)) H)):=by
  intro rg hj
  subst hj
  rw[List.take_length]at hg
  rw[rem_end (Nat.le_refl _)]at hmr
  refine tl ?_
  (try simp only[PP,Nat.reduceBEq])
  refine ai (fun h=>?_) (fun h=>?_)
  ·rw[if_pos (by omega)]at hmr
   rcases hmr with⟨rfl,hmr⟩|⟨_,hmr,_⟩
   ·have hwt:tx w=qV (tx t) rs:=(List.cons.inj hmr).2.symm
    refine aU (fun h2=>?_) (fun h2=>by cases h2)
    refine text _ _ _ _ _ _ _ _ _ _ (!decide (w=⟨#[45]⟩)) (by(try simp only[PP,Nat.reduceBEq])) (fun hb=>?_) (fun hb=>?_) hg hS
    ·have hb:¬w=⟨#[45]⟩:=fun g=>by rw[decide_eq_true g]at hb;cases hb
     unfold qV at hwt
     split at hwt
     ·exact absurd (y_ (hwt.trans rfl)) hb
     ·next g=>exact⟨g,hwt⟩
    ·have hb:w=⟨#[45]⟩:=Classical.not_not.1 fun g=>by rw[decide_eq_false g]at hb;cases hb
     unfold qV at hwt
     split at hwt
     ·next g=>exact g
     ·exfalso
      rw[hb]at hwt
      have:=congrArg List.length hwt
      unfold quot at this
      simp[tx]at this
   ·cases hmr
  ·refine text _ _ _ _ _ _ _ _ _ _ false (by(try simp only[PP,Nat.reduceBEq])) (fun hb=>by cases hb) (fun _=>hno (by omega)) hg hS
 refine tl ?_
 (try simp only[PP,Nat.reduceBEq])
 refine aU (fun h=>?_) (fun h=>?_)
 rotate_left
 ·refine off _ ?_
  rcases Nat.lt_or_ge j l.length with g|g
  ·rcases hmr with⟨h2,_⟩|⟨_,h2,_⟩
   ·rw[h]at h2;cases h2
   ·rw[rem_step g]at h2;cases h2
  ·omega
 have hmq:rem K l (tx t) rs j=32::tx w:=by
  rcases hmr with⟨_,h2⟩|⟨h2,_⟩
  ·exact h2
  ·rw[h]at h2;cases h2
 clear hmr
 subst h
 obtain⟨a,c,rfl,hf⟩:=GB.Ot hg (SH.drop (A:=[_,_]) hS)
 refine hS.ld 0 rfl rfl ?_
 (try simp only[PP,Nat.reduceBEq])
 rw[htl]
 refine ai (fun h2=>?_) (fun h2=>?_)
 rotate_left
 ·exact off _ (by omega)
 have hjl:j<l.length:=by
  rcases Nat.lt_or_ge j l.length with g|g
  ·exact g
  ·exfalso
   rw[rem_end g]at hmq
   split at hmq
   ·have:=hfm (by omega);omega
   ·cases hmq
 refine tl ?_
 refine aj.mono (Xm w (by omega)) ?_
 rintro v H7 ⟨hcut,rfl⟩
 rw[rem_step hjl]at hmq
 obtain⟨wd',w',m',rfl,aad,hw',hm'⟩:=isCut_of hcut (List.cons.inj hmq).2.symm (dig_no _) (rem_or _)
 (try simp only[PP,Nat.reduceBEq])
 have hwds:wd'.size≤1000000:=by
  have h3:=congrArg List.length (List.cons.inj hmq).2
  rw[←aad,List.length_append,aW,aW]at h3
  omega
 refine aj.mono (Xz hS.wf (hE.ex hS.ext) wd' hwds) ?_
 rintro v H8 ⟨⟨z,e,rfl,_,hz⟩,hx8⟩
 have hS:=hS.call hx8
 have hn2:=sM (l.getD j 0) (uu hjl)
 obtain⟨rfl,rfl⟩:=hz (l.getD j 0).toNat (by omega) aad
 have hzn:(((l.getD j 0).toNat:Nat):Int)=l.getD j 0:=by omega
 simp only[PP,XZ]
 refine hS.ld 0 rfl rfl ?_
 refine hS.bS rfl rfl rfl (by decide) fun H9 rx hS=>?_
 have hS:SH [] H H9 ((rx,3,[vi (((l.getD j 0).toNat:Nat):Int)])::(gb++[(r9,24,[vn K,.slice a (l.take j).length c,.string ⟨#[]⟩]),(r2,24,[vi 0,.slice none 0 0,.string ⟨#[]⟩])])):=hS.perm (List.Perm.cons _ (by rw[List.append_nil];exact List.perm_append_comm (l₁:=[_,_])))
 refine hg.add hS (by decide) rfl rfl (by simp;omega) fun v' ZR iF hg' hS _=>?_
 (try simp only[PP,Nat.reduceBEq])
 have hS:SH [] H ZR ((r9,24,[vn K,.slice a (l.take j).length c,.string ⟨#[]⟩])::(r2,24,[vi 0,.slice none 0 0,.string ⟨#[]⟩])::(iF++[])):=hS.perm (by rw[List.append_nil];exact List.perm_append_comm (l₂:=[_,_]))
 refine hS.st 0 rfl hg'.aN.2.1 (by show 1 +1≤3;omega) hg'.aN.1 fun H11 hS=>?_
 rw[hg'.aN.2.2]at hS
 (try simp only[PP,Nat.reduceBEq])
 refine⟨n -1,by omega,_,_,_,_,_,_,_,_,rfl,w',m',v',j +1,iF,rfl,rfl,rfl,by omega,by omega,hm',?_,hS⟩
 rw[vv hjl,List.map_append,←hzn];exact hg'
end
section
variable{H0 H:ag}{L:List bF}
theorem fit1:aj Pg X 74 [vi 1] H (Q0 (fun v=>v=vi 1) H):=⟨vi 1,H,⟨60,by kernel_rfl⟩,rfl,rfl⟩
theorem map156:∃q,qH Pg 156=some q:=Option.isSome_iff_exists.1 (by kernel_rfl)
theorem map69:∃q,qH Pg 69=some q:=Option.isSome_iff_exists.1 (by kernel_rfl)
theorem cacheNewE(hw:Wf H):aj Pg X 38 [vi 1] H (Q1 (fun v _=>∃r,v=.pointer (some ⟨r,0,none⟩)) H):=by
 obtain⟨q,hq⟩:=map156
 refine ce [0,2] ?_;refine tl ?_
 refine aj.mono fit1 ?_
 rintro v H' ⟨rfl,rfl⟩
 refine Uw (SH.refl hw) hq fun H1 r hm hr hS=>?_
 refine PU.of (v:=.agg ⟨[vi 1,.map (some r),.pointer none,.pointer none,vi 0,vi 0,vi 0]⟩) rfl ?_
 refine hS.box rfl fun H2 r2 hS=>?_
 refine rr ?_
 exact⟨⟨r2,rfl⟩,hS.ext⟩
theorem sessionNewE(hw:Wf H):aj Pg X 9 [vi 1] H (Q1 (fun v _=>∃r,v=.pointer (some ⟨r,0,none⟩)) H):=by
 obtain⟨q,hq⟩:=map69
 refine ce [0,2] ?_;refine tl ?_
 refine aj.mono (cacheNewE hw) ?_
 rintro v H1 ⟨⟨r1,rfl⟩,hx⟩
 have hS:=(SH.refl hw).call hx
 refine Uw hS hq fun H2 r2 hm hr hS=>?_
 refine PU.of (v:=.agg ⟨[.pointer (some ⟨r1,0,none⟩),.map (some r2),vi 0]⟩) rfl ?_
 refine aj.mono (cacheNewE hS.wf) ?_
 rintro v H3 ⟨⟨r3,rfl⟩,hx⟩
 have hS:=hS.call hx
 refine PU.of (v:=.agg ⟨[.pointer (some ⟨r3,0,none⟩)]⟩) rfl ?_
 refine PU.of (v:=.agg ⟨[.pointer (some ⟨r1,0,none⟩),.map (some r2),vi 0,.pointer (some ⟨r3,0,none⟩)]⟩) rfl ?_
 refine hS.box rfl fun H4 r4 hS=>?_
 refine PU.of (v:=.agg ⟨[.pointer (some ⟨r4,0,none⟩),.pointer none,.string ⟨#[]⟩,.slice none 0 0,.slice none 0 0,.slice none 0 0,.bool false,vi 0,.map none]⟩) rfl ?_
 refine hS.box rfl fun H5 r5 hS=>?_
 refine rr ?_
 exact⟨⟨r5,rfl⟩,hS.ext⟩
theorem failedE(hw:Wf H)(hN:Tn H):aj Pg X 25 [vi 33] H (Q1 (fun v _=>v=.string ⟨#[101,114,114,111,114,32,51,51,10]⟩) H):=by
 refine ce [0,2] ?_;refine tl ?_
 refine aj.mono (Xe hw hN 33 (by decide)) ?_
 rintro v H' ⟨⟨t,rfl,ht⟩,hx⟩
 obtain rfl:t=⟨#[51,51]⟩:=y_ (ht.trans (by rw[yV (by decide),rT (by decide)];rfl))
 refine PU.of (dz (by decide)) ?_
 refine PU.of (dz (by decide)) ?_
 refine rr ?_
 exact⟨rfl,hx⟩
theorem doWrongE(hw:Wf H)(hT:Tb H)(hN:Tn H)(k:Int){x:Value}{a:Option Addr}{n c:Nat}{l:List Int}(hf:Fl H a n 1 (l.map vi))(hn:n≤1000000)(s:ByteArray)(hs:s.size≤100000)(hno:¬ok k l (tx s)):
 aj Pg X 8 [x,Us k a n c s] H (Q1 (fun v _=>v=.string ⟨#[101,114,114,111,114,32,51,51,10]⟩) H):=by
 refine ce [0,1,3,4,5,6,7,14] ?_;refine tl ?_
 refine(SH.refl hw).box rfl fun H1 r hS=>?_
 refine hS.BX 0 rfl (by show 0 +3≤3;omega) ?_
 refine aj.mono (Bc hS.wf (hT.ex hS.ext) (hN.ex hS.ext) k (hf.ex hS.ext) hn s hs) ?_
 rintro v H2 ⟨⟨b,rfl,hb⟩,hx⟩
 have hS:=hS.call hx
 have hbf:b=false:=by
  cases b with
  |false=>rfl
  |true=>exact absurd (hb.1 rfl) hno
 subst hbf
 (try simp only[PP,Nat.reduceBEq])
 refine aU (fun h=>?_) (fun h=>by cases h)
 refine aj.mono (failedE hS.wf (hN.ex hS.ext)) ?_
 rintro v H3 ⟨rfl,hx⟩
 have hS:=hS.call hx
 refine rr ?_
 exact⟨rfl,hS.ext⟩
theorem numbersE(hw:Wf H){a b:Option Addr}{c d:Nat}{l:List Int}(hf:Fl H a l.length 1 (l.map vi))(hg:Fl H b l.length 1 (l.map vi))(hn:l.length≤1000000):
 aj Pg X 13 [.slice a l.length c,.slice b l.length d] H (Q0 (fun v=>v=.bool true) H):=by
 refine ce [0,1,4,5] ?_;refine tl ?_
 (try simp only[PP,Nat.reduceBEq])
 refine IB 5 (I:=fun n x5 H'=>H'=H∧∃i:Nat,x5=vn i∧n +i=l.length) ?_ l.length ⟨rfl,0,rfl,by omega⟩
 rintro n x5 rg H' ⟨rfl,i,rfl,hi⟩
 refine tl ?_
 (try simp only[PP,Nat.reduceBEq])
 refine ai (fun hc=>?_) (fun hc=>?_)
 rotate_left
 ·refine tl ?_
  refine rr ?_
  exact⟨rfl,rfl⟩
 have hil:i<l.length:=by omega
 obtain⟨r,o,e1,_,hc1,_⟩:=hf.idx (c:=c) (by decide) (k:=i) hil
 obtain⟨r',o',e2,_,hc2,_⟩:=hg.idx (c:=d) (by decide) (k:=i) hil
 have el:(l.map vi)[i*1 +0]?=some (vi (l.getD i 0)):=by
  rw[Nat.mul_one,Nat.add_zero,List.getElem?_map,List.getD_eq_getElem?_getD,List.getElem?_eq_getElem hil];rfl
 have h1:=hc1 0 _ (by decide) el
 have h2:=hc2 0 _ (by decide) el
 refine PU.of e1 ?_
 refine ME.ld (v:=vi (l.getD i 0)) h1 ?_
 rw[cr hw]
 refine PU.of e2 ?_
 refine ME.ld (v:=vi (l.getD i 0)) h2 ?_
 (try simp only[PP,Nat.reduceBEq])
 rw[cr hw]
 refine⟨aK (by simp only[az];rfl),?_⟩
 refine(show∀{A B:Prop},B→yu (some !decide True) A B from fun h=>h) ?_
 rw[aH (by omega) (by omega)]
 (try simp only[PP,Nat.reduceBEq])
 exact⟨n -1,by omega,_,_,_,rfl,rfl,i +1,rfl,by omega⟩
end
section
variable{H0 H:ag}{L:List bF}
theorem Tb.hN(h:Tb H):Tb (hN H):=⟨h.first,h.Sg,h.lt⟩
theorem Tn.hN(h:Tn H):Tn (hN H):=by obtain⟨a,b,c⟩:=h;exact⟨a,b,c⟩
theorem quot_le{rs:List Nat}:(quot rs).length≤6*rs.length +2:=by
 have:=uq rs
 unfold quot
 rw[List.length_append,List.length_cons,List.length_singleton];omega
theorem verb_len:∀i,i<11→(verbs.getD i []).length≤8:=by decide
theorem line_len{k:Int}{l:List Int}{t:List Nat}{rs:List Nat}(hok:ok k l t)(hrs:wR t rs)(ht:t.length≤300):(line k l t rs).length≤3000:=by
 obtain⟨h0,h10,_,hm,sM,_,_⟩:=hok
 rw[Qo,List.length_append,List.length_append]
 have h1:=verb_len k.toNat (by omega)
 have h2:=Et sM
 have h3:=(counts_le k.toNat (by omega)).1
 have h4:rs.length≤t.length:=by rw[hrs.1];exact pU rs
 have h5:(qV t rs).length≤6*rs.length +2:=by
  unfold qV
  split
  ·simp
  ·exact quot_le
 split
 ·rw[List.length_cons];omega
 ·rw[List.length_nil];omega
theorem scriptLines(hw:Wf H)(hT:l7 H)(hE:Te H)(k:Int){a:Option Addr}{n c:Nat}{l:List Int}(hf:Fl H a n 1 (l.map vi))(t:ByteArray):
 aj Pg X 3 [Us k a n c t] H (Q1 (fun v _=>v=.bool true) H):=by
 have hb:=l7.tb hT
 have hn:=l7.tn hT
 have hll:=Fl.len hf
 refine ce [0,1,2,3,4,5] ?_;refine tl ?_
 refine(SH.refl hw).box rfl fun H1 r1 hS=>?_
 have hf:=hf.ex hS.ext
 (try simp only[PP,Nat.reduceBEq])
 refine hS.ld 0 rfl rfl ?_
 (try simp only[PP,Nat.reduceBEq])
 refine ai (fun h=>?_) (fun hn100=>?_)
 ·refine rr ?_;exact⟨rfl,hS.ext⟩
 refine hS.ld 0 rfl rfl ?_
 (try simp only[PP,Nat.reduceBEq])
 refine ai (fun h=>?_) (fun ht300=>?_)
 ·refine rr ?_;exact⟨rfl,hS.ext⟩
 refine tl ?_
 refine hS.BX 0 rfl (by show 0 +3≤3;omega) ?_
 refine aj.mono (Xf hS.wf (hb.ex hS.ext) (hn.ex hS.ext) k hf (by omega) t (by omega)) ?_
 rintro v H2 ⟨⟨hv1,hv2⟩,hx2⟩
 have hS:=hS.call hx2
 have hf:=hf.ex hx2
 (try simp only[PP,Nat.reduceBEq])
 refine hS.ld 0 rfl rfl ?_
 (try simp only[PP,Nat.reduceBEq])
 refine hS.ld 0 rfl rfl ?_
 (try simp only[PP,Nat.reduceBEq])
 refine hS.ld 0 rfl rfl ?_
 refine aj.mono (J_ hS.wf k hf (by omega) t (by omega)) ?_
 rintro v2 H3 ⟨⟨b,rfl,hbo⟩,hx3⟩
 have hS:=hS.call hx3
 have hf:=hf.ex hx3
 (try simp only[PP,Nat.reduceBEq])
 refine aU (fun hbf=>?_) (fun hbt=>?_)
 ·have hno:¬ok k l (tx t):=fun g=>by rw[hbo.2 g]at hbf;cases hbf
  obtain rfl:=hv2 hno
  repeat(first|(simp only[PP,Nat.reduceBEq,cr hS.wf])|(refine PU.b1 rfl ?_)|(refine PU.b2 rfl ?_)|(refine PU.b3 rfl ?_)|(refine PU.b4 rfl ?_)|(refine PU.b5 rfl ?_)|(refine PU.b6 rfl ?_)|(refine PU.b7 rfl ?_)|(refine PU.b8 rfl ?_)|(refine PU.b9 rfl ?_)|(refine hS.FO ?_)|(refine hS.iW ?_)|(refine hS.TJ ?_)|(refine hS.VJ ?_)|(refine hS.qR fun Hn hS=>?_)|(refine hS.VL fun Hn hS=>?_)|(refine MQ (by simp only[az,av (Ext.refl (hN _))];rfl) ?_))
  refine aj.mono (Bc (MG _) (hb.ex hS.ext).hN (hn.ex hS.ext).hN k hf (by omega) t (by omega)) ?_
  rintro v3 H4 ⟨⟨b3,rfl,hb3⟩,hx4⟩
  have hS:=hS.MH hx4
  have hf:=hf.ex hx4.draw
  have hb3f:b3=false:=by
   cases b3 with
   |false=>rfl
   |true=>exact absurd (hb3.1 rfl) hno
  subst hb3f
  repeat(first|(simp only[PP,Nat.reduceBEq,cr hS.wf])|(refine PU.b1 rfl ?_)|(refine PU.b2 rfl ?_)|(refine PU.b3 rfl ?_)|(refine PU.b4 rfl ?_)|(refine PU.b5 rfl ?_)|(refine PU.b6 rfl ?_)|(refine PU.b7 rfl ?_)|(refine PU.b8 rfl ?_)|(refine PU.b9 rfl ?_)|(refine hS.FO ?_)|(refine hS.iW ?_)|(refine hS.TJ ?_)|(refine hS.VJ ?_)|(refine hS.qR fun Hn hS=>?_)|(refine hS.VL fun Hn hS=>?_)|(refine MQ (by simp only[az,av (Ext.refl (hN _))];rfl) ?_))
  refine aU (fun h=>?_) (fun h=>by cases h)
  repeat(first|(simp only[PP,Nat.reduceBEq,cr hS.wf])|(refine PU.b1 rfl ?_)|(refine PU.b2 rfl ?_)|(refine PU.b3 rfl ?_)|(refine PU.b4 rfl ?_)|(refine PU.b5 rfl ?_)|(refine PU.b6 rfl ?_)|(refine PU.b7 rfl ?_)|(refine PU.b8 rfl ?_)|(refine PU.b9 rfl ?_)|(refine hS.FO ?_)|(refine hS.iW ?_)|(refine hS.TJ ?_)|(refine hS.VJ ?_)|(refine hS.qR fun Hn hS=>?_)|(refine hS.VL fun Hn hS=>?_)|(refine MQ (by simp only[az,av (Ext.refl (hN _))];rfl) ?_))
  refine aj.mono (sessionNewE (MG _)) ?_
  rintro v4 H5 ⟨⟨r5,rfl⟩,hx5⟩
  have hS:=hS.MH hx5
  have hf:=hf.ex hx5.draw
  repeat(first|(simp only[PP,Nat.reduceBEq,cr hS.wf])|(refine PU.b1 rfl ?_)|(refine PU.b2 rfl ?_)|(refine PU.b3 rfl ?_)|(refine PU.b4 rfl ?_)|(refine PU.b5 rfl ?_)|(refine PU.b6 rfl ?_)|(refine PU.b7 rfl ?_)|(refine PU.b8 rfl ?_)|(refine PU.b9 rfl ?_)|(refine hS.FO ?_)|(refine hS.iW ?_)|(refine hS.TJ ?_)|(refine hS.VJ ?_)|(refine hS.qR fun Hn hS=>?_)|(refine hS.VL fun Hn hS=>?_)|(refine MQ (by simp only[az,av (Ext.refl (hN _))];rfl) ?_))
  refine aj.mono (doWrongE (MG _) (hb.ex hS.ext).hN (hn.ex hS.ext).hN k hf (by omega) t (by omega) hno) ?_
  rintro v5 H6 ⟨rfl,hx6⟩
  have hS:=hS.MH hx6
  repeat(first|(simp only[PP,Nat.reduceBEq,cr hS.wf])|(refine PU.b1 rfl ?_)|(refine PU.b2 rfl ?_)|(refine PU.b3 rfl ?_)|(refine PU.b4 rfl ?_)|(refine PU.b5 rfl ?_)|(refine PU.b6 rfl ?_)|(refine PU.b7 rfl ?_)|(refine PU.b8 rfl ?_)|(refine PU.b9 rfl ?_)|(refine hS.FO ?_)|(refine hS.iW ?_)|(refine hS.TJ ?_)|(refine hS.VJ ?_)|(refine hS.qR fun Hn hS=>?_)|(refine hS.VL fun Hn hS=>?_)|(refine MQ (by simp only[az,av (Ext.refl (hN _))];rfl) ?_))
  refine aj.ZX (v:=.bool true) (H':=hN (hM (hM (hM H3 H4) H5) H6)) (MR (H:=hN (hM (hM (hM H3 H4) H5) H6)) (by have h:l7 (hM (hM (hM H3 H4) H5) H6):=hT.ex hS.ext;exact h)) ?_
  repeat(first|(simp only[PP,Nat.reduceBEq,cr hS.wf])|(refine PU.b1 rfl ?_)|(refine PU.b2 rfl ?_)|(refine PU.b3 rfl ?_)|(refine PU.b4 rfl ?_)|(refine PU.b5 rfl ?_)|(refine PU.b6 rfl ?_)|(refine PU.b7 rfl ?_)|(refine PU.b8 rfl ?_)|(refine PU.b9 rfl ?_)|(refine hS.FO ?_)|(refine hS.iW ?_)|(refine hS.TJ ?_)|(refine hS.VJ ?_)|(refine hS.qR fun Hn hS=>?_)|(refine hS.VL fun Hn hS=>?_)|(refine MQ (by simp only[az,av (Ext.refl (hN _))];rfl) ?_))
  refine⟨aK (by simp only[az,av hx4,av hx5,av hx6,av (Ext.refl _)];rfl),?_⟩
  refine rr ?_
  exact⟨rfl,hS.ext⟩
 ·have hb1:b=true:=by
   cases b with
   |true=>rfl
   |false=>cases hbt
  have hok:=hbo.1 hb1
  obtain⟨hk0,hk10,_,hmo,sM,_,rs,hrs,_⟩:=id hok
  obtain⟨K,rfl⟩:∃K:Nat,k=(K:Int):=⟨k.toNat,by omega⟩
  obtain⟨ts,rfl,hts⟩:=hv1 rs hok hrs
  have htl:(tx t).length≤300:=by rw[aW];omega
  have hsz:ts.size≤3000:=by rw[←aW,hts];exact line_len hok hrs htl
  refine aj.mono (readLE hS.wf (hb.ex hS.ext) (hn.ex hS.ext) (hE.ex hS.ext) ts (by omega) K l t (by omega) hok hrs hts) ?_
  rintro v3 H4 ⟨⟨a4,c4,rfl,hf4⟩,hx4⟩
  have hS:=hS.call hx4
  have hf:=hf.ex hx4
  (try simp only[PP,Nat.reduceBEq])
  refine(SH.refl hS.wf).fE fun H5 r5 hB=>?_
  refine hB.st 0 rfl rfl (by show 0 +3≤3;omega) rfl fun H6 hB=>?_
  have hS:SH [] H H6 ((r5,24,[vn K,.slice a4 l.length c4,.string t])::(r1,24,[vn K,.slice a n c,.string t])::[]):=SH.add hS hB
  have hf4:=hf4.ex hB.ext
  have hf:=hf.ex hB.ext
  refine hS.BX 1 rfl (by show 0 +3≤3;omega) ?_
  refine aj.mono (Bc hS.wf (hb.ex hS.ext) (hn.ex hS.ext) K hf (by omega) t (by omega)) ?_
  rintro v5 H7 ⟨⟨b5,rfl,hb5⟩,hx7⟩
  have hS:=hS.call hx7
  have hf:=hf.ex hx7
  have hf4:=hf4.ex hx7
  obtain rfl:b5=true:=hb5.2 hok
  (try simp only[PP,Nat.reduceBEq])
  refine hS.ld 1 rfl rfl ?_
  (try simp only[PP,Nat.reduceBEq])
  refine hS.ld 1 rfl rfl ?_
  (try simp only[PP,Nat.reduceBEq])
  refine hS.ld 1 rfl rfl ?_
  refine aj.mono (NZ hS.wf K hf (by omega) t (by omega) ⟨hk0,hk10⟩ sM hrs) ?_
  rintro v6 H8 ⟨⟨t6,rfl,ht6⟩,hx8⟩
  have hS:=hS.call hx8
  have hf:=hf.ex hx8
  have hf4:=hf4.ex hx8
  (try simp only[PP,Nat.reduceBEq])
  refine ai (fun h=>?_) (fun h=>absurd (y_ (by rw[ht6,hts])) h)
  (try simp only[PP,Nat.reduceBEq])
  refine ai (fun h=>?_) (fun h=>absurd (by trivial) h)
  refine hS.ld 0 rfl rfl ?_
  (try simp only[PP,Nat.reduceBEq])
  refine hS.ld 1 rfl rfl ?_
  (try simp only[PP,Nat.reduceBEq])
  refine ai (fun h=>?_) (fun h=>absurd (by trivial) h)
  refine hS.ld 0 rfl rfl ?_
  (try simp only[PP,Nat.reduceBEq])
  refine hS.ld 1 rfl rfl ?_
  (try simp only[PP,Nat.reduceBEq])
  refine ai (fun h=>?_) (fun h=>absurd (by trivial) h)
  refine hS.ld 1 rfl rfl ?_
  (try simp only[PP,Nat.reduceBEq])
  refine hS.ld 0 rfl rfl ?_
  subst hll
  refine aj.mono (numbersE hS.wf hf hf4 (by omega)) ?_
  rintro v7 H9 ⟨rfl,rfl⟩
  (try simp only[PP,Nat.reduceBEq])
  refine aj.ZX (v:=.bool true) (H':=H9) (MR (hT.ex hS.ext)) ?_
  refine rr ?_
  exact⟨rfl,hS.ext⟩
end
section
open Go.Proofs.YtcpdfamjhehgiaaGreatDoor Go.Ae Go.ChangeShapes Go.WideShapes Go.ChangeAt Go.RowKit Go.Deep
theorem ints_of{H:Type}{enc:TypeId×Value→H}{W:World}{fuel:Nat}{v:Value}{d:DataW H}{p:List MemPlace}(hv:DataW.trod enc Tryz.prog W 0 (fun _=>true) true fuel 22 [v]=some (d,p)):
 ∃(a:Option Addr)(n c:Nat)(l:List Int),v=.slice a n c∧Fl (zO W T0) a n 1 (l.map vi)∧VR (rM W (zO W T0)) v v:=by
 have c3:Tryz.prog.cellsOf 3=1:=by kernel_rfl
 rcases open_slice1 Tryz.underlying22 c3 hv with⟨h1,h2⟩|⟨a,len,cap,m,n,V,D,Pl,h1,hb,hl,hm,hmm,hx,hi⟩
 ·cases h1
  exact⟨none,0,0,[],rfl,Fl.nil _ _ _,.sc _ rfl⟩
 ·cases h1
  rw[if_pos rfl]at hmm
  subst hmm
  rcases Nat.eq_zero_or_pos m with rfl|hpos
  ·obtain rfl:len=0:=by omega
   exact⟨some a,0,0,[],rfl,Fl.nil _ _ _,.jE _ _⟩
  ·obtain⟨b,off,spot⟩:=a
   have hsp:spot=none:=by
    have h3:=World.cell?_spot (hi 0 hpos).1
    simpa [Addr.add]using h3
   subst hsp
   have sM:∀i,i<m→∃z:Int,V i=vi z:=by
    intro i him
    obtain⟨z,e1,_,_⟩:=DataW.trod_int Tryz.underlying3 (hi i him).2
    simp at e1
    exact⟨z,e1⟩
   have hch:∀i,∃z:Int,i<m→V i=vi z:=fun i=>by
    by_cases h:i<m
    ·obtain⟨z,hz⟩:=sM i h;exact⟨z,fun _=>hz⟩
    ·exact⟨0,fun hh=>absurd hh h⟩
   let f:Nat→Int:=fun i=>Classical.choose (hch i)
   have hf:∀i,i<m→V i=vi (f i):=fun i=>Classical.choose_spec (hch i)
   have hcell:∀i,i<m→b<W.heap.size∧(zO W T0).cell b (off +i)=some (vi (f i)):=by
    intro i him
    have h4:=(hi i him).1
    rw[Addr.add_lit,hf i him]at h4
    exact absH_cell rfl h4 rfl
   have hbl:=(hcell 0 hpos).1
   have hml:m≤9223372036854775807:=hm
   refine⟨some ⟨b,off,none⟩,len,m,(List.range len).map f,rfl,⟨by simp,fun i x hx=>?_⟩,absH_sl hbl hml hl⟩
   rw[List.map_map,List.getElem?_map]at hx
   cases hr:(List.range len)[i]? with
   |none=>rw[hr]at hx;cases hx
   |some j=>
    rw[hr]at hx
    obtain⟨hj,rfl⟩:=List.getElem?_eq_some_iff.1 hr
    cases hx
    rw[List.getElem_range]
    rw[List.length_range]at hj
    exact⟨b,off,rfl,hbl,(hcell i (by omega)).2⟩
def ActIn(W:World)(v:Value):Prop:=∃(k:Int)(a:Option Addr)(n c:Nat)(l:List Int)(t:ByteArray),v=Us k a n c t∧Fl (zO W T0) a n 1 (l.map vi)∧VR (rM W (zO W T0)) v v
theorem act_of{H:Type}{enc:TypeId×Value→H}{W:World}{fuel:Nat}{v:Value}{d:DataW H}{p:List MemPlace}(ha:∃cs,v=.agg cs∧cs.size=Tryz.prog.cellsOf 24)(hv:DataW.trod enc Tryz.prog W 0 (fun _=>true) true fuel 24 v.cells.toList=some (d,p)):ActIn W v:=by
 obtain⟨cs,rfl,hn⟩:=ha
 have c24:Tryz.prog.cellsOf 24=3:=by kernel_rfl
 have c3:Tryz.prog.cellsOf 3=1:=by kernel_rfl
 have c22:Tryz.prog.cellsOf 22=1:=by kernel_rfl
 have c9:Tryz.prog.cellsOf 9=1:=by kernel_rfl
 rw[c24]at hn
 obtain⟨cs⟩:=cs
 match cs,hn with
 |[x,y,z],_=>
  obtain⟨ys,n,_,e,hl,hy,hf⟩:=DataW.trod_struct Tryz.underlying24 hv
  obtain⟨y0,hy0⟩:∃q,ys[0]?=some q:=⟨_,List.getElem?_eq_getElem (by rw[hy];decide)⟩
  obtain⟨y1,hy1⟩:∃q,ys[1]?=some q:=⟨_,List.getElem?_eq_getElem (by rw[hy];decide)⟩
  obtain⟨y2,hy2⟩:∃q,ys[2]?=some q:=⟨_,List.getElem?_eq_getElem (by rw[hy];decide)⟩
  have h0:=(hf 0 _ rfl).trans hy0
  have h1:=(hf 1 _ rfl).trans hy1
  have h2:=(hf 2 _ rfl).trans hy2
  have h0:DataW.trod enc Tryz.prog W 0 (fun _=>true) true n 3 (([x,y,z].drop 0).take (Tryz.prog.cellsOf 3))=some _:=h0
  have h1:DataW.trod enc Tryz.prog W 0 (fun _=>true) true n 22 (([x,y,z].drop 1).take (Tryz.prog.cellsOf 22))=some _:=h1
  have h2:DataW.trod enc Tryz.prog W 0 (fun _=>true) true n 9 (([x,y,z].drop 2).take (Tryz.prog.cellsOf 9))=some _:=h2
  rw[c3]at h0
  rw[c22]at h1
  rw[c9]at h2
  obtain⟨k,e0,_,_⟩:=DataW.trod_int Tryz.underlying3 h0
  obtain⟨t,e2,_,_⟩:=DataW.trod_string Tryz.underlying9 h2
  obtain⟨a,m,c,l,e1,hfl,X8⟩:=ints_of (v:=y) h1
  obtain rfl:x=vi k:=by simpa using e0
  obtain rfl:z=.string t:=by simpa using e2
  subst e1
  exact⟨k,a,m,c,l,t,rfl,hfl,.agg _ _ (.cons _ _ _ _ (.sc _ rfl) (.cons _ _ _ _ X8 (.cons _ _ _ _ (.sc _ rfl) .nil)))⟩
end
end Go.Proofs.Lu
