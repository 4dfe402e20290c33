/-
  Part 07 of the proof. No condition.
-/
import Derived.Test.YtcpdfamjhehgiaaGreatDoorS04
set_option linter.unusedVariables false
set_option linter.unusedSimpArgs false
set_option maxRecDepth 100000
set_option maxHeartbeats 8000000
noncomputable section
namespace Go.Ae.si
def tY(r:Nat):Prop:=r<55296∨57343<r∧r≤1114111
instance(r:Nat):Decidable (tY r):=inferInstanceAs (Decidable (_∨_))
def enc(r:Nat):List Nat:=
 if r<128 then[r]else if r<2048 then[192 +r/64,128 +r %64]
 else if r<65536 then[224 +r/4096,128 +r/64 %64,128 +r %64]
 else[240 +r/262144,128 +r/4096 %64,128 +r/64 %64,128 +r %64]
def on(c:Nat):Prop:=128≤c∧c≤191
instance(c:Nat):Decidable (on c):=inferInstanceAs (Decidable (_∧_))
def kQ(b c:Nat):Prop:=128≤c∧c≤191∧(b=224→160≤c)∧(b=237→c≤159)∧(b=240→144≤c)∧(b=244→c≤143)
instance(b c:Nat):Decidable (kQ b c):=inferInstanceAs (Decidable (_∧_))
def jM(b c d e:Nat):Option (Nat×Nat):=
 if b<128 then some (b,1)
 else if 194≤b∧b≤223∧kQ b c then some ((b -192)*64 +(c -128),2)
 else if 224≤b∧b≤239∧kQ b c∧on d then some ((b -224)*4096 +(c -128)*64 +(d -128),3)
 else if 240≤b∧b≤244∧kQ b c∧on d∧on e then some ((b -240)*262144 +(c -128)*4096 +(d -128)*64 +(e -128),4)
 else none
def dec:List Nat→Option (Nat×Nat)
 |[]=>none
 |b::l=>jM b (l.getD 0 0) (l.getD 1 0) (l.getD 2 0)
theorem oh(r:Nat):1≤(enc r).length∧(enc r).length≤4:=by
 unfold enc;split
 ·simp
 ·split
  ·simp
  ·split<;>simp
theorem l9{r:Nat}(h:tY r)(t:List Nat):dec (enc r++t)=some (r,(enc r).length):=by
 unfold tY at h
 unfold enc
 split
 ·next h1=>show jM r _ _ _=_;unfold jM;rw[if_pos h1];rfl
 ·split
  ·next h1 h2=>
   show jM (192 +r/64) (128 +r %64) _ _=_
   unfold jM kQ on
   rw[if_neg aa,if_pos aa]
   simp only[Option.some.injEq,Prod.mk.injEq,List.length_cons,List.length_nil,and_true];omega
  ·split
   ·next h1 h2 h3=>
    show jM (224 +r/4096) (128 +r/64 %64) (128 +r %64) _=_
    unfold jM kQ on
    rw[if_neg aa,if_neg aa,if_pos aa]
    simp only[Option.some.injEq,Prod.mk.injEq,List.length_cons,List.length_nil,and_true];omega
   ·next h1 h2 h3=>
    show jM (240 +r/262144) (128 +r/4096 %64) (128 +r/64 %64) (128 +r %64)=_
    unfold jM kQ on
    rw[if_neg aa,if_neg aa,if_neg aa,if_pos aa]
    simp only[Option.some.injEq,Prod.mk.injEq,List.length_cons,List.length_nil,and_true];omega
theorem rR{l:List Nat}{k:Nat}(h:0<l.getD k 0):l=l.take k++l.getD k 0::l.drop (k +1):=by
 rw[List.getD_eq_getElem?_getD]at h⊢
 cases hk:l[k]? with
 |none=>rw[hk]at h;simp at h
 |some x=>
  obtain⟨hl,e⟩:=List.getElem?_eq_some_iff.1 hk
  simp only[Option.getD_some]
  rw[←e,List.getElem_cons_drop,List.take_append_drop]
theorem xk{l:List Nat}{r n:Nat}(h:dec l=some (r,n)):tY r∧l=enc r++l.drop n∧n=(enc r).length:=by
 cases l with
 |nil=>cases h
 |cons b l=>
 replace h:jM b (l.getD 0 0) (l.getD 1 0) (l.getD 2 0)=some (r,n):=h
 generalize hc:l.getD 0 0=c at h
 generalize hd:l.getD 1 0=d at h
 generalize he:l.getD 2 0=e at h
 unfold jM kQ on at h
 split at h
 ·next h1=>
  simp only[Option.some.injEq,Prod.mk.injEq]at h
  obtain⟨rfl,rfl⟩:=h
  unfold enc tY
  rw[if_pos h1]
  exact⟨aa,rfl,rfl⟩
 ·split at h
  ·next h1 h2=>
   simp only[Option.some.injEq,Prod.mk.injEq]at h
   obtain⟨rfl,rfl⟩:=h
   have s1:=rR (l:=l) (k:=0) aa
   unfold enc tY
   rw[if_neg aa,if_pos aa]
   refine⟨aa,?_,rfl⟩
   rw[hc]at s1
   rw[show 192 +((b -192)*64 +(c -128))/64=b from by omega,show 128 +((b -192)*64 +(c -128)) %64=c from by omega]
   show b::l=b::c::l.drop 1
   conv=>lhs;rw[s1]
   rfl
  ·split at h
   ·next h1 h2 h3=>
    simp only[Option.some.injEq,Prod.mk.injEq]at h
    obtain⟨rfl,rfl⟩:=h
    have s1:=rR (l:=l) (k:=0) aa
    have s2:=rR (l:=l) (k:=1) aa
    unfold enc tY
    rw[if_neg aa,if_neg aa,if_pos aa]
    refine⟨aa,?_,rfl⟩
    rw[show 224 +((b -224)*4096 +(c -128)*64 +(d -128))/4096=b from by omega,show 128 +((b -224)*4096 +(c -128)*64 +(d -128))/64 %64=c from by omega,show 128 +((b -224)*4096 +(c -128)*64 +(d -128)) %64=d from by omega]
    match l,s1,s2 with
    |x::y::l,s1,s2=>simp at hc hd;subst hc hd;rfl
    |[x],_,s2=>simp at hd;omega
    |[],_,_=>simp at hc;omega
   ·split at h
    ·next h1 h2 h3 h4=>
     simp only[Option.some.injEq,Prod.mk.injEq]at h
     obtain⟨rfl,rfl⟩:=h
     unfold enc tY
     rw[if_neg aa,if_neg aa,if_neg aa]
     refine⟨aa,?_,rfl⟩
     rw[show 240 +((b -240)*262144 +(c -128)*4096 +(d -128)*64 +(e -128))/262144=b from by omega,show 128 +((b -240)*262144 +(c -128)*4096 +(d -128)*64 +(e -128))/4096 %64=c from by omega,show 128 +((b -240)*262144 +(c -128)*4096 +(d -128)*64 +(e -128))/64 %64=d from by omega,show 128 +((b -240)*262144 +(c -128)*4096 +(d -128)*64 +(e -128)) %64=e from by omega]
     match l with
     |x::y::z::l=>simp at hc hd he;subst hc hd he;rfl
     |[x,y]=>simp at he;omega
     |[x]=>simp at hd;omega
     |[]=>simp at hc;omega
    ·cases h
def wR(l:List Nat)(rs:List Nat):Prop:=l=rs.flatMap enc∧∀r∈rs,tY r
def Rt(l:List Nat):Prop:=∃rs,wR l rs
theorem Rt.nil:Rt []:=⟨[],rfl,fun _ h=>nomatch h⟩
theorem Rt.cons{l:List Nat}{r n:Nat}(h:dec l=some (r,n)):Rt l↔Rt (l.drop n):=by
 obtain⟨h1,h2,h3⟩:=xk h
 constructor
 ·rintro⟨rs,e,ho⟩
  cases rs with
  |nil=>rw[e]at h;cases h
  |cons r' rs=>
   have e2:l=enc r'++rs.flatMap enc:=by rw[e];rfl
   rw[e2,l9 (ho r' (List.mem_cons_self ..))]at h
   simp only[Option.some.injEq,Prod.mk.injEq]at h
   obtain⟨rfl,rfl⟩:=h
   refine⟨rs,?_,fun x hx=>ho x (List.mem_cons_of_mem _ hx)⟩
   rw[e2,List.drop_left]
 ·rintro⟨rs,e,ho⟩
  refine⟨r::rs,?_,?_⟩
  ·rw[h2,e];rfl
  ·intro x hx
   rcases List.mem_cons.1 hx with rfl|hx
   ·exact h1
   ·exact ho x hx
theorem Rt.no{l:List Nat}(h:dec l=none)(hl:l≠[]):¬Rt l:=by
 rintro⟨rs,e,ho⟩
 cases rs with
 |nil=>exact hl e
 |cons r rs=>
  rw[show l=enc r++rs.flatMap enc from by rw[e];rfl,l9 (ho r (List.mem_cons_self ..))]at h
  cases h
theorem Rt.low:∀{k:List Nat}{l:List Nat},(∀b∈k,b<128)→(Rt (k++l)↔Rt l):=by
 intro k
 induction k with
 |nil=>intro l _;exact Iff.rfl
 |cons b k ih=>
  intro l h
  have hb:b<128:=h b (List.mem_cons_self ..)
  have hd:dec (b::(k++l))=some (b,1):=by show jM b _ _ _=_;unfold jM;rw[if_pos hb]
  exact(Rt.cons hd).trans (ih fun x hx=>h x (List.mem_cons_of_mem _ hx))
def wS(n:Nat):Nat:=if n<10 then 48 +n else 87 +n
def hex(n:Nat):List Nat:=if n<16 then[wS n]else[wS (n/16),wS (n %16)]
def xm(r:Nat):List Nat:=
 if r=10 then[92,110]else if r=9 then[92,116]else if r=13 then[92,114]
 else if r=39 then[92,39]else if r=92 then[92,92]
 else if r<32∨r=127 then[92,117,123]++hex r++[125]else enc r
def quot(rs:List Nat):List Nat:=39::rs.flatMap xm++[39]
def tZ(n:Nat):List Nat:=if h:n<10 then[48 +n]else tZ (n/10)++[48 +n %10]
termination_by n
theorem rT{n:Nat}(h:n<10):tZ n=[48 +n]:=by unfold tZ;rw[dif_pos h]
theorem yV{n:Nat}(h:10≤n):tZ n=tZ (n/10)++[48 +n %10]:=by
 conv=>lhs;unfold tZ
 rw[dif_neg aa]
def gP:Nat→Nat→List Nat
 |0,_=>[]
 |k +1,n=>gP k (n/10)++[48 +n %10]
theorem NI:∀(k n:Nat),n<10^k→10^(k -1)≤n→0<k→tZ n=gP k n:=by
 intro k
 induction k with
 |zero=>intro n _ _ h;omega
 |succ k ih=>
  intro n h1 h2 _
  cases k with
  |zero=>simp only[Nat.zero_add,Nat.pow_one]at h1;rw[rT h1];simp only[gP,List.nil_append];rw[Nat.mod_eq_of_lt h1]
  |succ k=>
   have h3:10≤n:=by
    have:10^(k +1)≤n:=h2
    have h4:10≤10^(k +1):=by rw[Nat.pow_succ];have:=Nat.pow_pos (n:=k) (show 0<10 by decide);omega
    omega
   rw[yV h3]
   show _=gP (k +1) (n/10)++_
   rw[ih (n/10) (by rw[Nat.pow_succ]at h1;exact Nat.div_lt_of_lt_mul (by rw[Nat.mul_comm];exact h1)) ?_ (Nat.succ_pos _)]
   have:10^(k +1)≤n:=h2
   rw[Nat.pow_succ]at this
   exact(Nat.le_div_iff_mul_le (by decide)).2 this
theorem gI:∀(k n:Nat),(gP k n).length=k:=by
 intro k
 induction k with
 |zero=>intro n;rfl
 |succ k ih=>intro n;simp only[gP,List.length_append,List.length_cons,List.length_nil,ih]
def smalls:List Nat:=[48,48,48,49,48,50,48,51,48,52,48,53,48,54,48,55,48,56,48,57,49,48,49,49,49,50,49,51,49,52,49,53,49,54,49,55,49,56,49,57,50,48,50,49,50,50,50,51,50,52,50,53,50,54,50,55,50,56,50,57,51,48,51,49,51,50,51,51,51,52,51,53,51,54,51,55,51,56,51,57,52,48,52,49,52,50,52,51,52,52,52,53,52,54,52,55,52,56,52,57,53,48,53,49,53,50,53,51,53,52,53,53,53,54,53,55,53,56,53,57,54,48,54,49,54,50,54,51,54,52,54,53,54,54,54,55,54,56,54,57,55,48,55,49,55,50,55,51,55,52,55,53,55,54,55,55,55,56,55,57,56,48,56,49,56,50,56,51,56,52,56,53,56,54,56,55,56,56,56,57,57,48,57,49,57,50,57,51,57,52,57,53,57,54,57,55,57,56,57,57]
theorem J7:∀k,k<100→smalls[2*k]?=some (48 +k/10)∧smalls[2*k +1]?=some (48 +k %10):=by decide
theorem wm:∀b,b<32→b*78913/262144<10∧(0<b→10^(b*78913/262144)≤2^b∧2^b≤10^(b*78913/262144 +1)∧(0<b*78913/262144→10^(b*78913/262144 -1)≤2^(b -1))):=by decide
theorem J8{n b:Nat}(hb:b<32)(h0:0<b)(h1:2^(b -1)≤n)(h2:n<2^b)(h3:100≤n):
 let d:=b*78913/262144
 let k:=d +if 10^d≤n then 1 else 0
 0<k∧k≤10∧10^(k -1)≤n∧n<10^k:=by
 obtain⟨h4,h5⟩:=wm b hb
 obtain⟨h5,h6,h7⟩:=h5 h0
 intro d k
 have hd:0<d:=by
  rcases Nat.eq_zero_or_pos d with e|e
  ·exfalso
   have:2^b≤10^(d +1):=h6
   rw[e]at this
   omega
  ·exact e
 by_cases h:10^d≤n
 ·have hk:k=d +1:=by show d +(if 10^d≤n then 1 else 0)=_;rw[if_pos h]
  rw[hk]
  exact⟨aa,by have:d<10:=h4;omega,by simpa using h,Nat.lt_of_lt_of_le h2 h6⟩
 ·have hk:k=d:=by show d +(if 10^d≤n then 1 else 0)=_;rw[if_neg h];rfl
  rw[hk]
  exact⟨hd,by have:d<10:=h4;omega,Nat.le_trans (h7 hd) h1,aa⟩
theorem NJ(k n:Nat):gP (k +2) n=gP k (n/100)++[48 +n %100/10,48 +n %100 %10]:=by
 show gP k (n/10/10)++[48 +n/10 %10]++[48 +n %10]=_
 rw[Nat.div_div_eq_div_mul,List.append_assoc,show n %100/10=n/10 %10 from by omega,show n %100 %10=n %10 from by omega]
 rfl
def verbs:List (List Nat):=[[108,111,97,100],[115,101,116],[101,100,105,116],[112,114,101,102,101,114],[108,101,115,115],[114,111,119,115],[99,111,109,112,108,101,116,101],[112,97,114,115,101],[97,99,99,101,112,116],[99,108,101,97,114],[114,111,111,109]]
def rU(k:Nat):Nat:=[0,0,2,0,0,1,1,0,2,0,1].getD k 0
def nG(k:Nat):Nat:=[0,0,2,60,60,1,1,0,2,0,1].getD k 0
def ok(k:Int)(nums:List Int)(t:List Nat):Prop:=
 0≤k∧k≤10∧rU k.toNat≤nums.length∧nums.length≤nG k.toNat∧(∀n∈nums,0≤n∧n<2147483648)∧
  (2<k→t=[])∧∃rs,wR t rs∧(quot rs).length≤20000
def qV(t rs:List Nat):List Nat:=if t=[]then[45]else quot rs
def xq(k:Int)(nums:List Int)(t rs:List Nat):List (List Nat):=
 verbs.getD k.toNat []::(nums.map fun n=>tZ n.toNat)++if k≤2 then[qV t rs]else[]
def joined:List (List Nat)→List Nat
 |[]=>[]
 |w::ws=>w++ws.flatMap fun x=>32::x
def line(k:Int)(nums:List Int)(t rs:List Nat):List Nat:=joined (xq k nums t rs)
def encR(r:Nat):List Nat:=if tY r then enc r else[]
def TY(n:Nat)(l:List Nat):Nat:=
 if n=1 then l.getD 0 0
 else if n=2 then l.getD 0 0 %32*64 +l.getD 1 0 %64
 else if n=3 then(l.getD 0 0 %16*64 +l.getD 1 0 %64)*64 +l.getD 2 0 %64
 else((l.getD 0 0 %8*64 +l.getD 1 0 %64)*64 +l.getD 2 0 %64)*64 +l.getD 3 0 %64
theorem WT{l:List Nat}{r n:Nat}(h:encR r=l.take n)(hn:1≤n)(hl:n≤l.length):dec l=some (r,n):=by
 have hlen:(l.take n).length=n:=by rw[List.length_take];omega
 unfold encR at h
 split at h
 ·next ho=>
  have:=l9 ho (l.drop n)
  rw[h,List.take_append_drop,hlen]at this
  exact this
 ·rw[←h]at hlen
  simp at hlen;omega
theorem Ed{l:List Nat}{r n:Nat}(h:dec l=some (r,n)):1≤n∧n≤4∧n≤l.length∧TY n l=r∧encR r=l.take n:=by
 obtain⟨h1,h2,h3⟩:=xk h
 have h4:=oh r
 have h5:l.take n=enc r:=by rw[h2,h3,List.take_left]
 refine⟨aa,aa,?_,?_,?_⟩
 ·have:=congrArg List.length h2
  rw[List.length_append]at this;omega
 ·unfold tY at h1
  have hg:∀k,k<n→l.getD k 0=(enc r).getD k 0:=by
   intro k hk
   rw[←h5]
   simp only[List.getD_eq_getElem?_getD,List.getElem?_take,if_pos hk]
  unfold enc at hg h3
  unfold TY
  split at h3
  ·next h6=>
   replace h3:n=1:=h3
   subst h3
   rw[if_pos rfl,hg 0 (by decide),if_pos h6];rfl
  ·split at h3
   ·next h6 h7=>
    replace h3:n=2:=h3
    subst h3
    rw[if_neg (by decide),if_pos rfl,hg 0 (by decide),hg 1 (by decide),if_neg h6,if_pos h7]
    show(192 +r/64) %32*64 +(128 +r %64) %64=r
    omega
   ·split at h3
    ·next h6 h7 h8=>
     replace h3:n=3:=h3
     subst h3
     rw[if_neg (by decide),if_neg (by decide),if_pos rfl,hg 0 (by decide),hg 1 (by decide),hg 2 (by decide),if_neg h6,if_neg h7,if_pos h8]
     show((224 +r/4096) %16*64 +(128 +r/64 %64) %64)*64 +(128 +r %64) %64=r
     omega
    ·next h6 h7 h8=>
     replace h3:n=4:=h3
     subst h3
     rw[if_neg (by decide),if_neg (by decide),if_neg (by decide),hg 0 (by decide),hg 1 (by decide),hg 2 (by decide),hg 3 (by decide),if_neg h6,if_neg h7,if_neg h8]
     show(((240 +r/262144) %8*64 +(128 +r/4096 %64) %64)*64 +(128 +r/64 %64) %64)*64 +(128 +r %64) %64=r
     omega
 ·unfold encR
  rw[if_pos h1,h5]
theorem wR.uniq:∀{rs rs':List Nat}{l:List Nat},wR l rs→wR l rs'→rs=rs':=by
 intro rs
 induction rs with
 |nil=>
  intro rs' l h h'
  cases rs' with
  |nil=>rfl
  |cons r rs'=>
   exfalso
   have h1:=h.1
   have h2:=h'.1
   rw[h1]at h2
   have:=congrArg List.length h2
   have:=oh r
   simp[List.flatMap_cons]at*
   omega
 |cons r rs ih=>
  intro rs' l h h'
  have e1:dec l=some (r,(enc r).length):=by rw[h.1,List.flatMap_cons];exact l9 (h.2 r (List.mem_cons_self ..)) _
  cases rs' with
  |nil=>rw[h'.1]at e1;cases e1
  |cons r' rs'=>
   have e2:dec l=some (r',(enc r').length):=by rw[h'.1,List.flatMap_cons];exact l9 (h'.2 r' (List.mem_cons_self ..)) _
   rw[e1]at e2
   simp only[Option.some.injEq,Prod.mk.injEq]at e2
   obtain⟨rfl,_⟩:=e2
   have t1:wR (rs.flatMap enc) rs:=⟨rfl,fun x hx=>h.2 x (List.mem_cons_of_mem _ hx)⟩
   have t2:wR (rs.flatMap enc) rs':=by
    refine⟨?_,fun x hx=>h'.2 x (List.mem_cons_of_mem _ hx)⟩
    have:=h'.1
    rw[h.1,List.flatMap_cons,List.flatMap_cons]at this
    exact List.append_cancel_left this
   rw[ih t1 t2]
theorem ve{a b i:Nat}(h:b<2^i):a*2^i|||b=a*2^i +b:=by
 rw[←Nat.shiftLeft_eq,Nat.shiftLeft_add_eq_or_of_lt h]
theorem gJ{w a:Nat}(h:a<2^w):(BitVec.ofInt w (a:Int)).toNat=a:=by
 rw[BitVec.toNat_ofInt]
 have:((a:Int) %((2^w:Nat):Int))=(a:Int):=Int.emod_eq_of_lt aa (by exact_mod_cast h)
 rw[this];rfl
theorem wrap_i32{a:Nat}(h:a<2147483648):IntKind.wrap .i32 (a:Int)=(a:Int):=by
 simp[IntKind.wrap,IntKind.bits,IntKind.signed];omega
theorem t_{a:Nat}(h:a<256):IntKind.wrap .u8 (a:Int)=(a:Int):=by
 simp[IntKind.wrap,IntKind.bits,IntKind.signed];omega
theorem vg{a b:Nat}(ha:a<2147483648)(hb:b<2147483648):FJ .i32 (a:Int) (b:Int)=((a|||b:Nat):Int):=by
 unfold FJ
 rw[show(IntKind.i32).bits=32 from rfl,BitVec.toNat_or,gJ aa,gJ aa]
 exact wrap_i32 (Nat.or_lt_two_pow (n:=31) ha hb)
theorem om{a j:Nat}(ha:a<256)(hj:2^j≤256):gq .u8 (a:Int) ((2^j -1:Nat):Int)=((a %2^j:Nat):Int):=by
 have h2:0<2^j:=Nat.two_pow_pos j
 unfold gq
 rw[show(IntKind.u8).bits=8 from rfl,BitVec.toNat_and,gJ aa,gJ aa,Nat.and_two_pow_sub_one_eq_mod]
 exact t_ (Nat.lt_of_le_of_lt (Nat.mod_le _ _) ha)
theorem qC{a j:Nat}(hj:j<32)(h:a*2^j<2147483648):iV .i32 (a:Int) (j:Int)=((a*2^j:Nat):Int):=by
 unfold iV
 have e:(a:Int)*2^min ((j:Int).toNat) (IntKind.i32).bits=((a*2^j:Nat):Int):=by
  rw[Int.toNat_natCast,show min j (IntKind.i32).bits=j from Nat.min_eq_left (by show j≤32;omega)]
  push_cast;rfl
 rw[e]
 exact wrap_i32 h
theorem uf:∀c,c<256→mO.length=256∧
 ((c<128∧mO.getD c 0=240)∨((c<194∧128≤c∨245≤c)∧mO.getD c 0=241)∨(194≤c∧c≤223∧mO.getD c 0=2)∨
  (c=224∧mO.getD c 0=19)∨(225≤c∧c≤239∧c≠237∧mO.getD c 0=3)∨(c=237∧mO.getD c 0=35)∨
  (c=240∧mO.getD c 0=52)∨(241≤c∧c≤243∧mO.getD c 0=4)∨(c=244∧mO.getD c 0=68)):=by decide +kernel
end Go.Ae.si
