/-
  Part 06 of the proof. No condition.
-/
import Derived.Test.YtdkcdlnfeodaaaaGreatDoorR05
set_option linter.unusedVariables false
set_option linter.unusedSimpArgs false
set_option maxRecDepth 100000
set_option maxHeartbeats 4000000
noncomputable section
namespace Go.Proofs.Lu
open Go.Ae Go.Ae.M
variable{z:Int}
section
variable{H:ag}
def Q0(p:Value->Prop)(H:ag)(v:Value)(H':ag):Prop:=p v/\H'=H
def Q1(p:Value->ag->Prop)(H:ag)(v:Value)(H':ag):Prop:=p v H'/\Ext H H'
abbrev isB(v:Value):Prop:=∃b,v=.bool b
abbrev isP(p:Prop)(v:Value):Prop:=∃b:Bool,v=.bool b/\(b=true<->p)
theorem I9(c:Int):az Pg X 174 [.int .u8 c] H (Q0 (isP<|65<=c/\c<=90) H):=by
 refine ce [0,2] ?_;refine tl ?_
 repeat' (first|(refine aF ?_)|(refine ah (λhc=>?_) λhc=>?_)|(refine rr ?_))
 all_goals exact⟨⟨_,rfl,by simp;omega⟩,rfl⟩
theorem F8(c:Int):az Pg X 142 [.int .u8 c] H (Q0 (isP<|97<=c/\c<=122\/65<=c/\c<=90) H):=by
 refine ce [0,2] ?_;refine tl ?_
 repeat' (first|(refine aF ?_)|((refine az.mono (I9 _) ?_;rintro v H' ⟨⟨b,rfl,hb⟩,rfl⟩))|(refine ah (λhc=>?_) λhc=>?_)|(refine rr ?_))
 all_goals exact⟨⟨_,rfl,by simp[*]<;>omega⟩,rfl⟩
theorem OI(c:Int):az Pg X 175 [.int .u8 c] H (Q0 (isP<|(97<=c/\c<=122\/65<=c/\c<=90)\/48<=c/\c<=57\/c=95) H):=by
 refine ce [0,2] ?_;refine tl ?_
 repeat' (first|(refine aF ?_)|((refine az.mono (F8 _) ?_;rintro v H' ⟨⟨b,rfl,hb0⟩,rfl⟩))|(refine bO (λhb=>?_) λhb=>?_)|(refine rr ?_))
 all_goals exact⟨⟨_,rfl,by simp[*]at*<;>omega⟩,rfl⟩
theorem Fg(c:Int):az Pg X 146 [.int .u8 c] H (Q0 (λv=>∃k b,v=.tuple ⟨[vi k,.bool b]⟩/\(b=true->c=58/\k=5\/c=124/\k=6\/c=59/\k=7\/c=40/\k=8\/c=41/\k=9\/c=63/\k=10\/c=42/\k=11\/c=43/\k=12\/c=46/\k=13\/c=126/\k=14)) H):=by
 refine ce [0,2,3,4] ?_;refine tl ?_
 repeat' (first|(refine aF ?_)|(refine ah (λhc=>?_) λhc=>?_)|(refine rr ?_))
 all_goals exact⟨⟨_,_,rfl,by simp<;>omega⟩,rfl⟩
abbrev agx(s t:ByteArray)(v:Value):Prop:=∃b:Bool,v=.bool b/\(b=true<->∃r,s.data.toList=t.data.toList++r)
theorem Gy(s t:ByteArray):az Pg X 172 [.string s,.string t] H (Q0 (agx s t) H):=by
 refine ce [0,1,4] ?_;refine tl ?_;refine aF ?_;have e:(∃r,s.data.toList=t.data.toList++r)<->s.data.toList.take t.size=t.data.toList:=⟨λ⟨r,h⟩=>by rw[h];exact List.take_left' rfl,λh=>⟨s.data.toList.drop t.size,by rw[<-h,fV]⟩⟩;refine ah (λhc=>?_) λhc=>?_
 .rw[ad1 aa];refine aF ?_;refine rr ?_;refine⟨⟨_,rfl,?_⟩,rfl⟩;rw[e,pq];constructor
  .intro h;have h1:Go.Ae.part s 0 t.size=t:=h;have h2:(Go.Ae.part s 0 t.size).data.toList=t.data.toList:=by rw[h1]
   exact h2
  .intro h;obtain⟨⟨l⟩⟩:=t;show Go.Ae.part s 0 _=_;unfold Go.Ae.part;exact bW (λl=>ByteArray.mk ⟨l⟩) h
 .refine rr ?_;refine⟨⟨_,rfl,λh=>(by cases h),λ⟨r,h⟩=>absurd (bW List.length h) ?_⟩,rfl⟩;rw[ay];have h1:s.data.toList.length=s.size:=rfl;have h2:t.data.toList.length=t.size:=rfl;omega
theorem AL(s t:ByteArray):az Pg X 140 [.string s,.string t] H (Q0 (agx s t) H):=by
 refine ce [0,1,4] ?_;refine tl ?_;refine az.mono (Gy s t) ?_;rintro v H' ⟨⟨b,rfl,hb⟩,rfl⟩;refine rr ?_;exact⟨⟨_,rfl,hb⟩,rfl⟩
theorem w8(h:0<=z/\z<256):fZ .u8 z=z:=qI (by simp[IntKind.wrap,IntKind.bits,IntKind.signed];omega)
theorem w32(h:0<=z/\z<2147483648):fZ .i32 z=z:=qI (by simp[IntKind.wrap,IntKind.bits,IntKind.signed];omega)
theorem Q7(c:Nat)(hc:c<256):az Pg X 203 [.int .u8 (c:Int)] H (Q0 (λv=>∃k b,v=.tuple ⟨[.int .i32 k,.bool b]⟩/\(b=true/\(48<=c/\c<=57/\k=c-48\/97<=c/\c<=102/\k=c-87\/65<=c/\c<=70/\k=c-55)\/b=false/\¬(48<=c/\c<=57)/\¬(97<=c/\c<=102)/\¬(65<=c/\c<=70))) H):=by
 refine ce [0,2,3] ?_;refine tl ?_
 repeat' (first|(refine aF ?_)|(refine ah (λhc=>?_) λhc=>?_)|(refine tl ?_)|(refine rr ?_))
 all_goals first|exact⟨⟨_,_,rfl,.inl ⟨rfl,by rw[w8 aa,w32 aa];omega⟩⟩,rfl⟩|exact⟨⟨_,_,rfl,.inl ⟨rfl,by rw[w8 aa];(first|rw[w32 (z:=(c:Int)-97) aa]|rw[w32 (z:=(c:Int)-65) aa]);rw[w32 aa];omega⟩⟩,rfl⟩|exact⟨⟨_,_,rfl,.inr ⟨rfl,aa⟩⟩,rfl⟩
theorem I_(c:Int)(hc:0<=c):az Pg X 213 [.int .i32 c] H (Q0 (isP<|c<55296\/57343<c/\c<=1114111) H):=by
 refine ce [0,2] ?_;refine tl ?_
 repeat' (first|(refine aF ?_)|(refine ah (λhc=>?_) λhc=>?_)|(refine tl ?_)|(refine rr ?_))
 all_goals exact⟨⟨_,rfl,by simp<;>omega⟩,rfl⟩
theorem OJ(c:Int)(hc:0<=c):az Pg X 204 [.int .i32 c] H (Q0 (λv=>∃s b,v=.tuple ⟨[.string s,.bool b]⟩/\(b=true<->c<55296\/57343<c/\c<=1114111)) H):=by
 refine ce [0,2,3] ?_;refine tl ?_;refine az.mono (I_ _ hc) ?_;rintro v H' ⟨⟨b,rfl,hb0⟩,rfl⟩
 repeat' (first|(refine aF ?_)|(refine bO (λhb=>?_) λhb=>?_)|(refine rr ?_))
 all_goals exact⟨⟨_,_,rfl,by rw[<-hb0];cases b<;>simp_all⟩,rfl⟩
end
end Go.Proofs.Lu
namespace Go.Ae.AM
variable{l:List Nat}{a b j k n r w:Nat}
def Ej(r:Nat):Prop:=r<55296\/57343<r/\r<=1114111
instance(r:Nat):Decidable (Ej r):=inferInstanceAs<|Decidable<|_\/_
def enc(r:Nat):List Nat:=
 if r<128 then[r]else if r<2048 then[192+r/64,128+r %64]
 else if r<65536 then[224+r/4096,128+r/64 %64,128+r %64]
 else[240+r/262144,128+r/4096 %64,128+r/64 %64,128+r %64]
def on(c:Nat):Prop:=128<=c/\c<=191
instance(c:Nat):Decidable (on c):=inferInstanceAs<|Decidable<|_/\_
def AO(b c:Nat):Prop:=128<=c/\c<=191/\(b=224->160<=c)/\(b=237->c<=159)/\(b=240->144<=c)/\(b=244->c<=143)
instance(b c:Nat):Decidable (AO b c):=inferInstanceAs<|Decidable<|_/\_
def xq(b c d e:Nat):Option (Nat×Nat):=
 if b<128 then some (b,1)
 else if 194<=b/\b<=223/\AO b c then some ((b-192)*64+(c-128),2)
 else if 224<=b/\b<=239/\AO b c/\on d then some ((b-224)*4096+(c-128)*64+(d-128),3)
 else if 240<=b/\b<=244/\AO b c/\on d/\on e then some ((b-240)*262144+(c-128)*4096+(d-128)*64+(e-128),4)
 else none
def dec:List Nat->Option (Nat×Nat)
 |[]=>none
 |b::l=>xq b (l.getD 0 0) (l.getD 1 0)<|l.getD 2 0
theorem G7(r:Nat):1<=(enc r).length/\(enc r).length<=4:=by
 unfold enc;split
 .simp
 .split
  .simp
  .split<;>simp
theorem Em(h:Ej r)(t:List Nat):dec (enc r++t)=some (r,(enc r).length):=by
 unfold Ej at h;unfold enc;split
 .next h1=>show xq r _ _ _=_;unfold xq;rw[if_pos h1];rfl
 .split
  .next h1 h2=>
   show xq (192+r/64) (128+r %64) _ _=_;unfold xq AO on;rw[if_neg aa,if_pos aa];simp only[dZ,gz,bH,lz,pg];omega
  .split
   .next h1 h2 h3=>
    show xq (224+r/4096) (128+r/64 %64) (128+r %64) _=_;unfold xq AO on;rw[if_neg aa,if_neg aa,if_pos aa];simp only[dZ,gz,bH,lz,pg];omega
   .next h1 h2 h3=>
    show xq (240+r/262144) (128+r/4096 %64) (128+r/64 %64) (128+r %64)=_;unfold xq AO on;rw[if_neg aa,if_neg aa,if_neg aa,if_pos aa];simp only[dZ,gz,bH,lz,pg];omega
theorem C_(h:0<l.getD k 0):l=l.take k++l.getD k 0::l.drop (k+1):=by
 rw[aK]at h|-;cases hk:l[k]? with
 |none=>rw[hk]at h;simp at h
 |some x=>
  obtain⟨hl,e⟩:=aL.1 hk;simp only[kM];rw[<-e,List.getElem_cons_drop,fV]
theorem G8(h:dec l=some (r,n)):Ej r/\l=enc r++l.drop n/\n=(enc r).length:=by
 cases l with
 |nil=>cases h
 |cons b l=>
 replace h:xq b (l.getD 0 0) (l.getD 1 0) (l.getD 2 0)=some (r,n):=h;generalize hc:l.getD 0 0=c at h;generalize hd:l.getD 1 0=d at h;generalize he:l.getD 2 0=e at h;unfold xq AO on at h;split at h
 .next h1=>
  simp only[dZ,gz]at h;obtain⟨rfl,rfl⟩:=h;unfold enc Ej;rw[if_pos h1];exact⟨aa,rfl,rfl⟩
 .split at h
  .next h1 h2=>
   simp only[dZ,gz]at h;obtain⟨rfl,rfl⟩:=h;have s1:=C_ (l:=l) (k:=0) aa;unfold enc Ej;rw[if_neg aa,if_pos aa];refine⟨aa,?_,rfl⟩;rw[hc]at s1;rw[show 192+((b-192)*64+(c-128))/64=b from by omega,show 128+((b-192)*64+(c-128)) %64=c from by omega];show b::l=b::c::l.drop 1
   conv=>lhs;rw[s1]
   rfl
  .split at h
   .next h1 h2 h3=>
    simp only[dZ,gz]at h;obtain⟨rfl,rfl⟩:=h;have s1:=C_ (l:=l) (k:=0) aa;have s2:=C_ (l:=l) (k:=1) aa;unfold enc Ej;rw[if_neg aa,if_neg aa,if_pos aa];refine⟨aa,?_,rfl⟩;rw[show 224+((b-224)*4096+(c-128)*64+(d-128))/4096=b from by omega,show 128+((b-224)*4096+(c-128)*64+(d-128))/64 %64=c from by omega,show 128+((b-224)*4096+(c-128)*64+(d-128)) %64=d from by omega]
    match l,s1,s2 with
    |x::y::l,s1,s2=>simp at hc hd;subst hc hd;rfl
    |[x],_,s2=>simp at hd;omega
    |[],_,_=>simp at hc;omega
   .split at h
    .next h1 h2 h3 h4=>
     simp only[dZ,gz]at h;obtain⟨rfl,rfl⟩:=h;unfold enc Ej;rw[if_neg aa,if_neg aa,if_neg aa];refine⟨aa,?_,rfl⟩;rw[show 240+((b-240)*262144+(c-128)*4096+(d-128)*64+(e-128))/262144=b from by omega,show 128+((b-240)*262144+(c-128)*4096+(d-128)*64+(e-128))/4096 %64=c from by omega,show 128+((b-240)*262144+(c-128)*4096+(d-128)*64+(e-128))/64 %64=d from by omega,show 128+((b-240)*262144+(c-128)*4096+(d-128)*64+(e-128)) %64=e from by omega]
     match l with
     |x::y::z::l=>simp at hc hd he;subst hc hd he;rfl
     |[x,y]=>simp at he;omega
     |[x]=>simp at hd;omega
     |[]=>simp at hc;omega
    .cases h
def Txt(l:List Nat)(rs:List Nat):Prop:=l=rs.flatMap enc/\∀r∈rs,Ej r
def Rt(l:List Nat):Prop:=∃rs,Txt l rs
theorem Rt.nil:Rt []:=⟨[],rfl,λ_ h=>nomatch h⟩
theorem Rt.cons(h:dec l=some (r,n)):Rt l<->Rt (l.drop n):=by
 obtain⟨h1,h2,h3⟩:=G8 h;constructor
 .rintro⟨rs,e,ho⟩;cases rs with
  |nil=>rw[e]at h;cases h
  |cons r' rs=>
   have e2:l=enc r'++rs.flatMap enc:=by rw[e];rfl
   rw[e2,Em<|ho r'<|aD ..]at h;simp only[dZ,gz]at h;obtain⟨rfl,rfl⟩:=h;refine⟨rs,?_,λx hx=>ho x<|aT _ hx⟩;rw[e2,List.drop_left]
 .rintro⟨rs,e,ho⟩;refine⟨r::rs,?_,?_⟩
  .rw[h2,e];rfl
  .intro x hx;rcases bP.1 hx with rfl|hx
   .exact h1
   .exact ho x hx
theorem Rt.no(h:dec l=none)(hl:l≠[]):¬Rt l:=by
 rintro⟨rs,e,ho⟩;cases rs with
 |nil=>exact hl e
 |cons r rs=>
  rw[show l=enc r++rs.flatMap enc from by rw[e];rfl,Em<|ho r<|aD ..]at h;cases h
theorem Rt.low:∀{k:List Nat}{l:List Nat},(∀b∈k,b<128)->(Rt (k++l)<->Rt l):=by
 intro k
 induction k with
 |nil=>intro l _;exact Iff.rfl
 |cons b k ih=>
  intro l h;have hb:b<128:=h b<|aD ..
  have hd:dec (b::(k++l))=some (b,1):=by show xq b _ _ _=_;unfold xq;rw[if_pos hb]
  exact(Rt.cons hd).trans<|ih λx hx=>h x<|aT _ hx
def aeg(n:Nat):Nat:=if n<10 then 48+n else 87+n
def hex(n:Nat):List Nat:=if n<16 then[aeg n]else[aeg (n/16),aeg<|n %16]
def sgn(r:Nat):List Nat:=
 if r=10 then[92,110]else if r=9 then[92,116]else if r=13 then[92,114]
 else if r=39 then[92,39]else if r=92 then[92,92]
 else if r<32\/r=127 then[92,117,123]++hex r++[125]else enc r
def quot(rs:List Nat):List Nat:=39::rs.flatMap sgn++[39]
def aeh(k:Nat):Nat:=[0,0,2,0,0,1,1,0,2,0,1].getD k 0
def agy(k:Nat):Nat:=[0,0,2,60,60,1,1,0,2,0,1].getD k 0
def ok(k:Int)(nums:List Int)(t:List Nat):Prop:=
 0<=k/\k<=10/\aeh k.toNat<=nums.length/\nums.length<=agy k.toNat/\(∀n∈nums,0<=n/\n<2147483648)/\
  (2<k->t=[])/\∃rs,Txt t rs/\(quot rs).length<=20000
def encR(r:Nat):List Nat:=if Ej r then enc r else[]
def aei(n:Nat)(l:List Nat):Nat:=
 if n=1 then l.getD 0 0
 else if n=2 then l.getD 0 0 %32*64+l.getD 1 0 %64
 else if n=3 then(l.getD 0 0 %16*64+l.getD 1 0 %64)*64+l.getD 2 0 %64
 else((l.getD 0 0 %8*64+l.getD 1 0 %64)*64+l.getD 2 0 %64)*64+l.getD 3 0 %64
theorem agz(h:encR r=l.take n)(hn:1<=n)(hl:n<=l.length):dec l=some (r,n):=by
 have hlen:(l.take n).length=n:=by rw[eH];omega
 unfold encR at h;split at h
 .next ho=>
  have:=Em ho<|l.drop n;rw[h,fV,hlen]at this;exact this
 .rw[<-h]at hlen;simp at hlen;omega
theorem OK(h:dec l=some (r,n)):1<=n/\n<=4/\n<=l.length/\aei n l=r/\encR r=l.take n:=by
 obtain⟨h1,h2,h3⟩:=G8 h;have h4:=G7 r;have h5:l.take n=enc r:=by rw[h2,h3,mE]
 refine⟨aa,aa,?_,?_,?_⟩
 .have:=bW List.length h2;rw[ay]at this;omega
 .unfold Ej at h1
  have hg:∀k,k<n->l.getD k 0=(enc r).getD k 0:=by
   intro k hk;rw[<-h5];simp only[aK,eB,if_pos hk]
  unfold enc at hg h3;unfold aei;split at h3
  .next h6=>
   replace h3:n=1:=h3;subst h3;rw[if_pos rfl,hg 0<|by decide,if_pos h6];rfl
  .split at h3
   .next h6 h7=>
    replace h3:n=2:=h3;subst h3;rw[if_neg (by decide),if_pos rfl,hg 0<|by decide,hg 1<|by decide,if_neg h6,if_pos h7];show(192+r/64) %32*64+(128+r %64) %64=r;omega
   .split at h3
    .next h6 h7 h8=>
     replace h3:n=3:=h3;subst h3;rw[if_neg (by decide),if_neg<|by decide,if_pos rfl,hg 0<|by decide,hg 1<|by decide,hg 2<|by decide,if_neg h6,if_neg h7,if_pos h8];show((224+r/4096) %16*64+(128+r/64 %64) %64)*64+(128+r %64) %64=r;omega
    .next h6 h7 h8=>
     replace h3:n=4:=h3;subst h3;rw[if_neg (by decide),if_neg<|by decide,if_neg<|by decide,hg 0<|by decide,hg 1<|by decide,hg 2<|by decide,hg 3<|by decide,if_neg h6,if_neg h7,if_neg h8];show(((240+r/262144) %8*64+(128+r/4096 %64) %64)*64+(128+r/64 %64) %64)*64+(128+r %64) %64=r;omega
 .unfold encR;rw[if_pos h1,h5]
theorem Txt.uniq:∀{rs rs':List Nat}{l:List Nat},Txt l rs->Txt l rs'->rs=rs':=by
 intro rs
 induction rs with
 |nil=>
  intro rs' l h h';cases rs' with
  |nil=>rfl
  |cons r rs'=>
   exfalso;have h1:=h.1;have h2:=h'.1;rw[h1]at h2;have:=bW List.length h2;have:=G7 r;simp[jV]at*;omega
 |cons r rs ih=>
  intro rs' l h h';have e1:dec l=some (r,(enc r).length):=by rw[h.1,jV];exact Em (h.2 r<|aD ..) _
  cases rs' with
  |nil=>rw[h'.1]at e1;cases e1
  |cons r' rs'=>
   have e2:dec l=some (r',(enc r').length):=by rw[h'.1,jV];exact Em (h'.2 r'<|aD ..) _
   rw[e1]at e2;simp only[dZ,gz]at e2;obtain⟨rfl,_⟩:=e2;have t1:Txt (rs.flatMap enc) rs:=⟨rfl,λx hx=>h.2 x<|aT _ hx⟩
   have t2:Txt (rs.flatMap enc) rs':=by
    refine⟨?_,λx hx=>h'.2 x<|aT _ hx⟩;have:=h'.1;rw[h.1,jV,jV]at this;exact List.append_cancel_left this
   rw[ih t1 t2]
theorem Fh{i:Nat}(h:b<2^i):a*2^i|||b=a*2^i+b:=by
 rw[<-Nat.shiftLeft_eq,Nat.shiftLeft_add_eq_or_of_lt h]
theorem BH(h:a<2^w):(BitVec.ofInt w (a:Int)).toNat=a:=by
 rw[BitVec.toNat_ofInt];have:((a:Int) %((2^w:Nat):Int))=(a:Int):=Int.emod_eq_of_lt aa (by exact_mod_cast h);rw[this];rfl
theorem wrap_i32(h:a<2147483648):IntKind.wrap .i32 (a:Int)=(a:Int):=by
 simp[IntKind.wrap,IntKind.bits,IntKind.signed];omega
theorem OL(h:a<256):IntKind.wrap .u8 (a:Int)=(a:Int):=by
 simp[IntKind.wrap,IntKind.bits,IntKind.signed];omega
theorem Fj(ha:a<2147483648)(hb:b<2147483648):Tf .i32 (a:Int) (b:Int)=((a|||b:Nat):Int):=by
 unfold Tf;rw[show(IntKind.i32).bits=32 from rfl,BitVec.toNat_or,BH aa,BH aa];exact wrap_i32<|Nat.or_lt_two_pow (n:=31) ha hb
theorem yX(ha:a<256)(hj:2^j<=256):rO .u8 (a:Int) ((2^j-1:Nat):Int)=((a %2^j:Nat):Int):=by
 have h2:0<2^j:=Nat.two_pow_pos j;unfold rO;rw[show(IntKind.u8).bits=8 from rfl,BitVec.toNat_and,BH aa,BH aa,Nat.and_two_pow_sub_one_eq_mod];exact OL<|Nat.lt_of_le_of_lt (Nat.mod_le _ _) ha
theorem BI(hj:j<32)(h:a*2^j<2147483648):sG .i32 (a:Int) (j:Int)=((a*2^j:Nat):Int):=by
 unfold sG
 have e:(a:Int)*2^min ((j:Int).toNat) (IntKind.i32).bits=((a*2^j:Nat):Int):=by
  rw[o6,show min j (IntKind.i32).bits=j from je (by show j<=32;omega)]
  push_cast;rfl
 rw[e];exact wrap_i32 h
theorem TQ:∀c,c<256->tC.length=256/\
 ((c<128/\tC.getD c 0=240)\/((c<194/\128<=c\/245<=c)/\tC.getD c 0=241)\/(194<=c/\c<=223/\tC.getD c 0=2)\/
  (c=224/\tC.getD c 0=19)\/(225<=c/\c<=239/\c≠237/\tC.getD c 0=3)\/(c=237/\tC.getD c 0=35)\/
  (c=240/\tC.getD c 0=52)\/(241<=c/\c<=243/\tC.getD c 0=4)\/(c=244/\tC.getD c 0=68)):=by decide +kernel
end Go.Ae.AM
namespace Go.Proofs.Lu
open Go.Ae Go.Ae.M Go.Ae.AM
variable{bs cs dH:List Value}{v z:Value}{A L gb:List cz}{s:ByteArray}{H H' H0 H1:ag}{l:List Nat}{b c d k m n q r rb sz:Nat}{K Km:Value->ag->Prop}{Q:Int->Prop}{e t ty:TypeId}{a:Int}
section
def tx(s:ByteArray):List Nat:=s.data.toList.map UInt8.toNat
theorem j_(s:ByteArray):(tx s).length=s.size:=by simp[tx]
structure AP(H:ag):Prop where
 first:∀c:Nat,c<256->H.cell 1 c=some (.int .u8 ((tC.getD c 0:Nat):Int))
 rng:∀q:Nat,q<16->H.read 2 (q*2) 2=some [.int .u8 ((q8.getD (2*q) 0:Nat):Int),.int .u8 ((q8.getD (2*q+1) 0:Nat):Int)]
 lt:3<=H.next
theorem AP.ex(h:AP H)(hx:Ext H H'):AP H':=
 ⟨λi hi=>(rG (hx.obj 1 (by have:=h.lt;omega)<|by simp) _).trans<|h.first i hi,
  λi hi=>(rH (hx.obj 2 (by have:=h.lt;omega)<|by simp) _ _).trans<|h.rng i hi,
  aW h.lt hx.next⟩
abbrev Mv(s:ByteArray)(v:Value)(H':ag):Prop:=∃(r:Int)(k:Nat),v=.tuple ⟨[.int .i32 r,vn k]⟩/\k<=4/\k<=s.size/\(0<s.size->0<k)/\((∃q:Nat,r=q/\dec (tx s)=some (q,k))\/r=65533/\k<=1)
theorem xC{z:Int}(k:Nat)(hz:z=(k:Int))(h:k<s.size):XU (.string s) (.int .i64 z)=some (.int .u8 (((tx s).getD k 0:Nat):Int))/\(tx s).getD k 0<256:=by
 subst hz;have h1:k<s.data.toList.length:=by simpa using h
 have e:(tx s).getD k 0=(s.data.toList[k]).toNat:=by
  unfold tx;rw[aK,aR,ae h1];rfl
 rw[e];exact⟨abn h,UInt8.toNat_lt _⟩
theorem OM(h0:0<s.size)(h:xq ((tx s).getD 0 0) ((tx s).getD 1 0) ((tx s).getD 2 0) ((tx s).getD 3 0)=some (r,n)):dec (tx s)=some (r,n):=by
 have hl:=j_ s;generalize tx s=l at*;cases l with
 |nil=>simp at hl;omega
 |cons b l=>exact h
theorem aej:∀c:Nat,c<256->Tf .i32 (G5 .i32 (fZ .i32 (c:Int))<|Ak .i32 (sG .i32 (fZ .i32 ((240:Nat):Int)) 31) 31) (rO .i32 65533<|Ak .i32 (sG .i32 (fZ .i32 ((240:Nat):Int)) 31) 31)=(c:Int):=by decide +kernel
theorem aek:∀c:Nat,c<256->Tf .i32 (G5 .i32 (fZ .i32 (c:Int))<|Ak .i32 (sG .i32 (fZ .i32 ((241:Nat):Int)) 31) 31) (rO .i32 65533<|Ak .i32 (sG .i32 (fZ .i32 ((241:Nat):Int)) 31) 31)=65533:=by decide +kernel
theorem Y8(h0:128<=c)(h1:194<=c)(h2:c<=244)(hc:c<256):tC.getD c 0<240/\∃z q:Nat,fZ .i64 (rO .u8 ((tC.getD c 0:Nat):Int) 7)=(z:Int)/\Ak .u8 ((tC.getD c 0:Nat):Int) 4=(q:Int)/\q<16/\
 (∀d,(q8.getD (2*q) 0<=d/\d<=q8.getD (2*q+1) 0)<->AO c d)/\(z=2/\c<=223\/z=3/\224<=c/\c<=239\/z=4/\240<=c):=by
 rcases(TQ c hc).2 with⟨g,ht⟩|⟨g,ht⟩|⟨g,g',ht⟩|⟨g,ht⟩|⟨g,g',g'',ht⟩|⟨g,ht⟩|⟨g,ht⟩|⟨g,g',ht⟩|⟨g,ht⟩
 .omega
 .omega
 .rw[ht];refine⟨by decide,2,0,by decide +kernel,by decide +kernel,by decide,λd=>?_,aa⟩;rw[show q8.getD (2*0) 0=128 from by decide,show q8.getD (2*0+1) 0=191 from by decide];unfold AO;omega
 .rw[ht];refine⟨by decide,3,1,by decide +kernel,by decide +kernel,by decide,λd=>?_,aa⟩;rw[show q8.getD (2*1) 0=160 from by decide,show q8.getD (2*1+1) 0=191 from by decide];unfold AO;omega
 .by_cases e:c=240
  .omega
  rw[ht];refine⟨by decide,3,0,by decide +kernel,by decide +kernel,by decide,λd=>?_,aa⟩;rw[show q8.getD (2*0) 0=128 from by decide,show q8.getD (2*0+1) 0=191 from by decide];unfold AO;omega
 .rw[ht];refine⟨by decide,3,2,by decide +kernel,by decide +kernel,by decide,λd=>?_,aa⟩;rw[show q8.getD (2*2) 0=128 from by decide,show q8.getD (2*2+1) 0=159 from by decide];unfold AO;omega
 .rw[ht];refine⟨by decide,4,3,by decide +kernel,by decide +kernel,by decide,λd=>?_,aa⟩;rw[show q8.getD (2*3) 0=144 from by decide,show q8.getD (2*3+1) 0=191 from by decide];unfold AO;omega
 .rw[ht];refine⟨by decide,4,0,by decide +kernel,by decide +kernel,by decide,λd=>?_,aa⟩;rw[show q8.getD (2*0) 0=128 from by decide,show q8.getD (2*0+1) 0=191 from by decide];unfold AO;omega
 .rw[ht];refine⟨by decide,4,4,by decide +kernel,by decide +kernel,by decide,λd=>?_,aa⟩;rw[show q8.getD (2*4) 0=128 from by decide,show q8.getD (2*4+1) 0=143 from by decide];unfold AO;omega
theorem Y9(hc:194<=c/\c<=223)(hd:128<=d/\d<=191):Tf .i32 (sG .i32 (fZ .i32<|rO .u8 (c:Int) 31) 6) (fZ .i32<|rO .u8 (d:Int) 63)=(((c-192)*64+(d-128):Nat):Int):=by
 have e1:rO .u8 (c:Int) 31=((c %32:Nat):Int):=yX (j:=5) aa (by decide);have e2:rO .u8 (d:Int) 63=((d %64:Nat):Int):=yX (j:=6) aa (by decide);have w:∀n:Nat,n<2147483648->fZ .i32 (n:Int)=(n:Int):=λn hn=>wrap_i32 hn;rw[e1,e2,w _ aa,w _ aa];have e3:sG .i32 ((c %32:Nat):Int) 6=((c %32*2^6:Nat):Int):=BI (j:=6) aa aa;rw[e3,Fj aa aa,Fh (i:=6) aa];congr 1;omega
theorem Q8{e:Nat}(hc:224<=c/\c<=239)(hd:128<=d/\d<=191)(he:128<=e/\e<=191):
 Tf .i32 (Tf .i32 (sG .i32 (fZ .i32<|rO .u8 (c:Int) 15) 12)<|sG .i32 (fZ .i32<|rO .u8 (d:Int) 63) 6) (fZ .i32<|rO .u8 (e:Int) 63)=(((c-224)*4096+(d-128)*64+(e-128):Nat):Int):=by
 have e1:rO .u8 (c:Int) 15=((c %16:Nat):Int):=yX (j:=4) aa (by decide);have e2:rO .u8 (d:Int) 63=((d %64:Nat):Int):=yX (j:=6) aa (by decide);have e4:rO .u8 (e:Int) 63=((e %64:Nat):Int):=yX (j:=6) aa (by decide);have w:∀n:Nat,n<2147483648->fZ .i32 (n:Int)=(n:Int):=λn hn=>wrap_i32 hn;rw[e1,e2,e4,w _ aa,w _ aa,w _ aa];have e3:sG .i32 ((c %16:Nat):Int) 12=((c %16*2^12:Nat):Int):=BI (j:=12) aa aa;have e5:sG .i32 ((d %64:Nat):Int) 6=((d %64*2^6:Nat):Int):=BI (j:=6) aa aa;rw[e3,e5,Fj aa aa,Fh (i:=12) aa,Fj aa aa,show c %16*2^12+d %64*2^6=(c %16*64+d %64)*2^6 from by omega,Fh (i:=6) aa];congr 1;omega
theorem Vk{e f:Nat}(hc:240<=c/\c<=244)(hd:128<=d/\d<=191)(he:128<=e/\e<=191)(hf:128<=f/\f<=191):
 Tf .i32 (Tf .i32 (Tf .i32 (sG .i32 (fZ .i32<|rO .u8 (c:Int) 7) 18)<|sG .i32 (fZ .i32<|rO .u8 (d:Int) 63) 12)<|sG .i32 (fZ .i32<|rO .u8 (e:Int) 63) 6) (fZ .i32<|rO .u8 (f:Int) 63)=(((c-240)*262144+(d-128)*4096+(e-128)*64+(f-128):Nat):Int):=by
 have e1:rO .u8 (c:Int) 7=((c %8:Nat):Int):=yX (j:=3) aa (by decide);have e2:rO .u8 (d:Int) 63=((d %64:Nat):Int):=yX (j:=6) aa (by decide);have e4:rO .u8 (e:Int) 63=((e %64:Nat):Int):=yX (j:=6) aa (by decide);have e6:rO .u8 (f:Int) 63=((f %64:Nat):Int):=yX (j:=6) aa (by decide);have w:∀n:Nat,n<2147483648->fZ .i32 (n:Int)=(n:Int):=λn hn=>wrap_i32 hn;rw[e1,e2,e4,e6,w _ aa,w _ aa,w _ aa,w _ aa];have e3:sG .i32 ((c %8:Nat):Int) 18=((c %8*2^18:Nat):Int):=BI (j:=18) aa aa;have e5:sG .i32 ((d %64:Nat):Int) 12=((d %64*2^12:Nat):Int):=BI (j:=12) aa aa;have e7:sG .i32 ((e %64:Nat):Int) 6=((e %64*2^6:Nat):Int):=BI (j:=6) aa aa;rw[e3,e5,e7,Fj aa aa,Fh (i:=18) aa,Fj aa aa,show c %8*2^18+d %64*2^12=(c %8*64+d %64)*2^12 from by omega,Fh (i:=12) aa,Fj aa aa,show(c %8*64+d %64)*2^12+e %64*2^6=((c %8*64+d %64)*64+e %64)*2^6 from by omega,Fh (i:=6) aa];congr 1;omega
set_option maxHeartbeats 2000000 in
theorem zu(hw:Wf H)(hT:AP H)(s:ByteArray):az Pg X 202 [.string s] H (Q1 (Mv s) H):=by
 have hS:=SH.refl hw;have hlen:=j_ s;refine ce [0,2,3,4,5,6,7,8,9,10,11,12] ?_;refine tl ?_;have bad:∀{k:Nat}{H'},k<=1->k<=s.size->(0<s.size->0<k)->Ext H H'->Q1 (Mv s) H (.tuple ⟨[.int .i32 65533,vn k]⟩) H':=λh1 h2 h3 hx=>⟨⟨_,_,rfl,aa,h2,h3,.inr ⟨rfl,h1⟩⟩,hx⟩;refine aF ?_;refine ah (λh1=>?_) λh1=>?_
 .refine rr ?_;exact bad (k:=0) aa aa aa hS.ext
 have h0:0<s.size:=by omega
 obtain⟨e0,hc⟩:=xC (s:=s) (z:=0) 0 rfl h0;generalize hcd:(tx s).getD 0 0=c at e0 hc;have good:∀{z:Int}{r n:Nat}{H'},z=r->xq c ((tx s).getD 1 0) ((tx s).getD 2 0) ((tx s).getD 3 0)=some (r,n)->n<=s.size->0<n->n<=4->Ext H H'->Q1 (Mv s) H (.tuple ⟨[.int .i32 z,vn n]⟩) H':=λe h1 h2 h3 h4 hx=>⟨⟨_,_,rfl,h4,h2,λ_=>h3,.inl ⟨_,e,OM h0<|hcd.symm▸h1⟩⟩,hx⟩;simp only[e0,jO];rw[X3 hc];refine aF ?_;refine hS.E8 (by rw[bG];exact hT.first c hc) (by have:=hT.lt;omega) ?_;refine aF ?_
 by_cases hm:194<=c/\c<=244
 rotate_left
 .rcases(TQ c hc).2 with⟨g,ht⟩|⟨g,ht⟩|⟨g,g',ht⟩|⟨g,ht⟩|⟨g,g',g'',ht⟩|⟨g,ht⟩|⟨g,ht⟩|⟨g,g',ht⟩|⟨g,ht⟩
  .rw[ht,aS<|by decide];refine aF ?_;refine rr ?_;exact good (n:=1) (aej c hc) (by unfold xq;rw[if_pos g]) h0 aa aa hS.ext
  .rw[ht,aS<|by decide];refine aF ?_;refine rr ?_;have e:Tf .i32 (G5 .i32 (fZ .i32 (c:Int))<|Ak .i32 (sG .i32 (fZ .i32 ((241:Nat):Int)) 31) 31) (rO .i32 65533<|Ak .i32 (sG .i32 (fZ .i32 ((241:Nat):Int)) 31) 31)=65533:=aek c hc;exact⟨⟨_,1,rfl,aa,h0,λ_=>by omega,.inr ⟨e,aa⟩⟩,hS.ext⟩
  all_goals exact absurd aa hm
 obtain⟨hx,z,q,ez,eq,hq,hab,hz⟩:=Y8 (c:=c) aa hm.1 hm.2 hc;rw[bM aa];refine aF ?_;rw[ez,eq,X3 hq];refine aF ?_;refine hS.xZ (hT.rng q hq) (by have:=hT.lt;omega) ?_;refine hS.iI λH1 r1 hS=>?_;refine hS.st 0 rfl rfl (by simp) rfl λH2 hS=>?_;have hS:SH [] H H2 [(r1,284,[.int .u8 ((q8.getD (2*q) 0:Nat):Int),.int .u8 ((q8.getD (2*q+1) 0:Nat):Int)])]:=hS;refine aF ?_;generalize hlo:q8.getD (2*q) 0=lo at hS hab|-;generalize hhi:q8.getD (2*q+1) 0=hi at hS hab|-;refine ah (λh4=>?_) λh4=>?_
 .refine rr ?_;exact bad (k:=1) aa aa aa hS.ext
 obtain⟨e1,hd⟩:=xC (s:=s) (z:=1) 1 rfl aa;generalize aiK:(tx s).getD 1 0=d1 at e1 hd good;simp only[e1,jO];refine hS.ld 0 rfl rfl ?_;refine aF ?_;refine ah (λh5=>?_) λh5=>?_
 .refine rr ?_;exact bad (k:=1) aa aa aa hS.ext
 refine hS.ld 0 rfl rfl ?_;refine aF ?_;refine ah (λh6=>?_) λh6=>?_
 .refine rr ?_;exact bad (k:=1) aa aa aa hS.ext
 have hs2:AO c d1:=(hab d1).1 aa;have hr1:128<=d1/\d1<=191:=⟨hs2.1,hs2.2.1⟩;refine tl ?_;refine aF ?_;refine ah (λh7=>?_) λh7=>?_
 .refine rr ?_;exact good (n:=2) (Y9 aa hr1) (by unfold xq;rw[if_neg aa,if_pos ⟨aa,aa,hs2⟩]) aa aa aa hS.ext
 obtain⟨e2,hd2⟩:=xC (s:=s) (z:=2) 2 rfl aa;generalize aiL:(tx s).getD 2 0=d2 at e2 hd2 good;simp only[e2];refine aF ?_;refine ah (λh8=>?_) λh8=>?_
 .refine rr ?_;exact bad (k:=1) aa aa aa hS.ext
 refine ah (λh9=>?_) λh9=>?_
 .refine rr ?_;exact bad (k:=1) aa aa aa hS.ext
 have hr2:on d2:=by unfold on;omega
 refine tl ?_;refine aF ?_;refine ah (λh10=>?_) λh10=>?_
 .refine rr ?_;exact good (n:=3) (Q8 aa hr1 hr2) (by unfold xq;rw[if_neg aa,if_neg aa,if_pos ⟨aa,aa,hs2,hr2⟩]) aa aa aa hS.ext
 obtain⟨e3,hd3⟩:=xC (s:=s) (z:=3) 3 rfl aa;generalize aiM:(tx s).getD 3 0=d3 at e3 hd3 good;simp only[e3];refine aF ?_;refine ah (λh11=>?_) λh11=>?_
 .refine rr ?_;exact bad (k:=1) aa aa aa hS.ext
 refine ah (λh12=>?_) λh12=>?_
 .refine rr ?_;exact bad (k:=1) aa aa aa hS.ext
 have hr3:on d3:=by unfold on;omega
 refine tl ?_;refine aF ?_;refine rr ?_;exact good (n:=4) (Vk aa hr1 hr2 hr3) (by unfold xq;rw[if_neg aa,if_neg aa,if_neg aa,if_pos ⟨aa,aa,hs2,hr2,hr3⟩]) aa aa aa hS.ext
theorem OO(hw:Wf H)(hT:AP H)(s:ByteArray):az Pg X 192 [.string s] H (Q1 (Mv s) H):=by
 refine ce [0,2,3] ?_;refine tl ?_;refine aF ?_;refine bq (λh1=>?_) λh1=>?_
 .have hs:0<s.size:=by
   rcases fq s.size with h|h
   .exfalso;apply h1;obtain⟨⟨l⟩⟩:=s;have:l.length=0:=h;rw[bK]at this;subst this;rfl
   .exact h
  obtain⟨e0,hc⟩:=xC (s:=s) (z:=0) 0 rfl hs;simp only[e0];refine aF ?_;refine tl ?_;refine aF ?_;refine ah (λh2=>?_) λh2=>?_
  .simp only[e0];refine aF ?_;refine rr ?_;exact⟨⟨_,1,rfl,aa,hs,λh=>by omega,.inl ⟨_,wrap_i32 aa,OM hs (by unfold xq;rw[if_pos aa])⟩⟩,Ext.refl _⟩
  .refine az.mono (zu hw hT s) ?_;rintro v H' ⟨⟨r,k,rfl,hk⟩,hx⟩;simp only[ad2];refine aF ?_;refine tl ?_;refine rr ?_;exact⟨⟨_,k,rfl,hk⟩,hx⟩
 .refine tl ?_;refine aF ?_;refine az.mono (zu hw hT s) ?_;rintro v H' ⟨⟨r,k,rfl,hk⟩,hx⟩;refine aF ?_;refine tl ?_;refine rr ?_;exact⟨⟨_,k,rfl,hk⟩,hx⟩
end
section
open Go.Ae Go.Ae.M
def isByte(v:Value):Prop:=∃n:Nat,n<=255/\v=.int .u8 (n:Int)
theorem wrap_u8(n:Int):∃m:Nat,m<=255/\IntKind.wrap .u8 n=(m:Int):=by
 refine⟨(n %256).toNat,aa,?_⟩;show n %(2^8:Int)=_;have:(2:Int)^8=256:=by decide
 rw[this];omega
theorem OP(n:Int):isByte (.int .u8<|fZ .u8 n):=by
 have:fZ .u8 n=IntKind.wrap .u8 n:=by cases n<;>rfl
 rw[this];obtain⟨m,h1,h2⟩:=wrap_u8 n;exact⟨m,h1,by rw[h2]⟩
theorem Fp(a b:Int):isByte (.int .u8<|Tf .u8 a b):=by obtain⟨m,h1,h2⟩:=wrap_u8<|BitVec.toNat<|BitVec.ofInt (IntKind.u8).bits a|||BitVec.ofInt (IntKind.u8).bits b;exact⟨m,h1,by unfold Tf;rw[h2]⟩
theorem Da(n:Nat)(h:n<=255):isByte (.int .u8 (n:Int)):=⟨n,h,rfl⟩
theorem Y_(cs:List Value)(h:∀x∈cs,isByte x):∃bs,om cs=some bs/\bs.length=cs.length:=by
 induction cs with
 |nil=>exact⟨[],rfl,rfl⟩
 |cons x cs ih=>
  obtain⟨bs,h1,h2⟩:=ih λy hy=>h y<|aT _ hy;obtain⟨n,hn,rfl⟩:=h x<|aD ..
  refine⟨UInt8.ofNat n::bs,?_,by simp[h2]⟩;show(ax (some (IntKind.u8,(n:Int))) λp=>ax (Hq p.2) λn=>gd (Gp p.1&&Nat.ble n 255)<|ax (om cs) λbs=>some<|UInt8.ofNat n::bs)=_;rw[h1];show gd (Nat.ble n 255) _=_;rw[av hn];rfl
theorem Q9:∀{cs:List Value}{l:List UInt8},om cs=some l->l.length=cs.length:=by
 intro cs
 induction cs with
 |nil=>intro l h;cases h;rfl
 |cons x cs ih=>
  intro l h;replace h:(ax (pF x) λp=>ax (Hq p.2) λn=>gd (Gp p.1&&Nat.ble n 255)<|ax (om cs) λbs=>some<|UInt8.ofNat n::bs)=some l:=h;obtain⟨p,_,h⟩:=ak h;obtain⟨n,_,h⟩:=ak h;obtain⟨_,h⟩:=dh h;obtain⟨bs,h1,h⟩:=ak h;cases h;simp[ih h1]
theorem TR(cs:List Value)(h:∀x∈cs,isByte x):all' dK cs=true:=by
 rw[all_eq,bU];intro x hx;obtain⟨n,_,rfl⟩:=h x hx;rfl
section lit
variable{k:IntKind}{b c d:Int}
theorem adb:bS e [z] 1 1 [(0,.int k a)] H=some (.slice (some ⟨H.next,0,none⟩) 1 1,H.new<|rowOf e [.int k a]):=rfl
theorem ade:bS e [z] 1 2 [(0,.int k a),(1,.int k b)] H=some (.slice (some ⟨H.next,0,none⟩) 2 2,H.new<|rowOf e [.int k a,.int k b]):=rfl
theorem Za:bS e [z] 1 3 [(0,.int k a),(1,.int k b),(2,.int k c)] H=some (.slice (some ⟨H.next,0,none⟩) 3 3,H.new<|rowOf e [.int k a,.int k b,.int k c]):=rfl
theorem adf:bS e [z] 1 4 [(0,.int k a),(1,.int k b),(2,.int k c),(3,.int k d)] H=some (.slice (some ⟨H.next,0,none⟩) 4 4,H.new<|rowOf e [.int k a,.int k b,.int k c,.int k d]):=rfl
end lit
def OQ(H0:ag)(L:List cz)(bs:List Value)(v':Value)(H':ag):Prop:=∃xs gY,GB 5 1 v' (bs++xs) gY/\SH [] H0 H' (gY++L)/\(∀x∈xs,isByte x)/\xs.length<=4/\0<xs.length
theorem AQ(hg:GB 5 1 v bs gb)(hS:SH [] H0 H<|gb++L)(hl:bs.length<=10000000){xs:List Value}(hxs:xs.length=m+1)(hm:m<=3)(hb:∀x∈xs,isByte x)(k:∀v' H',OQ H0 L bs v' H'->K v' H'):ME (Bz 5 1 v (.slice (some ⟨H.next,0,none⟩) (m+1)<|m+1)<|H.new<|rowOf 5 xs) K:=by
 have hS2:=hS.grow 5 xs;obtain⟨v',H1,gY,h1,h2,h3,_⟩:=hg.app (m:=m) (cx:=m+1) hS2 aa aa (TR xs hb) aa aa;rw[h1];exact k v' H1 ⟨xs,gY,h2,h3,hb,aa,aa⟩
set_option maxHeartbeats 1000000 in
theorem Ja(hg:GB 5 1 v bs gb)(hS:SH [] H0 H<|gb++L)(hl:bs.length<=10000000)(r:Int):
 az Pg X 206 [v,.int .i32 r] H (OQ H0 L bs):=by
 refine ce [0,1,4,5] ?_;refine tl ?_;refine aF ?_;refine ah (λh1=>?_) λh1=>?_
 .refine ME.of ade ?_;refine AQ hg hS hl (m:=1) rfl aa (by intro x hx;simp at hx;rcases hx with rfl|rfl<;>exact Fp _ _) λv' H' h=>?_;refine rr ?_;exact h
 .have fin:∀c rg,BA rg 25=.bool c->dJ Pg X (sub lY [1,1,0,1,1,1]) (lS v (.int .i32 r) (.slice none 0 0) (.int .u32<|fZ .u32 r) rg H) (j3 0<|f_ Pg [.tmp 4]<|OQ H0 L bs):=by
   intro c rg hc;refine tl ?_;rw[hc];refine aF ?_;refine bO (λh2=>?_) λh2=>?_
   .refine ME.of Za ?_;refine AQ hg hS hl (m:=2) rfl aa (by intro x hx;simp at hx;rcases hx with rfl|rfl|rfl<;>exact Fp _ _) λv' H' h=>?_;refine rr ?_;exact h
   .have sU:∀c rg,BA rg 50=.bool c->dJ Pg X (sub lY [1,1,0,1,1,1,1,1]) (lS v (.int .i32 r) (.slice none 0 0) (.int .u32<|fZ .u32 r) rg H) (j3 0<|f_ Pg [.tmp 4]<|OQ H0 L bs):=by
     intro c rg hc;refine tl ?_;rw[hc];refine aF ?_;refine bO (λh2=>?_) λh2=>?_
     .refine ME.of adf ?_;refine AQ hg hS hl (m:=3) rfl aa (by intro x hx;simp at hx;rcases hx with rfl|rfl|rfl|rfl<;>exact Fp _ _) λv' H' h=>?_;refine rr ?_;exact h
     .refine ME.of Za ?_;refine AQ hg hS hl (m:=2) rfl aa (by intro x hx;simp at hx;rcases hx with rfl|rfl|rfl<;>first|exact Da 239 aa|exact Da 191 aa|exact Da 189 aa) λv' H' h=>?_;refine rr ?_;exact h
    refine ah (λh3=>?_) λh3=>?_
    .exact sU _ _ (by simp only[uC,yP];rfl)
    .exact sU _ _ (by simp only[uC,yP];rfl)
  refine ah (λh2=>?_) λh2=>?_
  .exact fin _ _ (by simp only[uC,yP];rfl)
  .refine ah (λh3=>?_) (λh3=>?_)
   .exact fin _ _ (by simp only[uC,yP];rfl)
   .exact fin _ _ (by simp only[uC,yP];rfl)
theorem Gz(hg:GB 5 1 v bs gb)(hS:SH [] H0 H<|gb++L)(hl:bs.length<=10000000)(r:Int):
 az Pg X 195 [v,.int .i32 r] H (OQ H0 L bs):=by
 refine ce [0,1,4] ?_;refine tl ?_;refine aF ?_;refine ah (λh1=>?_) λh1=>?_
 .refine ME.of adb ?_;refine AQ hg hS hl (m:=0) rfl aa (by intro x hx;simp at hx;rcases hx with rfl;exact OP _) λv' H' h=>?_;refine rr ?_;exact h
 .refine az.mono (Ja hg hS hl r) λv' H' h=>?_;refine rr ?_;exact h
abbrev bu(rb:Nat)(p:Option Addr)(v:Value):cz:=(rb,240,[.pointer p,v])
theorem OT(t:TypeId)(ox:Operand)(op:BinOp)(a:Addr)(ht:EG Pg t=1)(hop:wF op=1):jb Pg op t ox (.const<|.pointer none) (.pointer<|some a) (.pointer none)=some (.bool false):=by
 show Cc op (aeq Pg t ox (.const<|.pointer none) (.pointer<|some a)<|.pointer none)=_;show Cc op (J' (EG Pg t) (.pointer none)<|.pointer<|some a)=_;rw[ht];show aU (Nat.beq (wF op) 1) _ _=_;rw[hop];rfl
theorem Mw(t:TypeId)(ox:Operand)(op:BinOp)(ht:EG Pg t=1)(hop:wF op=1):jb Pg op t ox (.const<|.pointer none) (.pointer none) (.pointer none)=some (.bool true):=by
 show Cc op (J' (EG Pg t) (.pointer none)<|.pointer none)=_;rw[ht];show aU (Nat.beq (wF op) 1) _ _=_;rw[hop];rfl
theorem JW(x:Value):az Pg X 205 [x] H (Q0 (λv=>v=x) H):=by
 refine⟨x,H,⟨1,?_⟩,rfl,rfl⟩;rfl
theorem ET{P:Program}{ty s e:Nat}(hb:Bk H r ty cs)(h:0<cs.length)(hq:Wu P s d=some (3,e,0))(hs:rZ P e=some sz)(h1:1<=sz):
 qw P s d (.pointer<|some ⟨r,0,none⟩) H=some (.pointer<|some ⟨r,0,none⟩,H):=by
 obtain⟨R,e1,_,e2,_⟩:=hb;unfold qw;rw[hq];show(ax (rZ P e) λs=>ax (rX<|H.obj r) λw=>gd (Nat.ble 1 s&&Nat.ble 1 w.n)<|some (Value.pointer<|some ⟨r,0,none⟩,H))=_;rw[hs,e1];show gd (Nat.ble 1 sz&&Nat.ble 1 R.n) _=_;rw[e2,av h1,av h];rfl
theorem EU{P:Program}{ty s:Nat}(hb:Bk H r ty cs)(hq:Wu P s d=some (4,ty,0))(hs:rZ P ty=some sz)(h1:1<=sz)(h:sz<=cs.length):
 qw P s d (.pointer<|some ⟨r,0,none⟩) H=some (.pointer<|some ⟨r,0,none⟩,H):=by
 obtain⟨R,e1,e3,e2,_⟩:=hb;unfold qw;rw[hq];show(ax (rZ P ty) λs=>ax (rX<|H.obj r) λw=>gd (Nat.ble 1 s&&Nat.beq w.ty ty&&Nat.beq 0 0&&Nat.ble s w.n)<|some (Value.pointer<|some ⟨r,0,none⟩,H))=_;rw[hs,e1];show gd (Nat.ble 1 sz&&Nat.beq R.ty ty&&Nat.beq 0 0&&Nat.ble sz R.n) _=_;rw[e2,e3,av h1,av h,bC];rfl
theorem CV.me{o:Option Value}{q:Option (Value×ag)}{Kp:Value->Prop}(ho:o=none)(hq:q=some (v,H1))(k:Km v H1):CV o q Kp Km:=by rw[ho,hq];exact k
theorem Zb(t:TypeId)(i j:Nat)(r:Nat)(ht:EH Pg t=true):jb Pg .neq t (.tmp i) (.tmp j) (.pointer<|some ⟨r,0,none⟩) (.pointer<|some ⟨r,0,none⟩)=some (.bool false):=by
 show Cc .neq (aU (EH Pg t) (Go.Ae.ptrEq (.pointer<|some ⟨r,0,none⟩)<|.pointer<|some ⟨r,0,none⟩) _)=_;rw[ht];show Cc .neq (gd (Nat.beq r r)<|some<|Nat.beq 0 0)=_;rw[bC];rfl
theorem Jb{p:Option Addr}(hp:p=none\/p=some ⟨rb,0,none⟩)(hS:SH [] H0 H<|bu rb p v::L):
 az Pg X 194 [.pointer (some ⟨rb,0,none⟩)] H λw H'=>SH [] H0 H' (bu rb (some ⟨rb,0,none⟩) v::L):=by
 refine ce [0] ?_;refine tl ?_;refine aF ?_;refine hS.ld 0 rfl rfl ?_;rcases hp with rfl|rfl
 .rw[Mw _ _ _ (by kernel_rfl) rfl];refine aF ?_;refine CV.me (by kernel_rfl) (ET (sz:=2) (e:=240) (hS.get 0 rfl) (Nat.succ_pos _) (by kernel_rfl) (by kernel_rfl) aa) ?_;refine az.mono (JW _) ?_;rintro w H' ⟨rfl,rfl⟩;refine CV.me (by kernel_rfl) (EU (sz:=2) (hS.get 0 rfl) (by kernel_rfl) (by kernel_rfl) aa<|aj _) ?_;refine hS.st 0 rfl rfl (by show 0+1<=2;omega) rfl λH1 hS=>?_;refine rn ?_;exact hS
 .rw[OT _ _ _ _ (by kernel_rfl) rfl];refine aF ?_;refine hS.ld 0 rfl rfl ?_;rw[Zb _ _ _ _ (by kernel_rfl)];refine aF ?_;refine rn ?_;exact hS
def GA(rb:Nat)(bs:List Value)(A:List cz):Prop:=∃p v gb,(p=none\/p=some ⟨rb,0,none⟩)/\GB 5 1 v bs gb/\A=bu rb p v::gb/\(∀x∈bs,isByte x)/\(bs=[]->v=.slice none 0 0)
theorem AR(hb:GA rb bs A)(hS:SH [] H0 H<|A++L)(hl:bs.length<=1000000)(r:Int):
 az Pg X 179 [.pointer (some ⟨rb,0,none⟩),.int .i32 r] H λw H'=>(∃x y,w=.tuple ⟨[x,y]⟩)/\∃xs A',GA rb (bs++xs) A'/\xs.length<=4/\SH [] H0 H' (A'++L):=by
 obtain⟨p,v,gb,hp,hg,rfl,hby,_⟩:=hb;refine ce [0,1,4,5,6] ?_;refine tl ?_;refine az.mono (Jb (L:=gb++L) hp hS) ?_;intro w H1 hS;obtain⟨a,n,c,rfl,hn,_⟩:=hg.fl<|SH.drop (A:=[bu rb (some ⟨rb,0,none⟩) v]) hS;refine aF ?_;refine hS.ld 0 rfl rfl ?_;refine aF ?_;refine hS.ld 0 rfl rfl ?_;have hS2:SH [] H0 H1 (gb++(bu rb (some ⟨rb,0,none⟩) (.slice a n c)::L)):=hS.perm jE.symm;refine az.mono (Gz hg hS2 aa r) ?_;rintro v' H2 ⟨xs,gY,hg',tu,hxs,hxl,hx0⟩;have vY:SH [] H0 H2 (bu rb (some ⟨rb,0,none⟩) (.slice a n c)::(gY++L)):=tu.perm jE;refine vY.st 0 rfl hg'.dK.2.1 (by show 1+1<=2;omega) hg'.dK.1 λH3 hS5=>?_;have hS5:SH [] H0 H3 (bu rb (some ⟨rb,0,none⟩) v'::(gY++L)):=by rw[hg'.dK.2.2]at hS5;exact hS5
 refine hS5.ld 0 rfl rfl ?_;obtain⟨a',n',c',rfl,hn',_⟩:=hg'.fl<|SH.drop (A:=[bu rb (some ⟨rb,0,none⟩) _]) hS5;have hnl:n'=n+xs.length:=by rw[ay]at hn';omega
 refine aF ?_;rw[nM aa aa];refine aF ?_;refine rr ?_;refine⟨⟨_,_,rfl⟩,xs,_,⟨_,_,gY,.inr rfl,hg',rfl,?_,λh=>?_⟩,hxl,hS5⟩;rotate_left
 .rw[List.append_eq_nil_iff]at h;rw[h.2]at hx0;exact absurd hx0 (by simp)
 intro x hx;rcases bX.1 hx with h|h
 .exact hby x h
 .exact hxs x h
theorem En(hb:Bk H r 5<|bs++dH)(hr:r<H.next)(hby:∀x∈bs,isByte x)(hn:bs.length=n+1)(hm:n+1<=16777216):
 ∃s H',ug Pg [226,3] [.pointer (some ⟨r,0,none⟩),vn<|n+1] H=some (.string s,H')/\om bs=some s.data.toList/\qU [r] H H'/\H'.low<=r:=by
 obtain⟨R,h1,h2,h3,h4,h5,h6⟩:=hb;obtain⟨l,e1,e2⟩:=Y_ bs hby
 have ht:Tr.Cu top R.cells 0 (n+1)=bs:=by
  rw[XW (k:=0) R.cells (bs++dH) (by simp;omega) h6];simp only[iR];rw[<-hn,mE]
 have hq:ug Pg [226,3] [.pointer (some ⟨r,0,none⟩),vn<|n+1] H=Si Pg 226 ⟨r,0,none⟩ (n+1) H:=rfl
 have hu:Si Pg 226 ⟨r,0,none⟩ (n+1) H=ax (rX<|H.obj r) λw=>gd (Fw Pg 5&&Nat.beq w.ty 5&&Nat.beq 1 1&&Nat.ble (Nat.add 0<|n+1) w.n&&Nat.ble (n+1) 16777216)
  (ax (om<|Tr.Cu top w.cells 0<|n+1) λbs=>some (.string ⟨⟨bs⟩⟩,H.put r<|.row ⟨w.ty,w.cells,w.n,w.ja,aU (Nat.ble w.fz<|Nat.add 0<|n+1) (Nat.add 0<|n+1) w.fz⟩)):=by kernel_rfl
 rw[hq,hu,h1];refine⟨⟨⟨l⟩⟩,H.put r<|.row ⟨R.ty,R.cells,R.n,R.ja,aU (Nat.ble R.fz<|Nat.add 0<|n+1) (Nat.add 0<|n+1) R.fz⟩,?_,e1,qU.put _ _ _,by rw[sD];omega⟩;show gd (Fw Pg 5&&Nat.beq R.ty 5&&Nat.beq 1 1&&Nat.ble (Nat.add 0<|n+1) R.n&&Nat.ble (n+1) 16777216) (ax (om<|Tr.Cu top R.cells 0<|n+1) _)=_;rw[ht,e1,h2,h3,show Fw Pg 5=true by kernel_rfl,av hm,av (show Nat.add 0 (n+1)<=(bs++dH).length by show 0+(n+1)<=_;simp;omega)];rfl
theorem OU(hb:GA rb bs A)(hS:SH [] H0 H<|A++L)(hl:bs.length<=1000000):
 az Pg X 177 [.pointer (some ⟨rb,0,none⟩)] H λw H'=>(∃s,w=.string s/\om bs=some s.data.toList)/\SH [] H0 H' L:=by
 obtain⟨p,v,gb,hp,hg,rfl,hby,hnil⟩:=hb;refine ce [0,2] ?_;refine tl ?_;refine aF ?_;refine hS.BQ 0 rfl rfl ?_;simp only[eF hS.wf];rcases hg with⟨rfl,rfl,rfl⟩|⟨r,n,dH,rfl,hn,rfl⟩
 .refine ME.of (v:=.pointer none) (H:=Go.Ae.hN H) rfl ?_;simp only[eF hS.wf];refine hS.BQ 0 rfl rfl ?_;simp only[eF hS.wf];refine aF ?_;refine ME.of (v:=.string ⟨⟨[]⟩⟩) (H:=Go.Ae.hN H) (by kernel_rfl) ?_;simp only[eF hS.wf];refine⟨FK ?_,?_⟩
  .simp only[cB,dL<|Ext.refl<|hN _];rfl
  .refine rr ?_;exact⟨⟨_,rfl,rfl⟩,SH.drop (A:=[bu rb p _]) hS⟩
 .obtain⟨n,rfl⟩:∃m,n=m+1:=by
   cases n with
   |succ n=>exact⟨n,rfl⟩
   |zero=>
    have:bs=[]:=bK.1 (by simpa using hn);exact absurd (hnil this) (by simp)
  refine ME.of (v:=.pointer<|some ⟨r,0,none⟩) (H:=Go.Ae.hN H) rfl ?_;simp only[eF hS.wf];refine hS.BQ 0 rfl rfl ?_;simp only[eF hS.wf];refine aF ?_;have hb:Bk (Go.Ae.hN H) r 5 (bs++dH):=hS.get 1 rfl;have hr:=(hS.lo (r,5,bs++dH)<|by simp).2;obtain⟨s,H1,e1,e2,e3,e4⟩:=En (n:=n) hb hr hby aa aa;refine ME.of e1 ?_;have hlow:H1.low<H.next:=by omega
  simp only[cB,dL<|Ext.refl<|hN _,abo hlow];refine⟨by kernel_rfl,?_⟩;refine rr ?_;refine⟨⟨_,rfl,e2⟩,?_⟩;have hS2:SH [] H0 H ([bu rb p (.slice (some ⟨r,0,none⟩) (n+1)<|dV 1),(r,5,bs++dH)]++L):=hS;exact SH.turn (A':=[]) hS2 (e3.draw.weaken (by intro x hx;simp at hx;simp[hx])) (λe h=>nomatch h) List.Pairwise.nil
end
section
variable(l:List Nat)
abbrev at'(k:Nat):Nat:=l.getD k 0
def ws(c:Nat):Prop:=c=9\/c=10\/c=13\/c=32
def Db(c:Nat):Prop:=97<=c/\c<=122\/65<=c/\c<=90
def JX(c:Nat):Prop:=Db c\/48<=c/\c<=57\/c=95
inductive Bl:Nat->Nat->Prop
 |ws (k b:Nat):k<l.length->ws (at' l k)->Bl (k+1) b->Bl k b
 |cm (k e b:Nat):k+1<l.length->at' l k=47->at' l (k+1)=47->k<e->e<=l.length->(∀j,k<=j->j<e->at' l j≠10)->(e<l.length->at' l e=10)->Bl e b->Bl k b
 |st (k:Nat):k<=l.length->(k<l.length->¬ws (at' l k))->¬(at' l k=47/\at' l (k+1)=47)->Bl k k
def dgt(c:Nat):Option Nat:=if 48<=c/\c<=57 then some (c-48)else if 97<=c/\c<=102 then some (c-87)else if 65<=c/\c<=70 then some (c-55)else none
end
def xN:Nat->List Nat->Nat->Nat×Nat
 |0,_,v=>(v,0)
 |_+1,[],v=>(v,0)
 |n+1,c::l,v=>match dgt c with
  |some d=>let r:=xN n l<|v*16+d;(r.1,r.2+1)
  |none=>(v,0)
def Dc(c:Nat)(l:List Nat):Option (Nat×Nat):=
 if c=110 then some (10,1)else if c=116 then some (9,1)else if c=114 then some (13,1)
 else if c=92\/c=39\/c=93\/c=45\/c=94 then some (c,1)
 else if c=117/\at' l 0=123 then
  if(xN 6 (l.drop 1) 0).2≠0/\at' l ((xN 6 (l.drop 1) 0).2+1)=125/\Ej (xN 6 (l.drop 1) 0).1 then some ((xN 6 (l.drop 1) 0).1,(xN 6 (l.drop 1) 0).2+3)else none
 else none
def esc:List Nat->Option (Nat×Nat)
 |[]=>none
 |c::l=>Dc c l
section
variable(l:List Nat)
def De(k:Nat):Option (Nat×Nat):=match dec (l.drop k)with
 |some (r,n)=>if r=92 then(esc<|l.drop<|k+1).map λp=>(p.1,p.2+1)else some (r,n)
 |none=>none
inductive Li:Nat->Nat->Prop
 |fin (k:Nat):k<l.length->at' l k=39->Li k (k+1)
 |go (k r n e:Nat):k<l.length->at' l k≠39->dec (l.drop k)≠none->(∀n,dec (l.drop k)≠some (10,n))->De l k=some (r,n)->Li (k+n) e->Li k e
inductive Ce:Nat->Nat->Prop
 |fin (k:Nat):k<l.length->at' l k=93->Ce k k
 |bs (k e:Nat):k<l.length->at' l k=92->Ce (k+2) e->Ce k e
 |go (k e:Nat):k<l.length->at' l k≠93->at' l k≠92->Ce (k+1) e->Ce k e
inductive Cr:Nat->Prop
 |fin (k:Nat):l.length<=k->Cr k
 |one (k r n:Nat):k<l.length->De l k=some (r,n)->¬(k+n+1<l.length/\at' l (k+n)=45)->Cr (k+n)->Cr k
 |two (k r n q m:Nat):k<l.length->De l k=some (r,n)->k+n+1<l.length->at' l (k+n)=45->De l (k+n+1)=some (q,m)->r<=q->Cr (k+n+1+m)->Cr k
def mk1(c:Nat):Option Nat:=if c=58 then some 5 else if c=124 then some 6 else if c=59 then some 7 else if c=40 then some 8 else if c=41 then some 9 else if c=63 then some 10 else if c=42 then some 11 else if c=43 then some 12 else if c=46 then some 13 else if c=126 then some 14 else none
end
inductive One(s:ByteArray)(b:Nat):Int->ByteArray->Nat->Prop
 |nm (e:Nat):b<e->e<=s.size->e<=b+60->Db (at' (tx s) b)->(∀j,b<=j->j<e->JX (at' (tx s) j))->(e<s.size->¬JX (at' (tx s) e))->One s b (if 65<=at' (tx s) b/\at' (tx s) b<=90 then 1 else 2) (Ae.part s b e) e
 |li (e:Nat) (t:ByteArray):at' (tx s) b=39->at' (tx s) (b+1)≠39->Li (tx s) (b+1) e->One s b 3 t e
 |cl (e:Nat) (t:ByteArray):at' (tx s) b=91->Ce (tx s) (b+1) e->b+1<e->Cr (tx<|Ae.part s (b+1) e) 0->One s b 4 t (e+1)
 |ar (t:ByteArray):at' (tx s) b=45->at' (tx s) (b+1)=62->b+1<s.size->One s b 15 t (b+2)
 |mk (k:Nat) (t:ByteArray):mk1 (at' (tx s) b)=some k->One s b (k:Int) t (b+1)
inductive Lx(s:ByteArray)(K:Nat->Int)(T:Nat->ByteArray)(n:Nat):Nat->Nat->Prop
 |fin (i k:Nat):Bl (tx s) k s.size->n=i+1->K i=0->Lx s K T n i k
 |go (i k b e:Nat) (t:ByteArray):Bl (tx s) k b->b<s.size->One s b (K i) t e->(K i=1\/K i=2->T i=t)->Lx s K T n (i+1) e->Lx s K T n i k
section
theorem F9(l:List UInt8):∀x∈lH l,isByte x:=by
 intro x hx;rw[show lH l=l.map (λb=>Value.int .u8<|.ofNat b.toNat)from DC _ _]at hx;rw[aZ]at hx;obtain⟨b,_,rfl⟩:=hx;exact⟨b.toNat,by have:=b.toNat_lt;omega,rfl⟩
theorem Jc(l:List UInt8):(lH l).length=l.length:=by rw[show lH l=l.map (λb=>Value.int .u8<|.ofNat b.toNat)from DC _ _];simp
theorem SH.ael(hS:SH [] H0 H<|(r,5,cs)::L)(hn:s.size=n)(hc:cs.length=n)(k:∀H1,SH [] H0 H1 ((r,5,lH s.data.toList)::L)->K (vn n) H1):ME (cpA 1 (.slice (some ⟨r,0,none⟩) n n) (.string s) H) K:=by
 have hl:s.data.toList.length=n:=hn;have hbl:(lH s.data.toList).length=n:=by rw[Jc];exact hl
 obtain⟨H1,h1,h2,_⟩:=hS.yN (vs:=lH s.data.toList) (o:=0) 0 rfl aa<|TR _<|F9 _;rw[sF _ _ aa]at h2
 have e:cpA 1 (.slice (some ⟨r,0,none⟩) n n) (.string s) H=some (vn n,H1):=by
  show(ax (H.write r 0<|tk (Nat.mul (aU (Nat.ble (len s.data.toList) n) (len s.data.toList) n) 1)<|lH s.data.toList) λH'=>some (Value.int .i64<|.ofNat<|aU (Nat.ble (len s.data.toList) n) (len s.data.toList) n,H'))=_;rw[dG,hl,av<|aj n,lG,Fv,fO (by show _<=n*1;omega),h1];rfl
 rw[e];exact k H1 h2
theorem Zc:∀(l:List UInt8),om (lH l)=some l:=by
 intro l
 induction l with
 |nil=>rfl
 |cons b l ih=>
  show(ax (Hq<|.ofNat b.toNat) λn=>gd (Gp .u8&&Nat.ble n 255)<|ax (om<|lH l) λbs=>some<|UInt8.ofNat n::bs)=_;rw[ih];show gd (Nat.ble b.toNat 255) (some<|UInt8.ofNat b.toNat::l)=_;rw[av (by have:=b.toNat_lt;omega),yz];simp
theorem OV(hw:Wf H)(s:ByteArray)(hs:s.size<=1000000):az Pg X 121 [.string s] H (Q1 (λv _=>v=.string s) H):=by
 have hS:=SH.refl hw;refine ce [0,2,3] ?_;refine tl ?_;refine aF ?_;refine ah (λh=>?_) λh=>?_
 .refine rr ?_;refine⟨?_,Ext.refl _⟩;have h0:s.data.toList=[]:=bK.1 (show s.size=0 by omega);obtain⟨⟨l⟩⟩:=s;have h0:l=[]:=h0;subst h0;rfl
 .refine hS.mkS (aj _) aa λH1 r hS=>?_;refine SH.ael hS rfl (by rw[KC];simp) λH2 hS=>?_;obtain⟨n,hn⟩:∃n,s.size=n+1:=⟨s.size-1,aa⟩;rw[show zH 1 (.slice (some ⟨r,0,none⟩) s.size s.size) (.int .i64 0)=_ from uB (k:=0) aa];refine aF ?_;have hb:Bk H2 r 5 (lH s.data.toList++[]):=by rw[aQ];exact hS.get 0 rfl
  have hr:=(hS.lo _<|aD ..).2;obtain⟨t,H3,e1,e2,e3,e4⟩:=En (n:=n) hb hr (F9 _) (by rw[Jc];exact hn) aa;rw[hn];refine ME.of e1 ?_
  have et:t=s:=by
   rw[Zc]at e2;have e2:=bN e2;obtain⟨⟨l⟩⟩:=s;obtain⟨⟨l'⟩⟩:=t;have e2:l=l':=e2;rw[e2]
  refine rr ?_;refine⟨by rw[et],?_⟩
  exact hS.ext.later e3 (λq hq=>by
   simp at hq;subst hq;exact .inr<|hS.zN<|aD ..)
theorem Df(hw:Wf H)(s:ByteArray)(hs:s.size<=1000000):az Pg X 79 [.string s] H (Q1 (λv _=>v=.string s) H):=by
 refine ce [0,2] ?_;refine tl ?_;refine az.mono (OV hw s hs) ?_;rintro v H' ⟨rfl,hx⟩;refine rr ?_;exact⟨rfl,hx⟩
theorem Zd(c:Nat):∀(l:List UInt8)(k:Nat),vJ c l k=none/\(∀i,i<l.length->(l.map UInt8.toNat).getD i 0≠c)\/∃j,vJ c l k=some (k+j)/\j<l.length/\(l.map UInt8.toNat).getD j 0=c/\∀i,i<j->(l.map UInt8.toNat).getD i 0≠c:=by
 intro l
 induction l with
 |nil=>intro k;exact .inl ⟨rfl,λi h=>absurd h<|fI _⟩
 |cons b l ih=>
  intro k;show aU (Nat.beq b.toNat c) (some k) (vJ c l<|Nat.succ k)=none/\_\/∃j,aU (Nat.beq b.toNat c) (some k) (vJ c l<|Nat.succ k)=some (k+j)/\_;cases hb:Nat.beq b.toNat c with
  |true=>exact .inr ⟨0,rfl,Nat.succ_pos _,aB hb,λi h=>absurd h<|fI _⟩
  |false=>
   have hne:b.toNat≠c:=Nat.ne_of_beq_eq_false hb;rcases ih (Nat.succ k)with⟨h,h2⟩|⟨j,h1,h2,h3,h4⟩
   .refine .inl ⟨h,λi hi=>?_⟩;cases i with
    |zero=>exact hne
    |succ i=>exact h2 i<|p_ hi
   .refine .inr ⟨j+1,by rw[show k+(j+1)=Nat.succ k+j by omega];exact h1,Nat.succ_lt_succ h2,h3,λi hi=>?_⟩;cases i with
    |zero=>exact hne
    |succ i=>exact h4 i<|p_ hi
abbrev foundAt(s:ByteArray)(c:Nat)(v:Value):Prop:=v=vi (-1)/\(∀i,i<s.size->at' (tx s) i≠c)\/∃k:Nat,v=vn k/\k<s.size/\at' (tx s) k=c/\∀i,i<k->at' (tx s) i≠c
theorem OW(s:ByteArray)(c:Nat)(hc:c<=255):az Pg X 191 [.string s,.int .u8 (c:Int)] H (Q0 (foundAt s c) H):=by
 have e:h_ Pg X 1 191 [.string s,.int .u8 (c:Int)] H=some (Qa<|vJ c s.data.toList 0,H):=by
  have e0:h_ Pg X 1 191 [.string s,.int .u8 (c:Int)] H=ax (gd (Nat.ble c 255&&true)<|some (s,c)) λx=>some (Qa<|vJ x.2 x.1.data.toList 0,H):=by kernel_rfl
  rw[e0,av hc];rfl
 refine⟨_,H,⟨1,e⟩,?_,rfl⟩;rcases Zd c s.data.toList 0 with⟨h,h2⟩|⟨j,h,h2,h3,h4⟩
 .rw[h];exact .inl ⟨rfl,h2⟩
 .rw[h,aI];exact .inr ⟨j,rfl,h2,h3,h4⟩
theorem OX(s:ByteArray)(c:Nat)(hc:c<=255):az Pg X 173 [.string s,.int .u8 (c:Int)] H (Q0 (foundAt s c) H):=by
 refine ce [0,1,4] ?_;refine tl ?_;refine az.mono (OW s c hc) ?_;rintro v H' ⟨hv,rfl⟩;refine rr ?_;exact⟨hv,rfl⟩
theorem index_spec(s:ByteArray)(c:Nat)(hc:c<=255):az Pg X 141 [.string s,.int .u8 (c:Int)] H (Q0 (foundAt s c) H):=by
 refine ce [0,1,4] ?_;refine tl ?_;refine az.mono (OX s c hc) ?_;rintro v H' ⟨hv,rfl⟩;refine rr ?_;exact⟨hv,rfl⟩
theorem dJ.TS{P:Program}{X:Xt}{c:Code}{s:St}{K:Out->Prop}(h:dJ P X c s K):dJ P X (.seq .skip c) s K:=dJ.seq ⟨_,_,Ev.skip,yw.refl _,h⟩
abbrev abC(s:ByteArray)(k0:Nat)(v:Value):Prop:=∃k:Nat,v=vn k/\k0<=k/\k<=s.size/\Bl (tx s) k0 k
theorem Dg:findLabel (sub jA [1,0]) 0=some (.seq .skip<|sub jA [1,0,1]):=by kernel_rfl
theorem Mx(s:ByteArray){lo hi:Nat}:tx (Ae.part s lo hi)=((tx s).drop lo).take (hi-lo):=by
 unfold tx Ae.part;show((s.data.toList.drop lo).take<|hi-lo).map UInt8.toNat=_;rw[tY,List.map_drop]
theorem yY(s:ByteArray)(lo:Nat):tx (Ae.part s lo s.size)=(tx s).drop lo:=by
 rw[Mx];refine fO ?_;rw[dW,j_];exact aj _
theorem p8(l:List Nat)(k i:Nat):at' (l.drop k) i=at' l (k+i):=by simp only[at',aK,ig]
theorem My(h:at' l k≠0):k<l.length:=by
 rcases aN k l.length with h1|h1
 .exact h1
 .exact absurd (by simp only[at',aK,dS h1];rfl) h
theorem jL(h:k<s.size):XU (.string s) (vn k)=some (.int .u8 ((at' (tx s) k:Nat):Int)):=(xC k rfl h).1
theorem Ze{a b:UInt8}(hb:b.toNat≠0):(∃r,(Ae.part s k s.size).data.toList=(ByteArray.mk #[a,b]).data.toList++r)<->k+1<s.size/\at' (tx s) k=a.toNat/\at' (tx s) (k+1)=b.toNat:=by
 have e:tx (Ae.part s k s.size)=(tx s).drop k:=yY s k;have e0:=p8 (tx s) k 0;have e1:=p8 (tx s) k 1;rw[bn]at e0;rw[<-e0,<-e1,<-e];have hl:(tx s).length=s.size:=j_ s;have hl2:(tx<|Ae.part s k s.size).length=s.size-k:=by rw[e,dW,hl]
 unfold tx at hl2|-;generalize(Ae.part s k s.size).data.toList=m at hl2|-;constructor
 .rintro⟨r,rfl⟩;simp at hl2;exact⟨aa,rfl,rfl⟩
 .rintro⟨h1,h2,h3⟩
  match m,h2,h3 with
  |x::y::r,h2,h3=>
   have h2:x.toNat=a.toNat:=h2;have h3:y.toNat=b.toNat:=h3;rw[lD.1 h2,lD.1 h3];exact⟨r,rfl⟩
  |[x],_,h3=>exact absurd h3.symm hb
  |[],_,h3=>exact absurd h3.symm hb
set_option maxHeartbeats 1000000 in
theorem ym(s:ByteArray)(OY:Nat)(h0:OY<=s.size)(hs:s.size<=1000000):az Pg X 106 [.string s,vn OY] H (Q0 (abC s OY) H):=by
 have hl:=j_ s;refine ce [0,1,4,5] ?_;refine tl ?_
 let R:Nat->Nat->St->Prop:=λn l st=>l=0/\∃(k:Nat)(x5:Value)(rg:List<|Nat×Value),k+n=s.size/\OY<=k/\(∀b,Bl (tx s) k b->Bl (tx s) OY b)/\st=oD (.string s) (vn k) (.int .i64 0) x5 rg H
 have step:∀(n k:Nat)(x5:Value),k+n=s.size->OY<=k->k<s.size->(∀b,Bl (tx s) k b->Bl (tx s) OY b)->ws (at' (tx s) k)->∀xD,X5 (sub jA [1,0]) R n (f_ Pg [.tmp 4]<|Q0 (abC s OY) H) (.goto 0<|oD (.string s) (vi<|(k:Int)+1) (.int .i64 0) x5 xD H):=by
  intro n k x5 hk hat hlt hB hw xD;rw[IL Dg];exact⟨n-1,aa,rfl,k+1,x5,xD,aa,aa,λb h=>hB b<|.ws k b aa hw h,rfl⟩
 have tail:∀(n k:Nat)(x5:Value),k+n=s.size->OY<=k->(∀b,Bl (tx s) k b->Bl (tx s) OY b)->(k<s.size->¬ws (at' (tx s) k))->∀xD,dJ Pg X (sub jA [1,0,1,1]) (oD (.string s) (vn k) (.int .i64 0) x5 xD H) (X5 (sub jA [1,0]) R n<|f_ Pg [.tmp 4]<|Q0 (abC s OY) H):=by
  intro n k x5 hk hat hB hnw xD;refine tl ?_;rw[wP aa];refine aF ?_;refine az.mono (AL _ _) ?_;rintro v H' ⟨⟨b,rfl,aem⟩,rfl⟩;rw[Ze (by decide)]at aem;refine aF ?_;refine bO (λhb=>?_) λhb=>?_
  .obtain⟨g1,g2,g3⟩:=aem.1 hb;have hpt:∀i,at' (tx<|Ae.part s k s.size) i=at' (tx s) (k+i):=λi=>by rw[yY,p8]
   have hp:=mq s (lo:=k) (hi:=s.size) aa<|aj _;refine az.mono (index_spec _ 10 aa) ?_;rintro v H' ⟨hv,rfl⟩;rcases hv with⟨rfl,hno⟩|⟨j,rfl,hj,hc1,hc2⟩
   .refine aF ?_;rw[bM aa];refine aF ?_;simp only[Tg];refine rr ?_;refine⟨⟨s.size,rfl,aa,aa,hB _<|.cm k s.size _ aa g2 g3 aa aa (λi h1 h2=>?_) (λh=>by omega)<|.st _ aa (λh=>by omega) λh=>?_⟩,rfl⟩
    .have:=hno (i-k) aa
     rwa [hpt,show k+(i-k)=i by omega]at this
    .have:=My (l:=tx s) (k:=s.size) (by rw[h.1];decide);omega
   .refine aF ?_;rw[hpt]at hc1
    have hj0:j≠0:=by
     rintro rfl;rw[bn,g2]at hc1;cases hc1
    rw[aS aa];refine aF ?_;rw[dI aa aa];refine aF ?_;rw[IL Dg];refine⟨n-j,aa,rfl,k+j,vn j,_,aa,aa,λb h=>hB b<|.cm k (k+j) b aa g2 g3 aa aa (λi h1 h2=>?_) (λ_=>hc1) h,rfl⟩;have:=hc2 (i-k) aa
    rwa [hpt,show k+(i-k)=i by omega]at this
  .simp only[Tg];refine rr ?_;refine⟨⟨k,rfl,aa,aa,hB _<|.st k aa (by rw[hl];exact hnw) λ⟨h1,h2⟩=>?_⟩,rfl⟩;have:=My (l:=tx s) (k:=k+1) (by rw[h2];decide);rw[aem.2 ⟨aa,h1,h2⟩]at hb;cases hb
 have goal:∀n(k:Nat)(x5:Value)(rg:List<|Nat×Value),k+n=s.size->OY<=k->(∀b,Bl (tx s) k b->Bl (tx s) OY b)->dJ Pg X (sub jA [1,0,1]) (oD (.string s) (vn k) (.int .i64 0) x5 rg H) (X5 (sub jA [1,0]) R n<|f_ Pg [.tmp 4]<|Q0 (abC s OY) H):=by
  intro n k x5 rg hk hat hB;refine tl ?_;refine aF ?_;refine ah (λhc=>?_) λhc=>tail n k x5 hk hat hB (λh=>by omega) _;rw[jL (s:=s) (k:=k) aa];refine aF ?_;refine bO (λh1=>?_) λh1=>?_
  .rw[dI aa aa];refine aF ?_;exact step n k x5 hk hat aa hB (.inl (by have:=cZ h1;omega)) _
  refine bO (λh2=>?_) λh2=>?_
  .rw[dI aa aa];refine aF ?_;exact step n k x5 hk hat aa hB (.inr<|.inl (by have:=cZ h2;omega)) _
  refine bO (λh3=>?_) λh3=>?_
  .rw[dI aa aa];refine aF ?_;exact step n k x5 hk hat aa hB (.inr<|.inr<|.inl (by have:=cZ h3;omega)) _
  refine bO (λh4=>?_) λh4=>?_
  .rw[dI aa aa];refine aF ?_;exact step n k x5 hk hat aa hB (.inr<|.inr<|.inr (by have:=cZ h4;omega)) _
  exact tail n k x5 hk hat hB (λ_ h=>by
   have:=eD h1;have:=eD h2;have:=eD h3;have:=eD h4;unfold ws at h;omega) _
 refine dJ.scope R ?_ (s.size-OY) ?_
 .rintro n l st rest ⟨rfl,k,x5,rg,hk,hat,hB,rfl⟩ hf;rw[Dg]at hf;cases hf;exact dJ.TS<|goal n k x5 rg hk hat hB
 .have key:=goal (s.size-OY) OY top [] aa (aj _) (λ_ h=>h);exact dJ.TS key
end
theorem KS(h:a=b):vi a=vn b:=by subst h;rfl
abbrev Zf(s:ByteArray)(k:Nat)(v:Value)(H':ag):Prop:=∃(a n:Nat)(r:Int)(ok:Bool),v=.agg ⟨[vn a,vn n,.int .i32 r,.bool ok]⟩/\(k<s.size->0<n)/\k+n<=s.size/\(ok=true->∃q:Nat,r=q/\dec ((tx s).drop k)=some (q,n))
theorem TU(hw:Wf H)(hT:AP H)(s:ByteArray)(k:Nat)(hk:k<=s.size):az Pg X 176 [.string s,vn k] H (Q1 (Zf s k) H):=by
 have hS:=SH.refl hw;refine ce [0,1,4,5,6] ?_;refine tl ?_;refine hS.iI λHn r hS=>?_;refine aF ?_;rw[bM aa];refine aF ?_;refine ah (λhc=>?_) λhc=>?_
 .refine PU.b4 rfl ?_;refine hS.kJ λHn hS=>?_;refine rr ?_;refine hS.eU ?_;refine⟨⟨0,0,0,false,rfl,aa,aa,λh=>by cases h⟩,hS.ext⟩
 .refine tl ?_;rw[wP aa];refine aF ?_;refine az.mono (OO hS.wf (hT.ex hS.ext) _) ?_;rintro v H' ⟨⟨x,n,rfl,h1,h2,h3,h4⟩,hx⟩;rw[yY]at h4;have hS:=hS.call hx;have hp:=mq s hk<|aj _
  have fin:(∃q:Nat,x=q/\dec ((tx s).drop k)=some (q,n))->∀rg,dJ Pg X (sub Y4 [1,1,1,1]) (Vi (.string s) (vn k) (.pointer<|some ⟨r,0,none⟩) (.int .i32 x) (vn n) rg H') (f_ Pg [.cell 4 242]<|Q1 (Zf s k) H):=by
   intro hd rg;refine tl ?_;refine PU.b4 rfl ?_;refine hS.aY ?_;refine hS.kJ λHn hS=>?_;refine rr ?_;refine hS.eU ?_;exact⟨⟨k,n,x,true,rfl,aa,aa,λ_=>hd⟩,hS.ext⟩
  refine aF ?_;refine ah (λhc=>?_) λhc=>fin (h4.resolve_right λh=>hc h.1) _;refine ah (λhc=>?_) λhc=>fin (h4.resolve_right λh=>by omega) _;refine PU.b4 rfl ?_;refine hS.aY ?_;refine hS.kJ λHn hS=>?_;refine rr ?_;refine hS.eU ?_;exact⟨⟨k,1,65533,false,rfl,aa,aa,λh=>by cases h⟩,hS.ext⟩
abbrev Jd(s:ByteArray)(v:Value):Prop:=∃(r:Int)(n:Nat)(b:Bool),v=.tuple ⟨[.int .i32 r,vn n,.bool b]⟩/\n<=s.size/\(b=true->∃q:Nat,r=q/\esc (tx s)=some (q,n))
theorem OZ(n v:Nat)(h:l.length=0):xN n l v=(v,0):=by
 rw[bK.1 h];cases n<;>rfl
theorem KT(n v:Nat)(h:0<l.length):xN (n+1) l v=(match dgt (at' l 0)with|some d=>((xN n (l.drop 1)<|v*16+d).1,(xN n (l.drop 1)<|v*16+d).2+1)|none=>(v,0)):=by
 cases l with
 |nil=>cases h
 |cons c l=>rfl
theorem O0(s:ByteArray)(abD:at' (tx s) 0=117):az Pg X 193 [.string s] H (Q0 (Jd s) H):=by
 have hl:=j_ s;refine ce [0,2,3,4,5,6,7,8,10] ?_;refine tl ?_;have bad:Jd s (.tuple ⟨[.int .i32 0,.int .i64 0,.bool false]⟩):=⟨0,0,false,rfl,aM _,λh=>by cases h⟩;refine aF ?_;refine ah (λhc=>?_) λhc=>?_
 .refine rr ?_;exact⟨bad,rfl⟩
 rw[show XU (.string s) (.int .i64 1)=_ from jL (k:=1) aa];refine aF ?_;refine bq (λahW=>?_) λahW=>?_
 .refine rr ?_;exact⟨bad,rfl⟩
 refine tl ?_;generalize hL:(tx s).drop 2=L;have hLl:L.length=s.size-2:=by rw[<-hL,dW,hl]
 refine PV 5 6 7 8 (I:=λn x5 x6 x7 x8 H'=>H'=H/\∃r i:Nat,x5=.int .i32 (r:Int)/\x6=vn (i+2)/\i+2<=s.size/\i+n=6/\r<16^i/\xN 6 L 0=((xN n (L.drop i) r).1,(xN n (L.drop i) r).2+i)) ?_ 6 ⟨rfl,0,0,rfl,rfl,aa,aa,by decide,rfl⟩;rintro n x5 x6 x7 x8 rg H' ⟨rfl,r,i,rfl,rfl,h1,h3,h4,h5⟩
 have fin:xN n (L.drop i) r=(r,0)->∀x7 x8 rg,dJ Pg X (sub I8 [1,1,1,1]) (Gx (.string s) (.int .i32 0) (.int .i64 0) (.bool false) (.int .i32 r) (vn<|i+2) x7 x8 top rg H') (f_ Pg [.tmp 2,.tmp 3,.tmp 4]<|Q0 (Jd s) H'):=by
  intro h6 x7 x8 rg;rw[h6]at h5;refine tl ?_;refine aF ?_;refine ah (λhc=>?_) λh7=>?_
  .refine rr ?_;exact⟨bad,rfl⟩
  refine ah (λhc=>?_) λh8=>?_
  .refine rr ?_;exact⟨bad,rfl⟩
  rw[jL aa];refine aF ?_;refine bq (λhc=>?_) λh9=>?_
  .refine rr ?_;exact⟨bad,rfl⟩
  refine tl ?_;refine az.mono (OJ _ aa) ?_;rintro v H' ⟨⟨t,b,rfl,he⟩,rfl⟩;refine aF ?_;refine bO (λhb=>?_) λhb=>?_
  .refine rr ?_;exact⟨bad,rfl⟩
  rw[dI aa aa];refine aF ?_;refine rr ?_;refine⟨⟨r,i+3,true,by rw[show((i+2:Nat):Int)+1=((i+3:Nat):Int) by omega],aa,λ_=>⟨r,rfl,?_⟩⟩,rfl⟩;have he:=he.1 (by simpa using hb)
  have e:tx s=117::(tx s).drop 1:=by
   cases hs:tx s with
   |nil=>rw[hs]at abD;cases abD
   |cons c m=>rw[hs]at abD;exact bW (·::m) abD
  have e1:at' ((tx s).drop 1) 0=123:=by rw[p8];show at' (tx s) 1=123;omega
  have e2:at' ((tx s).drop 1) (i+1)=125:=by rw[p8,show 1+(i+1)=i+2 by omega];omega
  rw[e];show Dc 117 _=_;unfold Dc;rw[if_neg (by decide),if_neg<|by decide,if_neg<|by decide,if_neg<|by decide,if_pos ⟨rfl,e1⟩,iA,hL,h5];show(if 0+i≠0/\at' ((tx s).drop 1) (0+i+1)=125/\Ej r then some (r,0+i+3)else none)=_;rw[aI,if_pos ⟨aa,e2,by unfold Ej;omega⟩]
 refine tl ?_;refine aF ?_;refine ah (λhc=>?_) λhc=>fin (OZ _ _ (by rw[dW];omega)) _ _ _;refine ah (λhd=>?_) λhc=>fin (by rw[show n=0 by omega];rfl) _ _ _;obtain⟨m,rfl⟩:∃m,n=m+1:=⟨n-1,aa⟩;have hstep:=KT m r (l:=L.drop i) (by rw[dW];omega);have ec:at' (L.drop i) 0=at' (tx s) (i+2):=by rw[<-hL,p8,p8,show 2+(i+0)=i+2 by omega]
 have Je:at' (tx s) (i+2)<256:=(xC (s:=s) (i+2) rfl aa).2;rw[ec]at hstep;refine tl ?_;rw[jL aa];refine aF ?_;refine az.mono (Q7 _ Je) ?_;rintro v H' ⟨⟨d,b,rfl,hd2⟩,rfl⟩;refine aF ?_;generalize at' (tx s) (i+2)=c at*;refine bO (λhb=>fin ?_ _ _ _) λhb=>?_
 .rw[hstep];rcases hd2 with⟨h,_⟩|⟨_,h⟩
  .rw[h]at hb;cases hb
  .unfold dgt;rw[if_neg h.1,if_neg h.2.1,if_neg h.2.2]
 rw[dI aa aa];refine aF ?_
 obtain⟨e,he,hd3⟩:∃e:Nat,d=e/\dgt c=some e/\e<16:=by
  rcases hd2 with⟨_,h⟩|⟨h,_⟩
  .unfold dgt;rcases h with⟨a1,a2,a3⟩|⟨a1,a2,a3⟩|⟨a1,a2,a3⟩
   .exact⟨c-48,aa,by rw[if_pos ⟨a1,a2⟩],aa⟩
   .exact⟨c-87,aa,by rw[if_neg aa,if_pos ⟨a1,a2⟩],aa⟩
   .exact⟨c-55,aa,by rw[if_neg aa,if_neg aa,if_pos ⟨a1,a2⟩],aa⟩
  .rw[h]at hb;cases hb
 subst he;have hp:16^(i+1)=16^i*16:=vB ..
 have h16:16^i<=16^5:=jk (by decide) aa;have ahX:(16:Nat)^5=1048576:=by decide
 rw[w32 (z:=(r:Int)*16) aa,w32 aa];refine⟨m,aa,_,_,_,_,_,_,rfl,rfl,r*16+e,i+1,by rw[show(r:Int)*16+(e:Int)=((r*16+e:Nat):Int) by omega],by rw[show((i+2:Nat):Int)+1=((i+1+2:Nat):Int) by omega],aa,aa,aa,?_⟩;rw[h5,hstep,hd3.1];simp only[iA];rw[show(xN m (L.drop<|i+1)<|r*16+e).2+1+i=(xN m (L.drop<|i+1)<|r*16+e).2+(i+1) by omega]
theorem F_(s:ByteArray):az Pg X 178 [.string s] H (Q0 (Jd s) H):=by
 have bad:Jd s (.tuple ⟨[.int .i32 0,.int .i64 0,.bool false]⟩):=⟨0,0,false,rfl,aM _,λh=>by cases h⟩;refine ce [0,2,3,4,8] ?_;refine tl ?_;refine aF ?_;refine ah (λhc=>?_) λhc=>?_
 .refine rr ?_;exact⟨bad,rfl⟩
 have h0:0<s.size:=by
  rcases fq s.size with h|h
  .exfalso;apply hc;obtain⟨⟨l⟩⟩:=s;cases l with
   |nil=>rfl
   |cons a l=>cases h
  .exact h
 have Je:=(xC (s:=s) 0 rfl h0).2;rw[show XU (.string s) (.int .i64 0)=_ from jL (k:=0) h0];refine aF ?_
 have agA:∀m,tx s=m->0<m.length->m=at' m 0::m.drop 1:=λm _ hm=>by
  cases m with
  |nil=>cases hm
  |cons c m=>rfl
 have hl:=agA _ rfl (by rw[j_];exact h0);have Je:at' (tx s) 0<256:=Je;have one:∀{z:Int}{q:Nat},z=q->esc (at' (tx s) 0::(tx s).drop 1)=some (q,1)->Jd s (.tuple ⟨[.int .i32 z,.int .i64 1,.bool true]⟩):=λe h=>⟨_,1,true,rfl,h0,λ_=>⟨_,e,by rw[hl];exact h⟩⟩;have num:=O0 (H:=H) s;generalize hcc:at' (tx s) 0=c at hl Je one num|-
 have fin:∀rg b,BA rg 15=.bool b->(b=true->c=92\/c=39\/c=93\/c=45\/c=94)->dJ Pg X (sub Aw [1,1,0,1,0,1,1,1,1,1,1,1]) (Gv (.string s) (.int .i32 0) (.int .i64 0) (.bool false) (.int .u8 c) rg H) (j3 0<|nR Pg X (sub Aw [1,1,1])<|f_ Pg [.tmp 2,.tmp 3,.tmp 4]<|Q0 (Jd s) H):=by
  intro rg b hb hbc;refine tl ?_;rw[hb];refine aF ?_;refine bO (λhb=>?_) λhb=>?_
  .rw[show XU (.string s) (.int .i64 0)=_ from jL (k:=0) h0,hcc];refine aF ?_;have:=hbc hb;refine rr ?_;exact⟨one (w32 aa) (by show Dc c _=_;unfold Dc;rw[if_neg aa,if_neg aa,if_neg aa,if_pos this]),rfl⟩
  refine ah (λhc=>?_) λhc=>?_
  .refine az.mono (num aa) ?_;rintro v H' ⟨⟨r,n,b,rfl,hn⟩,rfl⟩;refine aF ?_;refine rr ?_;exact⟨⟨r,n,b,rfl,hn⟩,rfl⟩
  .refine tl ?_;refine rr ?_;exact⟨bad,rfl⟩
 refine ah (λhc=>?_) λh1=>?_
 .refine rr ?_;exact⟨one rfl (by show Dc c _=_;unfold Dc;rw[if_pos aa]),rfl⟩
 refine ah (λhc=>?_) λh2=>?_
 .refine rr ?_;exact⟨one rfl (by show Dc c _=_;unfold Dc;rw[if_neg aa,if_pos aa]),rfl⟩
 refine ah (λhc=>?_) λh3=>?_
 .refine rr ?_;exact⟨one rfl (by show Dc c _=_;unfold Dc;rw[if_neg aa,if_neg aa,if_pos aa]),rfl⟩
 repeat' (first|(refine ah (λhc=>?_) λhc=>?_))
 all_goals exact fin _ _ (by(try simp only[PP,Nat.reduceBEq]);rfl) (by simp<;>omega)
abbrev aen(s:ByteArray)(k:Nat)(v:Value)(H':ag):Prop:=∃(r:Int)(n:Nat)(e:Int),v=.tuple ⟨[.int .i32 r,vn n,vi e]⟩/\k+n<=s.size/\(e=0->0<n/\∃q:Nat,r=q/\De (tx s) k=some (q,n))
theorem KU(hw:Wf H)(hT:AP H)(s:ByteArray)(k:Nat)(hk:k<s.size)(hs:s.size<=1000000):az Pg X 196 [.string s,vn k] H (Q1 (aen s k) H):=by
 have hS:=SH.refl hw;refine ce [0,1,4,5,6,7,8,9,10] ?_;refine tl ?_;refine az.mono (TU hw hT s k aa) ?_;rintro v H' ⟨⟨a,n,r,ok,rfl,h1,h2,h3⟩,hx⟩;have hS:=hS.call hx;refine hS.iI λHn ri hS=>?_
 repeat(first|(refine hS.aY ?_)|(refine hS.dQ ?_)|(refine hS.kJ λHn hS=>?_))
 refine bO (λhb=>?_) λhb=>?_
 .refine rr ?_;exact⟨⟨0,0,11,rfl,aa,λh=>by cases h⟩,hS.ext⟩
 refine hS.dQ ?_;refine hS.aY ?_;obtain⟨q,rfl,hq⟩:=h3 (by simpa using hb);refine bq (λhb=>?_) λhb=>?_
 .repeat(first|(refine hS.aY ?_)|(refine hS.kI ?_)|(refine wS ?_))
  refine rr ?_;exact⟨⟨q,n,0,rfl,h2,λ_=>⟨h1 hk,q,rfl,by unfold De;rw[hq];exact if_neg aa⟩⟩,hS.ext⟩
 rw[dI aa aa];refine aF ?_;rw[show slT (.string s) (some<|vi<|(k:Int)+1) none none=_ from wP (lo:=k+1) aa];refine aF ?_;refine az.mono (F_ _) ?_;rintro v H' ⟨⟨x,m,b,rfl,hm,hm2⟩,rfl⟩;have hp:=mq s (lo:=k+1) (hi:=s.size) aa<|aj _;refine aF ?_;refine bO (λhb=>?_) λhb=>?_
 .refine rr ?_;exact⟨⟨0,0,12,rfl,aa,λh=>by cases h⟩,hS.ext⟩
 rw[dI aa aa];refine aF ?_;refine rr ?_;refine⟨⟨x,m+1,0,by rw[KS (show 1+(m:Int)=((m+1:Nat):Int) by omega)],aa,λ_=>⟨aa,?_⟩⟩,hS.ext⟩;obtain⟨p,rfl,hp2⟩:=hm2 (by simpa using hb);rw[yY]at hp2;exact⟨p,rfl,by unfold De;rw[hq];show(if q=92 then _ else _)=_;rw[if_pos aa,hp2];rfl⟩
section
def xE(m:Nat)(H:ag)(v:Value):Prop:=∃a n c cs,v=.slice a n c/\Fl H a n 2 cs/\n<=m/\∀x∈cs,∃z:Int,x=.int .i32 z
def eZ(b m:Nat)(H:ag)(v:Value):Prop:=∃a n c cs,v=.slice a n c/\jT (b<=·) 269 H a n 2 cs/\n<=m/\∀x∈cs,∃z:Int,x=.int .i32 z
theorem xE.nil(m:Nat)(H:ag):xE m H (.slice none 0 0):=⟨none,0,0,[],rfl,Fl.nil _ _ _,aa,λx h=>by cases h⟩
theorem eZ.nil(b m:Nat)(H:ag):eZ b m H (.slice none 0 0):=⟨none,0,0,[],rfl,jT.nil _ _ _ _ _,aa,λx h=>by cases h⟩
theorem eZ.i(h:eZ b m H v):xE m H v:=by
 obtain⟨a,n,c,cs,h1,h2,h3⟩:=h;exact⟨a,n,c,cs,h1,h2.1,h3⟩
theorem eZ.stay{S:List Nat}(h:eZ b m H v)(hx:qU S H H')(hS:∀q∈S,q<b\/¬wR H q 269):eZ b m H' v:=by
 obtain⟨a,n,c,cs,h1,h2,h3⟩:=h;exact⟨a,n,c,cs,h1,h2.stay hx λq hq=>(hS q hq).imp_left nA,h3⟩
theorem eZ.ex(h:eZ b m H v)(hx:Ext H H'):eZ b m H' v:=h.stay hx λr h=>nomatch h
theorem eZ.le{b' m':Nat}(h:eZ b m H v)(hm:m<=m')(hb:b'<=b):eZ b' m' H v:=by
 obtain⟨a,n,c,cs,h1,h2,h3,h4⟩:=h;exact⟨a,n,c,cs,h1,h2.le hb,aa,h4⟩
def Tok(b:Nat)(H:ag)(s:ByteArray)(k:Nat)(v:Value):Prop:=∃(kd:Int)(a e:Nat)(t:ByteArray)(rs:Value),v=.agg ⟨[vi kd,vn a,vn e,.string t,rs]⟩/\k<e/\e<=s.size/\a<=s.size/\t.size<=1000000/\eZ b 20000 H rs/\One s k kd t e
abbrev Eo(b:Nat)(s:ByteArray)(k:Nat)(v:Value)(H':ag):Prop:=∃(tok:Value)(cd:Int)(at':Nat),v=.tuple ⟨[tok,.agg ⟨[vi cd,vn at']⟩]⟩/\(∃kd a e t rs,tok=.agg ⟨[vi kd,vn a,vn e,.string t,rs]⟩/\(∃x n c,rs=.slice x n c))/\(cd=0->Tok b H' s k tok)
theorem Vl(hw:Wf H)(s:ByteArray)(k:Nat)(hk:k<s.size)(hs:s.size<=1000000)(hlt:Db<|at' (tx s) k):az Pg X 143 [.string s,vn k] H (Q1 (Eo H.next s k) H):=by
 have hS:=SH.refl hw;refine ce [0,1,4,5,6,7] ?_;refine tl ?_;refine hS.iI λHn rt hS=>?_;refine hS.iI λHn rs hS=>?_;rw[dI aa aa];refine hS.aY ?_;refine zm 6 (I:=λn x6 H'=>H'=Hn/\∃e:Nat,x6=vn e/\e+n=s.size/\k<e/\∀j,k<=j->j<e->JX (at' (tx s) j)) ?_ (s.size-(k+1)) ⟨rfl,k+1,rfl,aa,aa,λj h1 h2=>by rw[show j=k by omega];exact .inl hlt⟩;rintro n x6 rg H' ⟨rfl,e,rfl,h1,h2,hin⟩
 have fin:(e<s.size->¬JX (at' (tx s) e))->∀rg,dJ Pg X (sub I7 [1,1,1]) (F7 (.string s) (vn k) (.pointer<|some ⟨rt,0,none⟩) (.pointer<|some ⟨rs,0,none⟩) (vn e) top rg H') (f_ Pg [.cell 4 128,.cell 5 72]<|Q1 (Eo H.next s k) H):=by
  intro hex rg;refine tl ?_;rw[nM aa aa];refine hS.aY ?_;refine ah (λhc=>?_) λhc=>?_
  .repeat(first|(refine hS.aY ?_)|(refine PU.b2 rfl ?_)|(refine PU.b5 rfl ?_)|(refine hS.kJ λHn hS=>?_))
   refine rr ?_
   repeat(refine hS.eU ?_)
   exact⟨⟨_,3,k,rfl,⟨_,0,0,_,_,rfl,_,_,_,rfl⟩,λh=>by cases h⟩,hS.ext⟩
  rw[jL aa];refine hS.aY ?_;refine az.mono (I9 _) ?_;rintro v H' ⟨⟨b,rfl,hup⟩,rfl⟩;refine hS.aY ?_
  have fin:∀(kd:Int),(if 65<=at' (tx s) k/\at' (tx s) k<=90 then 1 else 2)=kd->∀rg,dJ Pg X (sub I7 [1,1,1,1,1,1]) (F7 (.string s) (vn k) (.pointer<|some ⟨rt,0,none⟩) (.pointer<|some ⟨rs,0,none⟩) (vn e) (vi kd) rg H') (f_ Pg [.cell 4 128,.cell 5 72]<|Q1 (Eo H.next s k) H):=by
   intro kd hkd rg;refine tl ?_;rw[Aj aa aa];refine hS.aY ?_;have hp:=mq s (lo:=k) (hi:=e) aa aa;refine az.mono (Df hS.wf _ aa) ?_;rintro v H' ⟨rfl,hx⟩;have hS:=hS.call hx
   repeat(first|(refine hS.aY ?_)|(refine PU.b2 rfl ?_)|(refine PU.b5 rfl ?_)|(refine hS.kJ λHn hS=>?_))
   refine rr ?_
   repeat(refine hS.eU ?_)
   exact⟨⟨_,0,0,rfl,⟨_,_,_,_,_,rfl,_,_,_,rfl⟩,λ_=>⟨kd,k,e,_,_,rfl,aa,aa,aa,aa,eZ.nil _ _ _,hkd▸.nm e h2 aa aa hlt hin hex⟩⟩,hS.ext⟩
  refine bO (λhb=>?_) λhb=>?_
  .have:=hup.1 hb;exact fin 1 (if_pos aa) _
  .exact fin 2 (if_neg λh=>by rw[hup.2 aa]at hb;cases hb) _
 refine tl ?_;refine aF ?_;refine ah (λhc=>?_) λhc=>fin (λh=>by omega) _;rw[jL aa];refine aF ?_;refine az.mono (OI _) ?_;rintro v H' ⟨⟨b,rfl,hbn⟩,rfl⟩;refine aF ?_;have hbn:b=true<->JX (at' (tx s) e):=by rw[hbn];unfold JX Db;omega
 refine bO (λhb=>?_) λhb=>fin (λ_ h=>by rw[hbn.2 h]at hb;cases hb) _;rw[dI aa aa];refine aF ?_;refine⟨n-1,aa,_,_,_,rfl,rfl,e+1,rfl,aa,aa,λj h3 h4=>?_⟩;rcases aN j e with h|h
 .exact hin j h3 h
 .rw[show j=e by omega];exact hbn.1 hb
theorem TV(h:dec l=some (q,m))(h1:at' l 0<128\/q<128):q=at' l 0/\m=1:=by
 cases l with
 |nil=>cases h
 |cons b l=>
  have h1:b<128\/q<128:=h1
  have hb:b<128:=by
   rcases h1 with h1|h1
   .exact h1
   .have:=(G8 h).2.1;unfold enc at this;rw[if_pos h1]at this;have:=(jh this).1;omega
  have h:xq b _ _ _=some (q,m):=h;unfold xq at h;rw[if_pos hb]at h;cases h;exact⟨rfl,rfl⟩
theorem GA.new(rb:Nat):GA rb [] [bu rb none (.slice none 0 0)]:=⟨none,.slice none 0 0,[],.inl rfl,GB.nil _ _,rfl,(λx h=>nomatch h),λ_=>rfl⟩
def LiI(s:ByteArray)(k p:Nat):Prop:=(∀e,Li (tx s) p e->Li (tx s) (k+1) e)/\(p=k+1\/at' (tx s) (k+1)≠39)
set_option maxHeartbeats 1000000 in
theorem MB(hw:Wf H)(hT:AP H)(s:ByteArray)(k:Nat)(hk:k<s.size)(hs:s.size<=20000)(h39:at' (tx s) k=39):az Pg X 144 [.string s,vn k] H (Q1 (Eo H.next s k) H):=by
 have hS:=SH.refl hw;refine ce [0,1,4,5,6,7,8,9,10,11] ?_;refine tl ?_;refine hS.iI λHn rt hS=>?_;refine hS.iI λHn rs hS=>?_;refine hS.iI λHn rb hS=>?_;rw[dI aa aa];refine hS.aY ?_
 refine V' 7 8 9 10 11 (I:=λn x7 x8 x9 dR fC H'=>∃p bs A,x7=vn p/\p+n=s.size/\k+1<=p/\LiI s k p/\GA rb bs A/\bs.length<=4*p/\SH [] H H' ((rs,72,[.int .i64 0,.int .i64 0])::(rt,128,[.int .i64 0,.int .i64 0,.int .i64 0,.string<|ByteArray.mk #[],.slice none 0 0])::A)) ?_ (s.size-(k+1))
  ⟨k+1,[],_,rfl,aa,aa,⟨λ_ h=>h,.inl rfl⟩,GA.new rb,by simp,hS.perm<|(List.Perm.swap _ _ _).trans<|List.Perm.cons _<|List.Perm.swap _ _ _⟩
 rintro n x7 x8 x9 dR fC rg H' ⟨p,bs,A,rfl,h1,h2,hLi,hbu,hbl,hS⟩;refine tl ?_;refine aF ?_;refine ah (λhc=>?_) λhc=>?_;rotate_left
 .refine tl ?_
  repeat(first|(refine hS.aY ?_)|(refine PU.b2 rfl ?_)|(refine PU.b5 rfl ?_)|(refine hS.kJ λHn hS=>?_))
  refine rr ?_
  repeat(refine hS.eU ?_)
  exact⟨⟨_,10,k,rfl,⟨_,0,0,_,_,rfl,_,_,_,rfl⟩,λh=>by cases h⟩,hS.ext⟩
 refine az.mono (TU hS.wf (hT.ex hS.ext) s p aa) ?_;rintro v H' ⟨⟨a,m,r,ok,rfl,h3,h4,hdec⟩,hx⟩;have hS:=hS.call hx;refine hS.iI λHn ri hS=>?_
 repeat(first|(refine hS.aY ?_)|(refine hS.dQ ?_)|(refine hS.kJ λHn hS=>?_))
 have err:∀{cd:Int}{e:Nat}{H'':ag},cd≠0->Eo H.next s k (.tuple ⟨[.agg ⟨[.int .i64 0,.int .i64 0,.int .i64 0,.string<|ByteArray.mk #[],.slice none 0 0]⟩,.agg ⟨[vi cd,vn e]⟩]⟩) H'':=λh=>⟨_,_,_,rfl,⟨_,0,0,_,_,rfl,_,_,_,rfl⟩,λg=>absurd g h⟩
 have back:∀{H2:ag}{bs' A'}{q:Nat},GA rb (bs++bs') A'->bs'.length<=4->p+1<=q->q<=s.size->LiI s k q->SH [] H H2 (A'++(ri,242,[vn a,vn m,.int .i32 r,.bool ok])::(rs,72,[.int .i64 0,.int .i64 0])::[(rt,128,[.int .i64 0,.int .i64 0,.int .i64 0,.string<|ByteArray.mk #[],.slice none 0 0])])->
  ∃n',n'<n/\∃bs A,q+n'=s.size/\k+1<=q/\LiI s k q/\GA rb bs A/\bs.length<=4*q/\SH [] H H2 ((rs,72,[.int .i64 0,.int .i64 0])::(rt,128,[.int .i64 0,.int .i64 0,.int .i64 0,.string<|ByteArray.mk #[],.slice none 0 0])::A):=λ{H2 bs' A' q} hb' hl hq hq2 hI hS=>
  ⟨s.size-q,aa,_,_,aa,aa,hI,hb',by rw[ay];omega,SH.drop (A:=[_])<|hS.perm au⟩
 have sU:∀rg b,BA rg 40=.bool b->(b=false->r=39->p≠k+1)->(∃q:Nat,r=q/\q≠10/\dec ((tx s).drop p)=some (q,m))->dJ Pg X (sub uO [1,1,0,1,0,0,1,0,1,0,1,1,1]) (wW (.string s) (vn k) (.pointer<|some ⟨rt,0,none⟩) (.pointer<|some ⟨rs,0,none⟩) (.pointer<|some ⟨rb,0,none⟩) (vn p) (.pointer<|some ⟨ri,0,none⟩) x9 dR fC rg Hn)
  (j3 2<|j3 1<|Ah (u_ (.string s) (vn k) (.pointer<|some ⟨rt,0,none⟩) (.pointer<|some ⟨rs,0,none⟩) (.pointer<|some ⟨rb,0,none⟩) λn x7 x8 x9 dR fC H'=>∃p bs A,x7=vn p/\p+n=s.size/\k+1<=p/\LiI s k p/\GA rb bs A/\bs.length<=4*p/\SH [] H H' ((rs,72,[.int .i64 0,.int .i64 0])::(rt,128,[.int .i64 0,.int .i64 0,.int .i64 0,.string<|ByteArray.mk #[],.slice none 0 0])::A)) n<|j3 0<|nR Pg X (sub uO [1,1,1])<|f_ Pg [.cell 4 128,.cell 5 72]<|Q1 (Eo H.next s k) H):=by
  intro rg b hb ahY ⟨q,hrq,h10,hd⟩;subst hrq;have hat:at' ((tx s).drop p) 0=at' (tx s) p:=by rw[p8,bn]
  have hb0:GA rb bs A:=hbu;have hS2:SH [] H Hn (A++(ri,242,[vn a,vn m,.int .i32 q,.bool ok])::(rs,72,[.int .i64 0,.int .i64 0])::[(rt,128,[.int .i64 0,.int .i64 0,.int .i64 0,.string<|ByteArray.mk #[],.slice none 0 0])]):=hS.perm<|au (l₁:=[_,_,_]);refine tl ?_;rw[hb];refine hS.aY ?_;refine bO (λhbt=>?_) λhbf=>?_
  .repeat(first|(refine hS.aY ?_)|(refine PU.b2 rfl ?_)|(refine PU.b5 rfl ?_)|(refine hS.kJ λHn hS=>?_))
   refine rr ?_
   repeat(refine hS.eU ?_)
   exact⟨err aa,hS.ext⟩
  refine hS.dQ ?_;refine hS.aY ?_;refine ah (λhc=>?_) λhc=>?_
  .rw[dI aa aa];refine hS.aY ?_;refine az.mono (OU hb0 hS2 aa) ?_;rintro v H' ⟨⟨t,rfl,ht⟩,hS⟩;have hts:t.size=bs.length:=Q9 ht
   repeat(first|(refine hS.aY ?_)|(refine PU.b2 rfl ?_)|(refine PU.b5 rfl ?_)|(refine hS.kJ λHn hS=>?_))
   refine rr ?_
   repeat(refine hS.eU ?_)
   exact⟨⟨_,0,0,rfl,⟨_,_,_,_,_,rfl,_,_,_,rfl⟩,λ_=>⟨3,k,p+1,t,_,rfl,aa,aa,aa,aa,eZ.nil _ _ _,.li _ t h39 (hLi.2.resolve_left<|ahY (by simpa using hbf) aa)<|hLi.1 _<|.fin p (by rw[j_];omega) (by rw[<-hat,<-(TV hd<|.inr aa).1];omega)⟩⟩,hS.ext⟩
  have agB:at' (tx s) p≠39:=λh=>by have:=(TV hd<|.inl (by rw[hat];omega)).1;omega
  have hgo:∀x n,De (tx s) p=some (x,n)->LiI s k (p+n):=λx n h=>⟨λe he=>hLi.1 e<|.go p x n e (by rw[j_];omega) agB (by rw[hd];simp) (λn'=>by rw[hd];simp;omega) h he,.inr (by rcases hLi.2 with h|h;exact h▸agB;exact h)⟩;refine hS.dQ ?_;refine hS.aY ?_;refine ah (λhc=>?_) λhc=>?_
  .rw[dI aa aa];refine hS.aY ?_;rw[show slT (.string s) (some<|vi<|(p:Int)+1) none none=_ from wP (lo:=p+1) aa];refine hS.aY ?_;refine az.mono (F_ _) ?_;rintro v H' ⟨⟨x,j,b,rfl,hj,agC⟩,rfl⟩;rw[yY]at agC;have hp:=mq s (lo:=p+1) (hi:=s.size) aa<|aj _;refine hS.aY ?_;refine bO (λhb=>?_) λhb=>?_
   .repeat(first|(refine hS.aY ?_)|(refine PU.b2 rfl ?_)|(refine PU.b5 rfl ?_)|(refine hS.kJ λHn hS=>?_))
    refine rr ?_
    repeat(refine hS.eU ?_)
    exact⟨err aa,hS.ext⟩
   refine az.mono (AR hb0 hS2 aa _) ?_;rintro v H' ⟨⟨y,z,rfl⟩,xs,A',hb',hxl,hS⟩;rw[dI aa aa];refine hS.aY ?_;rw[dI aa aa];refine hS.aY ?_;rw[KS (show(p:Int)+(1+(j:Int))=((p+1+j:Nat):Int) by omega)];obtain⟨z1,rfl,hz1⟩:=agC (by simpa using hb);obtain⟨n',h5,bs',A'',h6⟩:=back hb' hxl (q:=p+1+j) aa aa (by rw[show p+1+j=p+(j+1) by omega];exact hgo z1 _ (by unfold De;rw[hd];show(if q=92 then _ else _)=_;rw[if_pos aa,hz1];rfl)) hS;exact⟨n',h5,_,_,_,_,_,_,_,rfl,_,bs',A'',rfl,h6⟩
  .refine hS.dQ ?_;refine az.mono (AR hb0 hS2 aa _) ?_;rintro v H' ⟨⟨y,z,rfl⟩,xs,A',hb',hxl,hS⟩;have tu:=hS;have hS:=hS.perm<|au (l₂:=[_,_,_]);simp only[a_,bB]at hS;refine hS.dQ ?_;rw[dI aa aa];refine hS.aY ?_;rw[KS (show(p:Int)+(m:Int)=((p+m:Nat):Int) by omega)];obtain⟨n',h5,bs',A'',h6⟩:=back hb' hxl (q:=p+m) aa aa (hgo q m (by unfold De;rw[hd];show(if q=92 then _ else _)=_;rw[if_neg aa])) tu;exact⟨n',h5,_,_,_,_,_,_,_,rfl,_,bs',A'',rfl,h6⟩
 have yo:∀rg b,BA rg 28=.bool b->(b=false->∃q:Nat,r=q/\q≠10/\dec ((tx s).drop p)=some (q,m))->dJ Pg X (sub uO [1,1,0,1,0,0,1,0,1,0,1]) (wW (.string s) (vn k) (.pointer<|some ⟨rt,0,none⟩) (.pointer<|some ⟨rs,0,none⟩) (.pointer<|some ⟨rb,0,none⟩) (vn p) (.pointer<|some ⟨ri,0,none⟩) x9 dR fC rg Hn)
  (j3 2<|j3 1<|Ah (u_ (.string s) (vn k) (.pointer<|some ⟨rt,0,none⟩) (.pointer<|some ⟨rs,0,none⟩) (.pointer<|some ⟨rb,0,none⟩) λn x7 x8 x9 dR fC H'=>∃p bs A,x7=vn p/\p+n=s.size/\k+1<=p/\LiI s k p/\GA rb bs A/\bs.length<=4*p/\SH [] H H' ((rs,72,[.int .i64 0,.int .i64 0])::(rt,128,[.int .i64 0,.int .i64 0,.int .i64 0,.string<|ByteArray.mk #[],.slice none 0 0])::A)) n<|j3 0<|nR Pg X (sub uO [1,1,1])<|f_ Pg [.cell 4 128,.cell 5 72]<|Q1 (Eo H.next s k) H):=by
  intro rg b hb hq;refine tl ?_;rw[hb];refine hS.aY ?_;refine bO (λhb=>?_) λhbf=>?_
  .repeat(first|(refine hS.aY ?_)|(refine PU.b2 rfl ?_)|(refine PU.b5 rfl ?_)|(refine hS.kJ λHn hS=>?_))
   refine rr ?_
   repeat(refine hS.eU ?_)
   exact⟨err aa,hS.ext⟩
  refine hS.dQ ?_;refine hS.aY ?_;refine ah (λhc=>?_) λhc=>?_
  .rw[dI aa aa];refine hS.aY ?_;exact sU _ _ (by refine aF ?_;rfl) (λh _ e=>by have:=eD h;omega)<|hq hbf
  .exact sU _ _ (by refine aF ?_;rfl) (λ_ h=>absurd h hc)<|hq hbf
 refine bO (λhb=>?_) λhb=>?_
 .exact yo _ _ (by refine aF ?_;rfl) (λh=>by cases h)
 refine hS.dQ ?_;refine hS.aY ?_;obtain⟨q,hrq,hd⟩:=hdec (by simpa using hb);exact yo _ _ (by refine aF ?_;rfl) λh=>⟨q,hrq,λe=>by have:=eD h;omega,hd⟩
end
section
open Go.Ae Go.Ae.M
theorem Q_(a:Int):az Pg X 171 [vi a] H (Q0 (λv=>v=.bool false) H):=by
 refine ce [0,2] ?_;refine tl ?_;refine aF ?_;refine rr ?_;exact⟨by simp,rfl⟩
theorem kE(a b:Int):az Pg X 135 [vi a,vi b] H (Q0 isB H):=by
 refine ce [0,1,4] ?_;refine tl ?_;refine az.mono (Q_ _) ?_;rintro v H' ⟨rfl,rfl⟩;refine aF ?_;refine rr ?_;exact⟨⟨_,rfl⟩,rfl⟩
theorem KV{P:Program}{ox oy:Operand}{b:Int}:jb P .add t ox oy (vi a) (vi b)=some (vi<|fZ .i64<|a+b):=iJ rfl rfl
abbrev Nm(Q:Int->Prop)(r:Nat)(ty:TypeId)(n:Nat):=SB (CW Q) r ty 1 n
abbrev sl(r n c:Nat):Value:=.slice (some ⟨r,0,none⟩) n c
theorem AU{s:Int}(hB:Nm Q r ty n H0 H<|(q,3,[vi s])::L)(a b:Int)(ha:0<=a/\a<n)(hb:0<=b/\b<n):
 az Pg X 190 [sl r n c,vi a,vi b,.pointer<|some ⟨q,0,none⟩] H λv H'=>∃a' b' s',v=.tuple ⟨[vi a',vi b']⟩/\(a'=a/\b'=b\/a'=b/\b'=a)/\Nm Q r ty n H0 H' ((q,3,[vi s'])::L):=by
 refine ce [0,1,2,3,8,9] ?_;refine tl ?_
 repeat(first|(refine hB.aY ?_)|(with_reducible refine fH ?_)|(with_reducible refine hB.CX aa aa λz hz=>?_)|(refine nO ?_)|((with_reducible refine az.mono (kE _ _) ?_);rintro _ _ ⟨⟨bl,rfl⟩,rfl⟩))
 refine bO (λhc=>?_) λhc=>?_
 .refine hB.ld 0 rfl rfl ?_;refine PU.of KV ?_;refine hB.st 0 rfl rfl (ai rfl) rfl λHn hB=>?_;refine rr ?_;exact⟨_,_,_,rfl,.inr ⟨rfl,rfl⟩,hB⟩
 .refine rr ?_;exact⟨_,_,_,rfl,.inl ⟨rfl,rfl⟩,hB⟩
theorem Ga{s:Int}(hB:Nm Q r ty n H0 H<|(q,3,[vi s])::L)(x y z:Int)(hx:0<=x/\x<n)(hy:0<=y/\y<n)(hz:0<=z/\z<n):
 az Pg X 170 [sl r n c,vi x,vi y,vi z,.pointer<|some ⟨q,0,none⟩] H λv H'=>∃m s',v=vi m/\(m=x\/m=y\/m=z)/\Nm Q r ty n H0 H' ((q,3,[vi s'])::L):=by
 refine ce [0,1,2,3,4,10] ?_;refine tl ?_;refine az.mono (AU hB x y hx hy) ?_;rintro _ H1 ⟨a,b,s1,rfl,h1,hB⟩;refine hB.aY ?_;refine az.mono (AU hB b z aa hz) ?_;rintro _ H2 ⟨b',c',s2,rfl,h2,hB⟩;refine hB.aY ?_;refine az.mono (AU hB a b' aa aa) ?_;rintro _ H3 ⟨a3,b3,s3,rfl,h3,hB⟩;refine hB.aY ?_;refine rr ?_;exact⟨_,_,rfl,aa,hB⟩
theorem wY{s:Int}(hn:n<=16777216)(hB:Nm Q r ty n H0 H<|(q,3,[vi s])::L)(x:Int)(hx:1<=x/\x+1<n):
 az Pg X 169 [sl r n c,vi x,.pointer<|some ⟨q,0,none⟩] H λv H'=>∃m s',v=vi m/\x-1<=m/\m<=x+1/\Nm Q r ty n H0 H' ((q,3,[vi s'])::L):=by
 refine ce [0,1,2,6] ?_;refine tl ?_
 with_reducible refine dD ?_;with_reducible refine bE ?_
 refine az.mono (Ga hB _ _ _ aa aa aa) ?_;rintro _ H1 ⟨m,s1,rfl,h1,hB⟩;refine rr ?_;exact⟨_,_,rfl,aa,aa,hB⟩
theorem Co(hn:n<=16777216)(hB:Nm Q r ty n H0 H L)(lo hi first:Int)(h1:0<=lo)(h2:0<=first)(h3:first+hi<=n)(h4:lo<=16777216)(h5:0<=hi):
 az Pg X 166 [sl r n c,vi lo,vi hi,vi first] H λv H'=>Nm Q r ty n H0 H' L:=by
 refine ce [0,1,2,3,8,9] ?_;refine tl ?_;refine lp2 8 9 (I:=λm x8 x9 H'=>∃root:Int,x8=vi root/\0<=root/\root<=16777216/\m=(hi-root).toNat/\Nm Q r ty n H0 H' L) ?_ _ ⟨lo,rfl,h1,h4,rfl,hB⟩;rintro m x8 x9 rg H' ⟨root,rfl,h6,h7,hm,hB⟩;refine tl ?_
 repeat(first|(refine hB.aY ?_)|(with_reducible refine bE ?_)|(with_reducible refine FX ?_))
 have fin:∀(ch:Int)(rg)(H2:ag),root<ch->ch<hi->Nm Q r ty n H0 H2 L->dJ Pg X (sub wT [1,0,0,0,1,1,1]) (oW (sl r n c) (vi lo) (vi hi) (vi first) (vi root) (vi ch) rg H2)
  (j3 1<|Ah (uH (sl r n c) (vi lo) (vi hi) (vi first) (λm x8 x9 H'=>∃root:Int,x8=vi root/\0<=root/\root<=16777216/\m=(hi-root).toNat/\Nm Q r ty n H0 H' L)) m<|j3 0<|f_ Pg [] λv H'=>Nm Q r ty n H0 H' L):=by
  intro ch rg H2 h8 h9 hB;refine tl ?_
  repeat(first|(refine hB.aY ?_)|(with_reducible refine bE ?_)|(with_reducible refine fH ?_)|(with_reducible refine hB.CX aa aa λz hz=>?_)|(refine nO ?_)|((with_reducible refine az.mono (kE _ _) ?_);rintro _ _ ⟨⟨bl,rfl⟩,rfl⟩))
  refine bO (λhb=>?_) λhb=>?_
  .refine rr ?_;exact hB
  .repeat(first|(refine hB.aY ?_)|(with_reducible refine bE ?_)|(with_reducible refine fH ?_)|(with_reducible refine hB.CX aa aa λz hz=>?_)|(with_reducible refine hB.PS aa aa (by assumption) λHn hB=>?_)|(refine nO ?_))
   exact⟨(hi-ch).toNat,aa,_,_,_,_,rfl,ch,rfl,aa,aa,rfl,hB⟩
 refine ah (λhc=>?_) λhc=>?_
 .refine rn ?_;exact hB
 with_reducible refine bE ?_;refine hB.aY ?_
 refine ah (λhd=>?_) λhd=>?_
 .repeat(first|(refine hB.aY ?_)|(with_reducible refine bE ?_)|(with_reducible refine fH ?_)|(with_reducible refine hB.CX aa aa λz hz=>?_)|(refine nO ?_)|((with_reducible refine az.mono (kE _ _) ?_);rintro _ _ ⟨⟨bl,rfl⟩,rfl⟩))
  refine bO (λhb=>?_) λhb=>?_
  .with_reducible refine bE ?_
   exact fin _ _ _ aa aa hB
  .exact fin _ _ _ aa aa hB
 .refine⟨by kernel_rfl,?_⟩;exact fin _ _ _ aa aa hB
theorem Jf(hn:n<=16777216)(hB:Nm Q r ty n H0 H L)(a b:Int)(h1:0<=a)(h2:b<=n)(h3:a<=16777216):
 az Pg X 129 [sl r n c,vi a,vi b] H λv H'=>Nm Q r ty n H0 H' L:=by
 refine ce [0,1,2,6,7] ?_;refine tl ?_
 with_reducible refine bE ?_
 refine lp2 6 7 (I:=λm x6 x7 H'=>∃i:Int,x6=vi i/\a<i/\i<=16777218/\m=(b-i).toNat/\Nm Q r ty n H0 H' L) ?_ _ ⟨a+1,rfl,aa,aa,rfl,hB⟩;rintro m x6 x7 rg H' ⟨i,rfl,h4,h5,hm,hB⟩;refine tl ?_;refine hB.aY ?_;refine ah (λhc=>?_) λhc=>?_;rotate_left
 .refine rn ?_;exact hB
 refine zm 7 (I:=λm x7 H'=>∃j:Int,x7=vi j/\a<=j/\j<=i/\m=(j-a).toNat/\Nm Q r ty n H0 H' L) ?_ _ ⟨i,rfl,aa,aa,rfl,hB⟩;rintro m2 x7 rg H2 ⟨j,rfl,h6,h7,hm2,hB⟩
 have fin:∀rg H3,Nm Q r ty n H0 H3 L->dJ Pg X (sub tF [1,0,0,1,1]) (mM (sl r n c) (vi a) (vi b) (vi i) (vi j) rg H3) (Ah (qO (sl r n c) (vi a) (vi b) (λm x6 x7 H'=>∃i:Int,x6=vi i/\a<i/\i<=16777218/\m=(b-i).toNat/\Nm Q r ty n H0 H' L)) m<|j3 0<|f_ Pg [] λv H'=>Nm Q r ty n H0 H' L):=by
  intro rg H3 hB;refine tl ?_;refine hB.aY ?_;with_reducible refine bE ?_;exact⟨(b-(i+1)).toNat,aa,_,_,_,_,rfl,i+1,rfl,aa,aa,rfl,hB⟩
 refine tl ?_;refine hB.aY ?_;refine ah (λhd=>?_) λhd=>?_;rotate_left
 .refine⟨by kernel_rfl,?_⟩;exact fin _ _ hB
 repeat(first|(refine hB.aY ?_)|(with_reducible refine dD ?_)|(with_reducible refine fH ?_)|(with_reducible refine hB.CX aa aa λz hz=>?_)|(refine nO ?_)|((with_reducible refine az.mono (kE _ _) ?_);rintro _ _ ⟨⟨bl,rfl⟩,rfl⟩))
 refine bO (λhb=>?_) λhb=>?_;rotate_left
 .exact fin _ _ hB
 refine tl ?_
 repeat(first|(refine hB.aY ?_)|(with_reducible refine dD ?_)|(with_reducible refine fH ?_)|(with_reducible refine hB.CX aa aa λz hz=>?_)|(with_reducible refine hB.PS aa aa (by assumption) λHn hB=>?_)|(refine nO ?_))
 exact⟨(j-1-a).toNat,aa,_,_,_,rfl,j-1,rfl,aa,aa,rfl,hB⟩
end
section
open Go.Ae Go.Ae.M
abbrev isLen(x:Int)(v:Value):Prop:=∃l:Nat,v=vn l/\l<=32/\(1<=x->((2^l:Nat):Int)<=2*x)
theorem Ra(x:Int)(h0:0<=x)(h1:x<=16777216):az Pg X 139 [.int .u64 x] H (Q0 (isLen x) H):=by
 refine ce [0,2] ?_;refine tl ?_;refine PU.of oJ ?_;rw[bM aa];refine aF ?_;refine dJ.sH λK hK=>?_
 have fin:∀(y:Int)(k p:Nat) rg,0<=y->y<256->k<=24->2^k=p->(1<=x->1<=y/\p*y<=x)->dJ Pg X (sub Eg [1,1,1,1]) (C9 (.int .u64 y) (vn k) rg H) K:=by
  intro y k p rg h2 h3 h4 hp h5;subst hK;refine tl ?_;rw[vU,qI<|u8_in aa];refine PU.of rfl ?_;refine PU.ad3 (by kernel_rfl) h2 h3 λt ht ht2=>?_;rw[vU,pZ aa aa];refine PU.of rfl ?_;refine bE ?_;refine rr ?_;refine⟨⟨k+t,rfl,aa,λhx=>?_⟩,rfl⟩;obtain⟨h6,h7⟩:=h5 hx;have h8:=ht2 h6;have h9:((2^(k+t):Nat):Int)=(p:Int)*((2^t:Nat):Int):=by rw[Nat.pow_add,hp];simp
  rw[h9];have h10:(p:Int)*((2^t:Nat):Int)<=p*(2*y):=Int.mul_le_mul_of_nonneg_left h8 aa;have h11:(p:Int)*(2*y)=2*(p*y):=by rw[Int.mul_left_comm]
  omega
 have fd:∀(a:Int)(n:Nat),0<=a->0<n->a.fdiv ((n:Nat):Int)=a/n:=λa n ha hn=>Int.fdiv_eq_ediv_of_nonneg a aa
 have s16:∀a:Int,0<=a->Ak .u64 a 16=a/65536:=λa ha=>by
  rw[show(16:Int)=((16:Nat):Int)from rfl,Tj aa<|by decide];exact fd a 65536 ha aa
 have s8:∀a:Int,0<=a->Ak .u64 a 8=a/256:=λa ha=>by
  rw[show(8:Int)=((8:Nat):Int)from rfl,Tj aa<|by decide];exact fd a 256 ha aa
 refine tl ?_;refine PU.of oJ ?_;refine ah (λhc=>?_) λhc=>?_
 .refine PU.of (oL aa) ?_;rw[s16 _ h0];refine bE ?_;refine tl ?_;refine PU.of oJ ?_;refine ah (λhd=>?_) λhd=>?_
  .refine PU.of (oL aa) ?_;rw[s8 _ aa];refine bE ?_;exact fin _ 24 16777216 _ aa aa aa rfl (λ_=>by omega)
  .exact fin _ 16 65536 _ aa aa aa rfl (λ_=>by omega)
 .refine tl ?_;refine PU.of oJ ?_;refine ah (λhd=>?_) λhd=>?_
  .refine PU.of (oL aa) ?_;rw[s8 _ aa];refine bE ?_;exact fin _ 8 256 _ aa aa aa rfl (λ_=>by omega)
  .exact fin _ 0 1 _ aa aa aa rfl (λ_=>by omega)
theorem AX(x:Int)(h0:0<=x)(h1:x<=16777216):az Pg X 96 [.int .u64 x] H (Q0 (isLen x) H):=by
 refine ce [0,2] ?_;refine tl ?_;refine az.mono (Ra x h0 h1) ?_;rintro _ _ ⟨⟨l,rfl,h2,h3⟩,rfl⟩;refine rr ?_;exact⟨⟨l,rfl,h2,h3⟩,rfl⟩
theorem Ep(x:Int)(h0:1<=x)(h1:x<=16777216):az Pg X 167 [vi x] H (Q0 (λv=>∃m:Int,v=.int .u64 m/\1<=m/\m<=2*x) H):=by
 refine ce [0,2] ?_;refine tl ?_;rw[vU,qI<|u64_in aa];refine PU.of rfl ?_;refine az.mono (AX x aa h1) ?_;rintro _ _ ⟨⟨l,rfl,h2,h3⟩,rfl⟩;refine PU.of (yg aa) ?_;rw[X8 h2];have h4:0<2^l:=Nat.pos_of_ne_zero (by simp);refine rr ?_;refine⟨⟨_,rfl,aa,h3 h0⟩,rfl⟩
end
end Go.Proofs.Lu
