/-
  Part 13 of the proof. No condition.
-/
import Derived.Test.YtpngmpbmokhmiaaGreatDoorZ04
import Derived.Shelf.Sort.Plain
import Derived.Shelf.SlSortCmp.WholeK
import Derived.Shelf.SlLaysF0
import Derived.Lib.Small
import Derived.Lib.Walk
set_option linter.unusedVariables false
set_option linter.unusedSimpArgs false
set_option maxRecDepth 100000
set_option maxHeartbeats 4000000
set_option linter.defProp false
open Option renaming some->Z,none->T
open Bool renaming true->f,false->aA
open Go renaming Value->C,TypeId->aI,Program->aX,World->cZ
open Go.Value renaming int->a_,slice->J
open Nat renaming beq->aB
open List renaming length->u
noncomputable section
namespace Go.Ae
open Go.Sort
variable{ρ:Go.Shelf.Ren}{α:Type}{args args':D C}{m:Mp}{w:cZ}{v:C}{es gc:Nat}{H Q:R}
def anz(zs:D Int):zs.flatMap enI=zs.map (a_ .i64):=by
 induction zs with
 |nil=>rfl
 |cons z zs a=>rw[lY,a];rfl
def Xm[Inhabited α](enc:α->C)(w:cZ)(b o:Nat)(d:D α):putRow enc w b o d.toArray=putRow id w b o (d.map enc).toArray:=by
 unfold putRow;refine mapBlock_congr _ _ _ _ λc _ _ _=>?_;unfold putCells;apply uF;intro k;simp only[wC,List.size_toArray,aM];cases c[k]? with
 |none=>rfl
 |some x=>
  simp only[Option.map_some]
  by_cases h:o<=k/\k<o+u d
  .have:k-o<u d:=N;rw[jj h,jj h];simp[this]
  .rw[jx h,jx h]
def ag6{P:aX}(l:Go.Proofs.Lays.n189 P ρ)(ho:orW enI srt 1 [] args H=Z (v,Q))(r:RH m H w)(n:mX m args args'):
 Calls P (ρ.f 189) ⟨args'⟩ w λe w'=>∃m' v',e=.returned v'/\VR m' v v'/\RH m' Q w'/\Ex m m' H Q w w':=by
 refine ado alZ ho r n λc off d b g _ p s I o i=>?_;cases p;rw[anz]at i|-;refine(Go.Proofs.Any.slices_Sort_int l c off d b w (λj a=>?_) o N).mono ?_
 .have a:j<u b:=a;rw[show(b.toArray)[j]! =b[j] by simp[a]];exact i j _ (by rw[bL,av a];rfl)
 .rintro e w' ⟨rfl,k,q,rfl⟩;refine⟨O,k,q,?_⟩;rw[Xm];rfl
section
open Go.Sort Go.Proofs
def Put.flatK[Inhabited α]{enc:α->D C}{ay:D α->D α}(a:Put enc ay es)(zs:D α):Go.Sort.flatK enc es zs.toArray=(zs.flatMap enc).toArray:=by
 apply uF;intro t
 by_cases h:t<u zs*es
 .have g:t/es<u zs:=Nat.div_lt_of_lt_mul (by rw[wR];exact h);have i:t %es<es:=o8 _ a.pos;have b:=a.el zs (t/es) g [];rw[bF]at b;have c:=oN (zs.flatMap enc) es (t/es)<|t %es;rw[jj i,b,Nat.div_add_mod' t es]at c;rw[show(zs.flatMap enc).toArray[t]?=(zs.flatMap enc)[t]? by simp,<-c];have d:=get_flatK enc es zs.toArray t h;have hs:t<(Go.Sort.flatK enc es zs.toArray).size:=by rw[size_flatK];exact h
  rw[wT _ t hs]at d;rw[bI hs,d];have e:t %es<u (enc zs[t/es]):=by rw[a.len];exact i
  have j:(zs.toArray)[t/es]! =zs[t/es]:=by rw[rM,wT zs _ g]
  rw[show zs.toArray[t/es]! =zs[t/es]from j,wT (enc zs[t/es]) (t %es) e,av e]
 .rw[Array.getElem?_eq_none (by rw[size_flatK];exact pZ h),show(zs.flatMap enc).toArray[t]?=(zs.flatMap enc)[t]? by simp,dB (by rw[a.flat];exact pZ h)]
def cfR(x y:Int×Int):Int:=Go.Lib.compareInt x.1 y.1
def ae9:ltOf cfR=ltR:=by
 funext x y;unfold ltOf cfR Go.Lib.compareInt ltR
 by_cases I:x.1<y.1
 .simp[I]
 .by_cases B:y.1<x.1<;>simp[I,B]
def ag7{P:aX}(L:SlLaysF0.n14 P ρ)(E:∀w,(isAgg<|ρ.t 24).run P w=.ok f w)(zE:∀w,(Go.sizeOf<|ρ.t 24).run P w=.ok 2 w)(eg:∀args w,(callFunc gc args).run P w=.ok (.enter gc args) w)(o:∀b off size w,CmpLays P gc #[] enR 2 cfR b off size w)(ho:orR (.func (.func gc) ⟨[]⟩ ⟨[]⟩) args H=Z (v,Q))(V:RH m H w)(F:mX m args args'):
 Calls P (ρ.f 14) ⟨args'⟩ w λe w'=>∃m' v',e=.returned v'/\VR m' v v'/\RH m' Q w'/\Ex m m' H Q w w':=by
 unfold orR at ho;split at ho
 .next a n c l=>
  split at ho
  .next T=>
   generalize agj (J a (n+1) c::l)=k at ho T;refine ado (agi k) ho V F λb off s g i y d h0 I K S=>?_;have⟨r,c',y⟩:=y;injection y with e1 e2
   injection e1 with e3 e4 e5
   subst e2
   have d:i=[.int .i64 0,.int .i64 ((n+1:Nat):Int),.int .i64 (k:Nat),.func (.func gc) ⟨[]⟩ ⟨[]⟩]:=by
    obtain _|⟨_,_,_,_,W,d⟩:=d;obtain _|⟨_,_,_,_,X,d⟩:=d;obtain _|⟨_,_,_,_,Y,d⟩:=d;obtain _|⟨_,_,_,_,v4,d⟩:=d;cases d;rw[W.of_int,X.of_int,Y.of_int];cases v4 with
    |sc _ h=>rfl
    |func _ _ _ _ _ M U=>cases M;cases U;rfl
   subst d
   have z:HoldsK enR 2 w b off g.toArray:=λj p=>by
    rw[(agi k).flatK]at p|-;have p:j<u (g.flatMap enR):=p;rw[rM,wT (g.flatMap enR) j p];exact S j _<|av p
   have:=AnyQ.pdqsortCmpFunc_all L 2 E zE enR cfR gc #[] (ae9▸al0) b off s g.toArray w eg (o _ _ _ _) ⟨λ_=>rfl,λx v A=>by simp[enR]at A;rcases A with rfl|rfl<;>rfl,z,K⟩ (u g+1) 0 (u g) k g.toArray w N rfl (SWK.start z) (bD _) (ax _) (by show u g<_;omega) N<|.inl rfl;rw[e4];apply this.mono;rintro e w' ⟨rfl,q,B,rfl⟩;refine⟨O,q,B,?_⟩;show grow (putRow id (Sort.ahead w q) b off<|Go.Sort.flatK enR 2<|pdq (ltOf cfR) g.toArray 0 (u g) k f f) B=_;rw[ae9];rw[<-(agi k).flatK (fR k g)];rfl
  .cases ho
 .cases ho
end
end Go.Ae
namespace Go.Proofs.Lu
def qf{P:Go.Program}{n:Nat}{x y:Go.Func}(h:P.funcs[n]?=Z x)(e:x=y):P.funcs[n]?=Z y:=e▸h
def afa:Go.Shelf.Ren:=⟨λ|189=>160|125=>191|257=>190|128=>217|129=>218|294=>208|295=>209|296=>210|297=>211|298=>212|299=>213|216=>214|300=>215|301=>216|328=>230|329=>231|330=>232|331=>233|332=>234|215=>235|343=>247|n=>n,λ|28=>22|46=>164|51=>323|53=>105|183=>317|182=>316|131=>214|218=>333|222=>337|228=>349|229=>245|n=>n,id⟩
def apf:Go.Proofs.Lays.n189 Tryz.prog afa:=⟨fQ,qf Tryz.func191 fQ,qf Tryz.func217 fQ,qf Tryz.func218 fQ,qf Tryz.func160 fQ,qf Tryz.func235 fQ,qf Tryz.func214 fQ,qf Tryz.func190 fQ,qf Tryz.func208 fQ,qf Tryz.func209 fQ,qf Tryz.func210 fQ,qf Tryz.func211 fQ,qf Tryz.func212 fQ,qf Tryz.func213 fQ,qf Tryz.func215 fQ,qf Tryz.func216 fQ,qf Tryz.func230 fQ,qf Tryz.func231 fQ,qf Tryz.func232 fQ,qf Tryz.func233 fQ,qf Tryz.func234 fQ,qf Tryz.func247 fQ,Tryz.underlying0,Tryz.isAgg0,Tryz.sizeOf0,Tryz.zeroValue0,Tryz.underlying3,Tryz.isAgg3,Tryz.sizeOf3,Tryz.zeroValue3,Tryz.underlying4,Tryz.isAgg4,Tryz.sizeOf4,Tryz.zeroValue4,Tryz.underlying5,Tryz.isAgg5,Tryz.sizeOf5,Tryz.zeroValue5,Tryz.underlying9,Tryz.isAgg9,Tryz.sizeOf9,Tryz.zeroValue9,Tryz.underlying22,Tryz.isAgg22,Tryz.sizeOf22,Tryz.zeroValue22,Tryz.underlying164,Tryz.isAgg164,Tryz.sizeOf164,Tryz.zeroValue164,Tryz.underlying323,Tryz.isAgg323,Tryz.sizeOf323,Tryz.zeroValue323,Tryz.underlying105,Tryz.isAgg105,Tryz.sizeOf105,Tryz.zeroValue105,Tryz.underlying214,Tryz.isAgg214,Tryz.sizeOf214,Tryz.zeroValue214,Tryz.underlying316,Tryz.isAgg316,Tryz.sizeOf316,Tryz.zeroValue316,Tryz.underlying317,Tryz.isAgg317,Tryz.sizeOf317,Tryz.zeroValue317,Tryz.underlying333,Tryz.isAgg333,Tryz.sizeOf333,Tryz.zeroValue333,Tryz.underlying337,Tryz.isAgg337,Tryz.sizeOf337,Tryz.zeroValue337,Tryz.underlying349,Tryz.isAgg349,Tryz.sizeOf349,Tryz.zeroValue349,Tryz.underlying245,Tryz.isAgg245,Tryz.sizeOf245,Tryz.zeroValue245⟩
def afb:Go.Shelf.Ren:=⟨λ|14=>249|20=>251|21=>252|22=>253|23=>254|24=>255|25=>256|26=>257|27=>258|46=>259|47=>231|48=>232|49=>260|50=>261|15=>191|57=>262|28=>217|29=>218|n=>n,λ|24=>331|22=>218|25=>347|46=>317|45=>316|50=>214|66=>333|39=>164|55=>105|70=>337|76=>349|77=>245|53=>323|n=>n,id⟩
def apg:Go.Proofs.SlLaysF0.n14 Tryz.prog afb:=⟨fQ,⟨Tryz.f249.name,jg,qf Tryz.func249 fQ⟩,qf Tryz.func191 fQ,⟨Tryz.f251.name,jg,qf Tryz.func251 fQ⟩,⟨Tryz.f252.name,jg,qf Tryz.func252 fQ⟩,⟨Tryz.f253.name,jg,qf Tryz.func253 fQ⟩,⟨Tryz.f254.name,jg,qf Tryz.func254 fQ⟩,⟨Tryz.f255.name,jg,qf Tryz.func255 fQ⟩,⟨Tryz.f256.name,jg,qf Tryz.func256 fQ⟩,⟨Tryz.f257.name,jg,qf Tryz.func257 fQ⟩,⟨Tryz.f258.name,jg,qf Tryz.func258 fQ⟩,qf Tryz.func217 fQ,qf Tryz.func218 fQ,⟨Tryz.f259.name,jg,qf Tryz.func259 fQ⟩,qf Tryz.func231 fQ,qf Tryz.func232 fQ,⟨Tryz.f260.name,jg,qf Tryz.func260 fQ⟩,⟨Tryz.f261.name,jg,qf Tryz.func261 fQ⟩,⟨Tryz.f262.name,jg,qf Tryz.func262 fQ⟩,Tryz.underlying0,Tryz.isAgg0,Tryz.sizeOf0,Tryz.zeroValue0,Tryz.underlying3,Tryz.isAgg3,Tryz.sizeOf3,Tryz.zeroValue3,Tryz.underlying4,Tryz.isAgg4,Tryz.sizeOf4,Tryz.zeroValue4,Tryz.underlying5,Tryz.isAgg5,Tryz.sizeOf5,Tryz.zeroValue5,Tryz.underlying9,Tryz.isAgg9,Tryz.sizeOf9,Tryz.zeroValue9,Tryz.underlying218,Tryz.isAgg218,Tryz.sizeOf218,Tryz.zeroValue218,Tryz.underlying347,Tryz.isAgg347,Tryz.sizeOf347,Tryz.zeroValue347,Tryz.underlying164,Tryz.isAgg164,Tryz.sizeOf164,Tryz.zeroValue164,Tryz.underlying316,Tryz.isAgg316,Tryz.sizeOf316,Tryz.zeroValue316,Tryz.underlying317,Tryz.isAgg317,Tryz.sizeOf317,Tryz.zeroValue317,Tryz.underlying214,Tryz.isAgg214,Tryz.sizeOf214,Tryz.zeroValue214,Tryz.underlying323,Tryz.isAgg323,Tryz.sizeOf323,Tryz.zeroValue323,Tryz.underlying105,Tryz.isAgg105,Tryz.sizeOf105,Tryz.zeroValue105,Tryz.underlying333,Tryz.isAgg333,Tryz.sizeOf333,Tryz.zeroValue333,Tryz.underlying337,Tryz.isAgg337,Tryz.sizeOf337,Tryz.zeroValue337,Tryz.underlying349,Tryz.isAgg349,Tryz.sizeOf349,Tryz.zeroValue349,Tryz.underlying245,Tryz.isAgg245,Tryz.sizeOf245,Tryz.zeroValue245⟩
section
open Go.Shelf Go.Lib Go.RowKit Go.Ae
def aph(x:Int)(w:cZ):Calls Tryz.prog 250 #[.int .i32 x] w λe w'=>e=.returned (.bool aA)/\w'=w:=by
 go_enter Tryz.func250,Tryz.ntmps250
 go_wp2
 go_ret
 exact⟨gB,O⟩
def api(x y:Int)(w:cZ):Calls Tryz.prog 243 #[.int .i32 x,.int .i32 y] w λe w'=>e=.returned (.int .i64<|compareInt x y)/\w'=w:=by
 go_enter Tryz.func243,Tryz.ntmps243
 go_wp2_with (go_at_call 250;refine(aph _ _).mono ?_;rintro e w' ⟨rfl,a⟩;rw[a])
 all_goals(go_ret;refine⟨?_,O⟩;unfold compareInt;(repeat' split)<;>first|rfl|(exfalso;omega))
def apj(x y:Int×Int)(vn:cZ):Calls Tryz.prog 242 #[.agg #[.int .i32 x.1,.int .i32 x.2],.agg #[.int .i32 y.1,.int .i32 y.2]] vn λe w'=>e=.returned (.int .i64<|compareInt x.1 y.1)/\∃q os',w'=Go.Sort.grow (vn.drewN q) os':=by
 have a:=λb=>api x.1 y.1 b;generalize compareInt x.1 y.1=r at a|-
 go_enter Tryz.func242,Tryz.ntmps242
 go_wp2_with (go_at_call 243;refine(a _).mono ?_;rintro e w' ⟨rfl,rfl⟩)
 go_ret
 exact⟨O,0,_,by rw[Go.Sort.alloc_eq_grow,Go.Sort.alloc_eq_grow,Go.Sort.grow_grow];rfl⟩
def anA(a off size:Nat)(w:cZ):CmpLays Tryz.prog 242 #[] enR 2 cfR a off size w:=λ_ _ _ _ x y=>apj x y _
end
section
open Go.Ae
def X0:Xt:=⟨λg=>b_ (aB g 239) 1<|b_ (aB g 220) 3 0,λ_ _ _=>T⟩
def fns:all' (abK 3) Pg.funcs.toList=f:=fQ
def xat(g:Nat):X0 g=0\/XAt Pg g (X0 g):=by
 by_cases I:g=239
 .subst I;exact .inr<|XAt.same Tryz.func239 (fQ) (fQ) (fQ)<|fQ
 .by_cases B:g=220
  .subst B;exact .inr<|XAt.index Tryz.func220 (fQ) (fQ) (fQ)<|fQ
  .left;have a:aB g 239=aA:=by rw[<-dw];exactλh=>I<|bA h
   have b:aB g 220=aA:=by rw[<-dw];exactλh=>B<|bA h
   show b_ (aB g 239) 1 (b_ (aB g 220) 3 0)=0;rw[a,b];rfl
def xs0:XOk Pg X0:=XOk.of xat
def xs:XOk Pg X:=XOk.of xat
def mixed:Pg.follows .mixedOrders=f:=fQ
def anB:∀a t2:aI,acd 3 f (nX Pg X0 4000 33 []<|hpT 3 a t2)=f:=λa t2=>fQ
end
section
open Go.Ae
def ors:Ml Pg X 3:=by
 intro g args v H Q h;replace h:b_ (aB g 33) (orT args H) (b_ (aB g 160) (orW enI srt 1 [] args H)<|b_ (aB g 249) (orR (.func (.func 242) ⟨[]⟩ ⟨[]⟩) args H) T)=Z (v,Q):=h
 by_cases I:g=33
 .subst I;exact agh (ax _) mixed (Ec.ab4 fns) xs0 (Ml.none λ_ _ _=>rfl) Tryz.func33 (fQ) anB h
 by_cases h4:g=160
 .subst h4;exact⟨⟨_,Tryz.func160,fQ⟩,λm w args' b c a=>ag6 apf h b a⟩
 by_cases h5:g=249
 .subst h5;exact⟨⟨_,Tryz.func249,fQ⟩,λm w args' b c a=>ag7 apg Tryz.isAgg331 Tryz.sizeOf331 (Go.Proofs.enters_of Tryz.func242 (fQ) O) anA h b a⟩
 have e:∀k,g≠k->aB g k=aA:=λk d=>by rw[<-dw];exactλh=>d<|bA h
 rw[e 33 I,e 160 h4,e 249 h5]at h;cases h
end
end Go.Proofs.Lu
namespace Go.Proofs.YtpngmpbmokhmiaaGreatDoor
open Go.ChangeShapes Go.WideShapes Go.ChangeAt Go.RowKit
def ahb:(Rows.offerLessRow.wf<|OpenSpec.ofChange Rows.offerLessSpec)=f:=fQ
def ahc:(laidOutB Tryz.prog)=f:=fQ
def closed2:(mapsRowed Tryz.prog)=f:=fQ
def ahd:(Tryz.f7.params.all (Tryz.prog.readableRec ·))=f:=fQ
def ahe:(namedTie Tryz.prog Rows.offerLessRow.named Rows.offerLessSpec.vars)=f:=fQ
def ahf:((Rows.offerLessRow.stops==[]))=f:=fQ
def ahg:((Tryz.prog.stops==[]))=f:=fQ
def ahh:((Rows.offerLessRow.knobs==[]))=f:=fQ
def ahi:((Tryz.prog.stopKnobs==[]))=f:=fQ
def ahj:((Rows.offerLessRow.inPlace==Tryz.prog.inPlace 7))=f:=fQ
def afc:((Rows.offerLessRow.unfollowed==Tryz.prog.unfollowed 7))=f:=fQ
def afd:((Rows.offerLessRow.recurses==Tryz.prog.recurses 7))=f:=fQ
def afe:((Rows.offerLessRow.named==Tryz.prog.varsNamed 7))=f:=fQ
def aff:((Rows.offerLessRow.maps==(Tryz.f7.params.toList++Rows.offerLessSpec.plain.varTypes Tryz.prog).any (Tryz.prog.mapsRec ·)))=f:=fQ
def afg:((Rows.offerLessRow.ifaces==(Tryz.f7.params.toList++Rows.offerLessSpec.plain.varTypes Tryz.prog).any (Tryz.prog.ifacesRec ·)))=f:=fQ
def afh:((Rows.offerLessRow.mapsOut==Tryz.prog.mapsAmong Tryz.f7.resultTypes.toList))=f:=fQ
def afi:((Rows.offerLessRow.loops==(Tryz.f7.params.toList++Rows.offerLessSpec.plain.varTypes Tryz.prog).any (Tryz.prog.loopsFrom ·)))=f:=fQ
def afj:((Rows.offerLessRow.wideKeys==(Tryz.f7.params.toList++Rows.offerLessSpec.plain.varTypes Tryz.prog++Tryz.f7.resultTypes.toList).any (Tryz.prog.wideKeysFrom ·)))=f:=fQ
def afk:(Rows.offerLessSpec.vars.all (Tryz.prog.varReadable ·))=f:=fQ
def afl:(Tryz.f7.resultTypes.all λt=>Tryz.prog.readableRec t&&decide (t<Tryz.prog.types.size))=f:=fQ
def afm:((Rows.offerLessRow.ifacesOut==Tryz.f7.resultTypes.toList.any (Tryz.prog.ifacesRec ·)))=f:=fQ
def afn:((Rows.offerLessRow.loopsOut==Tryz.f7.resultTypes.toList.any (Tryz.prog.loopsFrom ·)))=f:=fQ
def afo:((Rows.offerLessRow.plainKeys==Tryz.prog.plainKeys))=f:=fQ
def afp:(Rows.offerLessRow.shortTexts.isNone)=f:=fQ
def afq:(Tryz.prog.stopsHeard)=f:=fQ
def afr:(Tryz.prog.mayEnter)=f:=fQ
def afs:((Rows.offerLessRow.lifted==Tryz.prog.liftsFinal))=f:=fQ
def aft:((Tryz.prog.make==Z Rows.offerLessRow.make))=f:=fQ
def afu:((Rows.offerLessRow.kinds==(if Rows.offerLessRow.domain.isEmpty then[]else Tryz.f7.params.toList.map λt=>match Tryz.prog.underlying t with|some (.int k)=>Z k|_=>T)))=f:=fQ
def afv:((Rows.offerLessRow.pinned==Rows.offerLessRow.pinnedBy))=f:=fQ
def afw:((Rows.offerLessRow.veiled==(Tryz.f7.params.toList++Rows.offerLessSpec.plain.varTypes Tryz.prog++Tryz.f7.resultTypes.toList).any (Tryz.prog.veiledRec ·)))=f:=fQ
def afx:(Rows.offerLessRow.veiledFits Tryz.prog Tryz.f7.params.toList<|Tryz.f7.params.toList++Rows.offerLessSpec.plain.varTypes Tryz.prog++Tryz.f7.resultTypes.toList)=f:=fQ
set_option maxRecDepth 100000 in
def closed:joinedFacts Tryz.prog 7 Tryz.f7 Rows.offerLessSpec Rows.offerLessRow=f:=by
 unfold joinedFacts;exact(Go.Ae.qJ ((Go.Ae.qJ ((Go.Ae.qJ ((Go.Ae.qJ ((Go.Ae.qJ ((Go.Ae.qJ ((Go.Ae.qJ ((Go.Ae.qJ ((Go.Ae.qJ ((Go.Ae.qJ ((Go.Ae.qJ ((Go.Ae.qJ ((Go.Ae.qJ ((Go.Ae.qJ ((Go.Ae.qJ ((Go.Ae.qJ ((Go.Ae.qJ ((Go.Ae.qJ ((Go.Ae.qJ ((Go.Ae.qJ ((Go.Ae.qJ ((Go.Ae.qJ ((Go.Ae.qJ ((Go.Ae.qJ ((Go.Ae.qJ ((Go.Ae.qJ ((Go.Ae.qJ ((Go.Ae.qJ ((Go.Ae.qJ ((Go.Ae.qJ ((Go.Ae.qJ (ahb)<|ahc))<|closed2))<|ahd))<|ahe))<|ahf))<|ahg))<|ahh))<|ahi))<|ahj))<|afc))<|afd))<|afe))<|aff))<|afg))<|afh))<|afi))<|afj))<|afk))<|afl))<|afm))<|afn))<|afo))<|afp))<|afq))<|afr))<|afs))<|aft))<|afu))<|afv))<|afw))<|afx)
end Go.Proofs.YtpngmpbmokhmiaaGreatDoor
