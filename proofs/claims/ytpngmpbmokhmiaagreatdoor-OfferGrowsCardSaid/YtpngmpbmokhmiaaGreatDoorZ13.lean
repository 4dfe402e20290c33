/-
  Part 13 of the proof. No condition.
-/
import Derived.Test.YtpngmpbmokhmiaaGreatDoorZ04
import Derived.Shelf.Sort.Plain
import Derived.Shelf.SlSortCmp.WholeK
import Derived.Shelf.SlLaysF0
import Derived.Lib.Small
import Derived.Lib.Walk
set_option linter.unusedVariables false
set_option linter.unusedSimpArgs false
set_option maxRecDepth 100000
set_option maxHeartbeats 4000000
set_option linter.defProp false
open Option renaming some->Z,none->T
open Bool renaming true->F,false->aA
open Go renaming Value->D,TypeId->aH,Program->aX,World->cZ
open Go.Value renaming int->bq,slice->u
open Nat renaming beq->aB
open List renaming length->J
noncomputable section
namespace Go.Ae
open Go.Sort
variable{ρ:Go.Shelf.Ren}{α:Type}{args args':C D}{m:Mp}{w:cZ}{v:D}{es gc:Nat}{H Q:R}
def anC(zs:C Int):zs.flatMap enI=zs.map (bq .i64):=by
 induction zs with
 |nil=>rfl
 |cons z zs a=>rw[lZ,a];rfl
def Xg[Inhabited α](enc:α->D)(w:cZ)(b o:Nat)(d:C α):putRow enc w b o d.toArray=putRow id w b o (d.map enc).toArray:=by
 unfold putRow;refine mapBlock_congr _ _ _ _ λc _ _ _=>?_;unfold putCells;apply uM;intro k;simp only[wG,List.size_toArray,aK];cases c[k]? with
 |none=>rfl
 |some x=>
  simp only[Option.map_some]
  by_cases h:o<=k/\k<o+J d
  .have:k-o<J d:=N;rw[if_pos h,if_pos h];simp[this]
  .rw[if_neg h,if_neg h]
def ag8{P:aX}(l:Go.Proofs.Lays.n189 P ρ)(ho:orW enI srt 1 [] args H=Z (v,Q))(r:RH m H w)(n:mX m args args'):
 Calls P (ρ.f 189) ⟨args'⟩ w λe w'=>∃m' v',e=.returned v'/\VR m' v v'/\RH m' Q w'/\Ex m m' H Q w w':=by
 refine adi al0 ho r n λc off d b g _ p s I o i=>?_;cases p;rw[anC]at i|-;refine(Go.Proofs.Any.slices_Sort_int l c off d b w (λj a=>?_) o N).mono ?_
 .have a:j<J b:=a;rw[show(b.toArray)[j]! =b[j] by simp[a]];exact i j _ (by rw[bK,av a];rfl)
 .rintro e w' ⟨rfl,k,q,rfl⟩;refine⟨O,k,q,?_⟩;rw[Xg];rfl
section
open Go.Sort Go.Proofs
def Put.flatK[Inhabited α]{enc:α->C D}{cs:C α->C α}(a:Put enc cs es)(zs:C α):Go.Sort.flatK enc es zs.toArray=(zs.flatMap enc).toArray:=by
 apply uM;intro t
 by_cases h:t<J zs*es
 .have f:t/es<J zs:=Nat.div_lt_of_lt_mul (by rw[wX];exact h);have g:t %es<es:=o9 _ a.pos;have b:=a.el zs (t/es) f [];rw[bF]at b;have c:=oL (zs.flatMap enc) es (t/es)<|t %es;rw[if_pos g,b,Nat.div_add_mod' t es]at c;rw[show(zs.flatMap enc).toArray[t]?=(zs.flatMap enc)[t]? by simp,<-c];have d:=get_flatK enc es zs.toArray t h;have hs:t<(Go.Sort.flatK enc es zs.toArray).size:=by rw[size_flatK];exact h
  rw[wZ _ t hs]at d;rw[bJ hs,d];have e:t %es<J (enc zs[t/es]):=by rw[a.len];exact g
  have i:(zs.toArray)[t/es]! =zs[t/es]:=by rw[rG,wZ zs _ f]
  rw[show zs.toArray[t/es]! =zs[t/es]from i,wZ (enc zs[t/es]) (t %es) e,av e]
 .rw[Array.getElem?_eq_none (by rw[size_flatK];exact p8 h),show(zs.flatMap enc).toArray[t]?=(zs.flatMap enc)[t]? by simp,dw (by rw[a.flat];exact p8 h)]
def cfR(x y:Int×Int):Int:=Go.Lib.compareInt x.1 y.1
def afa:ltOf cfR=ltR:=by
 funext x y;unfold ltOf cfR Go.Lib.compareInt ltR
 by_cases I:x.1<y.1
 .simp[I]
 .by_cases W:y.1<x.1<;>simp[I,W]
def ag9{P:aX}(L:SlLaysF0.n14 P ρ)(E:∀w,(isAgg<|ρ.t 24).run P w=.ok F w)(zE:∀w,(Go.sizeOf<|ρ.t 24).run P w=.ok 2 w)(eg:∀args w,(callFunc gc args).run P w=.ok (.enter gc args) w)(o:∀b off size w,CmpLays P gc #[] enR 2 cfR b off size w)(ho:orR (.func (.func gc) ⟨[]⟩ ⟨[]⟩) args H=Z (v,Q))(W:RH m H w)(K:mX m args args'):
 Calls P (ρ.f 14) ⟨args'⟩ w λe w'=>∃m' v',e=.returned v'/\VR m' v v'/\RH m' Q w'/\Ex m m' H Q w w':=by
 unfold orR at ho;split at ho
 .next a n c l=>
  split at ho
  .next U=>
   generalize agj (u a (n+1) c::l)=k at ho U;refine adi (agi k) ho W K λb off s g i y d h0 I S T=>?_;have⟨r,c',y⟩:=y;injection y with e1 e2
   injection e1 with e3 e4 e5
   subst e2
   have d:i=[.int .i64 0,.int .i64 ((n+1:Nat):Int),.int .i64 (k:Nat),.func (.func gc) ⟨[]⟩ ⟨[]⟩]:=by
    obtain _|⟨_,_,_,_,X,d⟩:=d;obtain _|⟨_,_,_,_,Y,d⟩:=d;obtain _|⟨_,_,_,_,v3,d⟩:=d;obtain _|⟨_,_,_,_,v4,d⟩:=d;cases d;rw[X.of_int,Y.of_int,v3.of_int];cases v4 with
    |sc _ h=>rfl
    |func _ _ _ _ _ M V=>cases M;cases V;rfl
   subst d
   have z:HoldsK enR 2 w b off g.toArray:=λj p=>by
    rw[(agi k).flatK]at p|-;have p:j<J (g.flatMap enR):=p;rw[rG,wZ (g.flatMap enR) j p];exact T j _<|av p
   have:=AnyQ.pdqsortCmpFunc_all L 2 E zE enR cfR gc #[] (afa▸al1) b off s g.toArray w eg (o _ _ _ _) ⟨λ_=>rfl,λx v A=>by simp[enR]at A;rcases A with rfl|rfl<;>rfl,z,S⟩ (J g+1) 0 (J g) k g.toArray w N rfl (SWK.start z) (bD _) (ax _) (by show J g<_;omega) N<|.inl rfl;rw[e4];apply this.mono;rintro e w' ⟨rfl,q,B,rfl⟩;refine⟨O,q,B,?_⟩;show grow (putRow id (Sort.ahead w q) b off<|Go.Sort.flatK enR 2<|pdq (ltOf cfR) g.toArray 0 (J g) k F F) B=_;rw[afa];rw[<-(agi k).flatK (fR k g)];rfl
  .cases ho
 .cases ho
end
end Go.Ae
namespace Go.Proofs.Lu
def qf{P:Go.Program}{n:Nat}{x y:Go.Func}(h:P.funcs[n]?=Z x)(e:x=y):P.funcs[n]?=Z y:=e▸h
def afb:Go.Shelf.Ren:=⟨λ|189=>160|125=>191|257=>190|128=>217|129=>218|294=>208|295=>209|296=>210|297=>211|298=>212|299=>213|216=>214|300=>215|301=>216|328=>230|329=>231|330=>232|331=>233|332=>234|215=>235|343=>247|n=>n,λ|28=>22|46=>164|51=>323|53=>105|183=>317|182=>316|131=>214|218=>333|222=>337|228=>349|229=>245|n=>n,id⟩
def apg:Go.Proofs.Lays.n189 Tryz.prog afb:=⟨fT,qf Tryz.func191 fT,qf Tryz.func217 fT,qf Tryz.func218 fT,qf Tryz.func160 fT,qf Tryz.func235 fT,qf Tryz.func214 fT,qf Tryz.func190 fT,qf Tryz.func208 fT,qf Tryz.func209 fT,qf Tryz.func210 fT,qf Tryz.func211 fT,qf Tryz.func212 fT,qf Tryz.func213 fT,qf Tryz.func215 fT,qf Tryz.func216 fT,qf Tryz.func230 fT,qf Tryz.func231 fT,qf Tryz.func232 fT,qf Tryz.func233 fT,qf Tryz.func234 fT,qf Tryz.func247 fT,Tryz.underlying0,Tryz.isAgg0,Tryz.sizeOf0,Tryz.zeroValue0,Tryz.underlying3,Tryz.isAgg3,Tryz.sizeOf3,Tryz.zeroValue3,Tryz.underlying4,Tryz.isAgg4,Tryz.sizeOf4,Tryz.zeroValue4,Tryz.underlying5,Tryz.isAgg5,Tryz.sizeOf5,Tryz.zeroValue5,Tryz.underlying9,Tryz.isAgg9,Tryz.sizeOf9,Tryz.zeroValue9,Tryz.underlying22,Tryz.isAgg22,Tryz.sizeOf22,Tryz.zeroValue22,Tryz.underlying164,Tryz.isAgg164,Tryz.sizeOf164,Tryz.zeroValue164,Tryz.underlying323,Tryz.isAgg323,Tryz.sizeOf323,Tryz.zeroValue323,Tryz.underlying105,Tryz.isAgg105,Tryz.sizeOf105,Tryz.zeroValue105,Tryz.underlying214,Tryz.isAgg214,Tryz.sizeOf214,Tryz.zeroValue214,Tryz.underlying316,Tryz.isAgg316,Tryz.sizeOf316,Tryz.zeroValue316,Tryz.underlying317,Tryz.isAgg317,Tryz.sizeOf317,Tryz.zeroValue317,Tryz.underlying333,Tryz.isAgg333,Tryz.sizeOf333,Tryz.zeroValue333,Tryz.underlying337,Tryz.isAgg337,Tryz.sizeOf337,Tryz.zeroValue337,Tryz.underlying349,Tryz.isAgg349,Tryz.sizeOf349,Tryz.zeroValue349,Tryz.underlying245,Tryz.isAgg245,Tryz.sizeOf245,Tryz.zeroValue245⟩
def afc:Go.Shelf.Ren:=⟨λ|14=>249|20=>251|21=>252|22=>253|23=>254|24=>255|25=>256|26=>257|27=>258|46=>259|47=>231|48=>232|49=>260|50=>261|15=>191|57=>262|28=>217|29=>218|n=>n,λ|24=>331|22=>218|25=>347|46=>317|45=>316|50=>214|66=>333|39=>164|55=>105|70=>337|76=>349|77=>245|53=>323|n=>n,id⟩
def aph:Go.Proofs.SlLaysF0.n14 Tryz.prog afc:=⟨fT,⟨Tryz.f249.name,jq,qf Tryz.func249 fT⟩,qf Tryz.func191 fT,⟨Tryz.f251.name,jq,qf Tryz.func251 fT⟩,⟨Tryz.f252.name,jq,qf Tryz.func252 fT⟩,⟨Tryz.f253.name,jq,qf Tryz.func253 fT⟩,⟨Tryz.f254.name,jq,qf Tryz.func254 fT⟩,⟨Tryz.f255.name,jq,qf Tryz.func255 fT⟩,⟨Tryz.f256.name,jq,qf Tryz.func256 fT⟩,⟨Tryz.f257.name,jq,qf Tryz.func257 fT⟩,⟨Tryz.f258.name,jq,qf Tryz.func258 fT⟩,qf Tryz.func217 fT,qf Tryz.func218 fT,⟨Tryz.f259.name,jq,qf Tryz.func259 fT⟩,qf Tryz.func231 fT,qf Tryz.func232 fT,⟨Tryz.f260.name,jq,qf Tryz.func260 fT⟩,⟨Tryz.f261.name,jq,qf Tryz.func261 fT⟩,⟨Tryz.f262.name,jq,qf Tryz.func262 fT⟩,Tryz.underlying0,Tryz.isAgg0,Tryz.sizeOf0,Tryz.zeroValue0,Tryz.underlying3,Tryz.isAgg3,Tryz.sizeOf3,Tryz.zeroValue3,Tryz.underlying4,Tryz.isAgg4,Tryz.sizeOf4,Tryz.zeroValue4,Tryz.underlying5,Tryz.isAgg5,Tryz.sizeOf5,Tryz.zeroValue5,Tryz.underlying9,Tryz.isAgg9,Tryz.sizeOf9,Tryz.zeroValue9,Tryz.underlying218,Tryz.isAgg218,Tryz.sizeOf218,Tryz.zeroValue218,Tryz.underlying347,Tryz.isAgg347,Tryz.sizeOf347,Tryz.zeroValue347,Tryz.underlying164,Tryz.isAgg164,Tryz.sizeOf164,Tryz.zeroValue164,Tryz.underlying316,Tryz.isAgg316,Tryz.sizeOf316,Tryz.zeroValue316,Tryz.underlying317,Tryz.isAgg317,Tryz.sizeOf317,Tryz.zeroValue317,Tryz.underlying214,Tryz.isAgg214,Tryz.sizeOf214,Tryz.zeroValue214,Tryz.underlying323,Tryz.isAgg323,Tryz.sizeOf323,Tryz.zeroValue323,Tryz.underlying105,Tryz.isAgg105,Tryz.sizeOf105,Tryz.zeroValue105,Tryz.underlying333,Tryz.isAgg333,Tryz.sizeOf333,Tryz.zeroValue333,Tryz.underlying337,Tryz.isAgg337,Tryz.sizeOf337,Tryz.zeroValue337,Tryz.underlying349,Tryz.isAgg349,Tryz.sizeOf349,Tryz.zeroValue349,Tryz.underlying245,Tryz.isAgg245,Tryz.sizeOf245,Tryz.zeroValue245⟩
section
open Go.Shelf Go.Lib Go.RowKit Go.Ae
def api(x:Int)(w:cZ):Calls Tryz.prog 250 #[.int .i32 x] w λe w'=>e=.returned (.bool aA)/\w'=w:=by
 go_enter Tryz.func250,Tryz.ntmps250
 go_wp2
 go_ret
 exact⟨gD,O⟩
def apj(x y:Int)(w:cZ):Calls Tryz.prog 243 #[.int .i32 x,.int .i32 y] w λe w'=>e=.returned (.int .i64<|compareInt x y)/\w'=w:=by
 go_enter Tryz.func243,Tryz.ntmps243
 go_wp2_with (go_at_call 250;refine(api _ _).mono ?_;rintro e w' ⟨rfl,a⟩;rw[a])
 all_goals(go_ret;refine⟨?_,O⟩;unfold compareInt;(repeat' split)<;>first|rfl|(exfalso;omega))
def apk(x y:Int×Int)(h2:cZ):Calls Tryz.prog 242 #[.agg #[.int .i32 x.1,.int .i32 x.2],.agg #[.int .i32 y.1,.int .i32 y.2]] h2 λe w'=>e=.returned (.int .i64<|compareInt x.1 y.1)/\∃q os',w'=Go.Sort.grow (h2.drewN q) os':=by
 have a:=λb=>apj x.1 y.1 b;generalize compareInt x.1 y.1=r at a|-
 go_enter Tryz.func242,Tryz.ntmps242
 go_wp2_with (go_at_call 243;refine(a _).mono ?_;rintro e w' ⟨rfl,rfl⟩)
 go_ret
 exact⟨O,0,_,by rw[Go.Sort.alloc_eq_grow,Go.Sort.alloc_eq_grow,Go.Sort.grow_grow];rfl⟩
def anD(a off size:Nat)(w:cZ):CmpLays Tryz.prog 242 #[] enR 2 cfR a off size w:=λ_ _ _ _ x y=>apk x y _
end
section
open Go.Ae
def X0:Xt:=⟨λg=>cr (aB g 239) 1<|cr (aB g 220) 3 0,λ_ _ _=>T⟩
def fns:all' (abC 3) Pg.funcs.toList=F:=fT
def xat(g:Nat):X0 g=0\/XAt Pg g (X0 g):=by
 by_cases I:g=239
 .subst I;exact .inr<|XAt.same Tryz.func239 (fT) (fT) (fT)<|fT
 .by_cases W:g=220
  .subst W;exact .inr<|XAt.index Tryz.func220 (fT) (fT) (fT)<|fT
  .left;have a:aB g 239=aA:=by rw[<-dn];exactλh=>I<|bA h
   have b:aB g 220=aA:=by rw[<-dn];exactλh=>W<|bA h
   show cr (aB g 239) 1 (cr (aB g 220) 3 0)=0;rw[a,b];rfl
def xs0:XOk Pg X0:=XOk.of xat
def xs:XOk Pg X:=XOk.of xat
def mixed:Pg.follows .mixedOrders=F:=fT
def anE:∀a t2:aH,ab2 3 F (lW Pg X0 4000 33 []<|hpT 3 a t2)=F:=λa t2=>fT
end
section
open Go.Ae
def ors:Mj Pg X 3:=by
 intro g args v H Q h;replace h:cr (aB g 33) (orT args H) (cr (aB g 160) (orW enI srt 1 [] args H)<|cr (aB g 249) (orR (.func (.func 242) ⟨[]⟩ ⟨[]⟩) args H) T)=Z (v,Q):=h
 by_cases I:g=33
 .subst I;exact agh (ax _) mixed (Ei.abW fns) xs0 (Mj.none λ_ _ _=>rfl) Tryz.func33 (fT) anE h
 by_cases h4:g=160
 .subst h4;exact⟨⟨_,Tryz.func160,fT⟩,λm w args' b c a=>ag8 apg h b a⟩
 by_cases h5:g=249
 .subst h5;exact⟨⟨_,Tryz.func249,fT⟩,λm w args' b c a=>ag9 aph Tryz.isAgg331 Tryz.sizeOf331 (Go.Proofs.enters_of Tryz.func242 (fT) O) anD h b a⟩
 have e:∀k,g≠k->aB g k=aA:=λk d=>by rw[<-dn];exactλh=>d<|bA h
 rw[e 33 I,e 160 h4,e 249 h5]at h;cases h
end
end Go.Proofs.Lu
namespace Go.Proofs.YtpngmpbmokhmiaaGreatDoor
open Go.ChangeShapes Go.WideShapes Go.ChangeAt Go.RowKit
def aha:(Rows.offerGrowsRow.wf<|OpenSpec.ofChange Rows.offerGrowsSpec)=F:=fT
def ahb:(laidOutB Tryz.prog)=F:=fT
def closed2:(mapsRowed Tryz.prog)=F:=fT
def ahc:(Tryz.f8.params.all (Tryz.prog.readableRec ·))=F:=fT
def ahd:(namedTie Tryz.prog Rows.offerGrowsRow.named Rows.offerGrowsSpec.vars)=F:=fT
def ahe:((Rows.offerGrowsRow.stops==[]))=F:=fT
def ahf:((Tryz.prog.stops==[]))=F:=fT
def ahg:((Rows.offerGrowsRow.knobs==[]))=F:=fT
def ahh:((Tryz.prog.stopKnobs==[]))=F:=fT
def ahi:((Rows.offerGrowsRow.inPlace==Tryz.prog.inPlace 8))=F:=fT
def afd:((Rows.offerGrowsRow.unfollowed==Tryz.prog.unfollowed 8))=F:=fT
def afe:((Rows.offerGrowsRow.recurses==Tryz.prog.recurses 8))=F:=fT
def aff:((Rows.offerGrowsRow.named==Tryz.prog.varsNamed 8))=F:=fT
def afg:((Rows.offerGrowsRow.maps==(Tryz.f8.params.toList++Rows.offerGrowsSpec.plain.varTypes Tryz.prog).any (Tryz.prog.mapsRec ·)))=F:=fT
def afh:((Rows.offerGrowsRow.ifaces==(Tryz.f8.params.toList++Rows.offerGrowsSpec.plain.varTypes Tryz.prog).any (Tryz.prog.ifacesRec ·)))=F:=fT
def afi:((Rows.offerGrowsRow.mapsOut==Tryz.prog.mapsAmong Tryz.f8.resultTypes.toList))=F:=fT
def afj:((Rows.offerGrowsRow.loops==(Tryz.f8.params.toList++Rows.offerGrowsSpec.plain.varTypes Tryz.prog).any (Tryz.prog.loopsFrom ·)))=F:=fT
def afk:((Rows.offerGrowsRow.wideKeys==(Tryz.f8.params.toList++Rows.offerGrowsSpec.plain.varTypes Tryz.prog++Tryz.f8.resultTypes.toList).any (Tryz.prog.wideKeysFrom ·)))=F:=fT
def afl:(Rows.offerGrowsSpec.vars.all (Tryz.prog.varReadable ·))=F:=fT
def afm:(Tryz.f8.resultTypes.all λt=>Tryz.prog.readableRec t&&decide (t<Tryz.prog.types.size))=F:=fT
def afn:((Rows.offerGrowsRow.ifacesOut==Tryz.f8.resultTypes.toList.any (Tryz.prog.ifacesRec ·)))=F:=fT
def afo:((Rows.offerGrowsRow.loopsOut==Tryz.f8.resultTypes.toList.any (Tryz.prog.loopsFrom ·)))=F:=fT
def afp:((Rows.offerGrowsRow.plainKeys==Tryz.prog.plainKeys))=F:=fT
def afq:(Rows.offerGrowsRow.shortTexts.isNone)=F:=fT
def afr:(Tryz.prog.stopsHeard)=F:=fT
def afs:(Tryz.prog.mayEnter)=F:=fT
def aft:((Rows.offerGrowsRow.lifted==Tryz.prog.liftsFinal))=F:=fT
def afu:((Tryz.prog.make==Z Rows.offerGrowsRow.make))=F:=fT
def afv:((Rows.offerGrowsRow.kinds==(if Rows.offerGrowsRow.domain.isEmpty then[]else Tryz.f8.params.toList.map λt=>match Tryz.prog.underlying t with|some (.int k)=>Z k|_=>T)))=F:=fT
def afw:((Rows.offerGrowsRow.pinned==Rows.offerGrowsRow.pinnedBy))=F:=fT
def afx:((Rows.offerGrowsRow.veiled==(Tryz.f8.params.toList++Rows.offerGrowsSpec.plain.varTypes Tryz.prog++Tryz.f8.resultTypes.toList).any (Tryz.prog.veiledRec ·)))=F:=fT
def afy:(Rows.offerGrowsRow.veiledFits Tryz.prog Tryz.f8.params.toList<|Tryz.f8.params.toList++Rows.offerGrowsSpec.plain.varTypes Tryz.prog++Tryz.f8.resultTypes.toList)=F:=fT
set_option maxRecDepth 100000 in
def closed:joinedFacts Tryz.prog 8 Tryz.f8 Rows.offerGrowsSpec Rows.offerGrowsRow=F:=by
 unfold joinedFacts;exact(Go.Ae.qK ((Go.Ae.qK ((Go.Ae.qK ((Go.Ae.qK ((Go.Ae.qK ((Go.Ae.qK ((Go.Ae.qK ((Go.Ae.qK ((Go.Ae.qK ((Go.Ae.qK ((Go.Ae.qK ((Go.Ae.qK ((Go.Ae.qK ((Go.Ae.qK ((Go.Ae.qK ((Go.Ae.qK ((Go.Ae.qK ((Go.Ae.qK ((Go.Ae.qK ((Go.Ae.qK ((Go.Ae.qK ((Go.Ae.qK ((Go.Ae.qK ((Go.Ae.qK ((Go.Ae.qK ((Go.Ae.qK ((Go.Ae.qK ((Go.Ae.qK ((Go.Ae.qK ((Go.Ae.qK ((Go.Ae.qK (aha)<|ahb))<|closed2))<|ahc))<|ahd))<|ahe))<|ahf))<|ahg))<|ahh))<|ahi))<|afd))<|afe))<|aff))<|afg))<|afh))<|afi))<|afj))<|afk))<|afl))<|afm))<|afn))<|afo))<|afp))<|afq))<|afr))<|afs))<|aft))<|afu))<|afv))<|afw))<|afx))<|afy)
end Go.Proofs.YtpngmpbmokhmiaaGreatDoor
