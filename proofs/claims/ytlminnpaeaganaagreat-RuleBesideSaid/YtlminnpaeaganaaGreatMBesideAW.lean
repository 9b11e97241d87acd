/- Part of the proof of RuleBeside. No condition. -/
import Derived.Shelf.Sort.AssemblyIn
import Derived.Shelf.Slices.In.SortNone
import Derived.Shelf.Slices.In.CompactI
import Derived.Ground.NamesProg
import Derived.Ground.Names2Prog
import Derived.Test.YtlminnpaeaganaaGreatChecked
import Derived.Test.YtlminnpaeaganaaGreatRows
import Derived.Test.YtlminnpaeaganaaGreatMBesideAG
import Derived.Test.YtlminnpaeaganaaGreatMBesideAV
namespace Go.Proofs.YtlminnpaeaganaaGreat
set_option maxRecDepth 100000
set_option linter.all false
section
open Go Go.RowKit
open Go.Shelf
def oY:Go.Shelf.Ren:=⟨fun|189=>86|191=>86|125=>120|257=>119|128=>161|129=>162|294=>152|295=>153|296=>154|297=>155|298=>156|299=>157|216=>158|300=>159|301=>160|328=>170|329=>171|330=>172|331=>173|332=>174|215=>150|343=>175|n=>n,fun|28=>22|3=>3|46=>101|0=>0|51=>149|53=>83|4=>4|183=>181|182=>180|131=>185|5=>5|9=>9|218=>195|222=>198|228=>200|229=>114|n=>n,fun|n=>n⟩
theorem HX:Go.Proofs.Lays.n189 Tryz.prog oY:={
 mixed:=by kernel_rfl
 f125:=Tryz.func120.trans (congrArg some (by kernel_rfl))
 f128:=Tryz.func161.trans (congrArg some (by kernel_rfl))
 f129:=Tryz.func162.trans (congrArg some (by kernel_rfl))
 f189:=Tryz.func86.trans (congrArg some (by kernel_rfl))
 f215:=Tryz.func150.trans (congrArg some (by kernel_rfl))
 f216:=Tryz.func158.trans (congrArg some (by kernel_rfl))
 f257:=Tryz.func119.trans (congrArg some (by kernel_rfl))
 f294:=Tryz.func152.trans (congrArg some (by kernel_rfl))
 f295:=Tryz.func153.trans (congrArg some (by kernel_rfl))
 f296:=Tryz.func154.trans (congrArg some (by kernel_rfl))
 f297:=Tryz.func155.trans (congrArg some (by kernel_rfl))
 f298:=Tryz.func156.trans (congrArg some (by kernel_rfl))
 f299:=Tryz.func157.trans (congrArg some (by kernel_rfl))
 f300:=Tryz.func159.trans (congrArg some (by kernel_rfl))
 f301:=Tryz.func160.trans (congrArg some (by kernel_rfl))
 f328:=Tryz.func170.trans (congrArg some (by kernel_rfl))
 f329:=Tryz.func171.trans (congrArg some (by kernel_rfl))
 f330:=Tryz.func172.trans (congrArg some (by kernel_rfl))
 f331:=Tryz.func173.trans (congrArg some (by kernel_rfl))
 f332:=Tryz.func174.trans (congrArg some (by kernel_rfl))
 f343:=Tryz.func175.trans (congrArg some (by kernel_rfl))
 t0:=Tryz.underlying0
 a0:=Tryz.isAgg0
 z0:=Tryz.sizeOf0
 v0:=Tryz.zeroValue0
 t3:=Tryz.underlying3
 a3:=Tryz.isAgg3
 z3:=Tryz.sizeOf3
 v3:=Tryz.zeroValue3
 t4:=Tryz.underlying4
 a4:=Tryz.isAgg4
 z4:=Tryz.sizeOf4
 v4:=Tryz.zeroValue4
 t5:=Tryz.underlying5
 a5:=Tryz.isAgg5
 z5:=Tryz.sizeOf5
 v5:=Tryz.zeroValue5
 t9:=Tryz.underlying9
 a9:=Tryz.isAgg9
 z9:=Tryz.sizeOf9
 v9:=Tryz.zeroValue9
 t28:=Tryz.underlying22
 a28:=Tryz.isAgg22
 z28:=Tryz.sizeOf22
 v28:=Tryz.zeroValue22
 t46:=Tryz.underlying101
 a46:=Tryz.isAgg101
 z46:=Tryz.sizeOf101
 v46:=Tryz.zeroValue101
 t51:=Tryz.underlying149
 a51:=Tryz.isAgg149
 z51:=Tryz.sizeOf149
 v51:=Tryz.zeroValue149
 t53:=Tryz.underlying83
 a53:=Tryz.isAgg83
 z53:=Tryz.sizeOf83
 v53:=Tryz.zeroValue83
 t131:=Tryz.underlying185
 a131:=Tryz.isAgg185
 z131:=Tryz.sizeOf185
 v131:=Tryz.zeroValue185
 t182:=Tryz.underlying180
 a182:=Tryz.isAgg180
 z182:=Tryz.sizeOf180
 v182:=Tryz.zeroValue180
 t183:=Tryz.underlying181
 a183:=Tryz.isAgg181
 z183:=Tryz.sizeOf181
 v183:=Tryz.zeroValue181
 t218:=Tryz.underlying195
 a218:=Tryz.isAgg195
 z218:=Tryz.sizeOf195
 v218:=Tryz.zeroValue195
 t222:=Tryz.underlying198
 a222:=Tryz.isAgg198
 z222:=Tryz.sizeOf198
 v222:=Tryz.zeroValue198
 t228:=Tryz.underlying200
 a228:=Tryz.isAgg200
 z228:=Tryz.sizeOf200
 v228:=Tryz.zeroValue200
 t229:=Tryz.underlying114
 a229:=Tryz.isAgg114
 z229:=Tryz.sizeOf114
 v229:=Tryz.zeroValue114 }
def N2:Go.Shelf.Ren:=⟨fun|20=>87|n=>n,fun|22=>22|3=>3|4=>4|0=>0|n=>n,fun|n=>n⟩
theorem Fg:Go.Proofs.Lays2.n20 Tryz.prog N2:={
 mixed:=by kernel_rfl
 f20:=Tryz.func87.trans (congrArg some (by kernel_rfl))
 t0:=Tryz.underlying0
 a0:=Tryz.isAgg0
 z0:=Tryz.sizeOf0
 v0:=Tryz.zeroValue0
 t3:=Tryz.underlying3
 a3:=Tryz.isAgg3
 z3:=Tryz.sizeOf3
 v3:=Tryz.zeroValue3
 t4:=Tryz.underlying4
 a4:=Tryz.isAgg4
 z4:=Tryz.sizeOf4
 v4:=Tryz.zeroValue4
 t22:=Tryz.underlying22
 a22:=Tryz.isAgg22
 z22:=Tryz.sizeOf22
 v22:=Tryz.zeroValue22
 i3:=by kernel_rfl }
open Go.Sort
theorem Il{cs:List aa}(h:cs.all zh=true):cs=(cs.map UT).map (aa.int .i64):=by
 induction cs with
 |nil=>rfl
 |cons c cs az=>
  simp only[List.all_cons,Bool.and_eq_true]at h;simp only[List.map_cons];rw[←az h.2];congr 1;cases c with
  |int k n=>cases k<;>first|rfl|simp[zh]at h
  |_=>simp[zh]at h
section
variable{P:Program}{φ:bo}{w w':World}{m:Mem}{id b:Nat}{cur:Array Value}{e:TypeId}
theorem DN(φ:bo)(w:World):∀sn:List Int,bl φ w (sn.map (aa.int .i64)) (sn.map (Value.int .i64))
 |[]=>by simp only[List.map_nil,bl]
 |z::sn=>⟨_,_,rfl,rfl,DN φ w sn⟩
theorem N4(sn:List Int)(hle:sn.length<=cur.size):(cur.toList.take (0+0)++sn.map (Value.int .i64)++cur.toList.drop (0+0+(sn.map (Value.int .i64)).length)).toArray=putCells (Value.int .i64) 0 sn.toArray cur:=by
 apply Array.ext
 ·simp[putCells];omega
 ·intro i U ab;simp only[putCells,Nat.zero_le,true_and,Nat.zero_add,Nat.sub_zero,Array.getElem_mapIdx,List.size_toArray,List.take_zero,List.nil_append,List.length_map,List.getElem_toArray];by_cases hi:i<sn.length
  ·rw[if_pos hi,List.getElem_append_left (by simpa using hi)];simp[hi]
  ·rw[if_neg hi,List.getElem_append_right (by simpa using hi)];simp only[List.length_map,List.getElem_drop,Array.getElem_toList];congr 1;omega
theorem N5[cQ](P:Program)(hm:c0 φ m w)(au:φ.arr id=some b)(hb:w.heap[b]?=some (.cells cur e (0,0)))(sn:List Int)(hle:sn.length<=cur.size)
  (U:∀c,c<w.heap.size->c≠b->w'.heap[c]?=w.heap[c]?) (ab:w'.heap[b]?=some (.cells (putCells (Value.int .i64) 0 sn.toArray cur) e (0,0))) (ao:w.heap.size<=w'.heap.size)
  (ar:w'.os=w.os) (hu:w'.output=w.output):
  c0 φ { m with β:=λi=>(m.β i).sub (nd id 0 (sn.map (aa.int .i64))) } w'/\Step φ w φ w' (nd id 0 (sn.map (aa.int .i64))):=by
 have Ff:∀i,φ.arr i=some b->i=id:=λi h=>hm.hp i id b h au;have lR:(sn.map (aa.int .i64)).all aa.one=true:=by rw[List.all_eq_true];intro p ae;obtain⟨z,_,rfl⟩:=List.mem_map.1 ae;rfl
 obtain⟨w1,g1,g2,g3,g4,⟨m2,g5,g6⟩,g7,g8,g9⟩:=P1 (P:=P) (off:=0) au Ff (sn.map (aa.int .i64)) (sn.map (Value.int .i64)) 0 w cur (DN φ w sn) lR (λp ae=>by obtain⟨z,_,rfl⟩:=List.mem_map.1 ae;rfl) hb (by simpa using hle);have bh:=run_storeCells_at P b 0 e (sn.map (Value.int .i64)) 0 cur w hb (by simpa using hle) (λv ai=>by obtain⟨z,_,rfl⟩:=List.mem_map.1 ai;rfl);rw[g1]at bh;injection bh with _ bh;have Xk:=jK hb;have fg:w1.heap[b]?=w'.heap[b]?:=by rw[bh,setRow_heap w b cur _ e _ hb,ab,N4 sn hle]
 have Ju:∀c,c<w.heap.size->w'.heap[c]?=w1.heap[c]?:=λc ah=>by
  by_cases tn:c=b
  ·rw[tn,fg]
  ·rw[U c ah tn,g3 c tn]
 have aq:kk φ w1 φ w':=⟨λ_ _ h=>h,λ_ _ h=>h,λ_ _ h=>h,by omega,λi c ah=>Ju c (jN hm ah),λc ah _=>Ju c (by omega)⟩;have vk:∀q c,aY φ w q c->aY φ w' (q.sub (nd id 0 (sn.map (aa.int .i64)))) c:=λq c h=>aY.keeps aq _ _ (g2 q c h);refine⟨⟨λi hi=>?_,hm.dt,λi c ah=>?_,hm.jo,hm.hp,hm.sep,λl o h=>(U l (jK (hm.gw l o h)) (λe=>by have:=hm.gw l o h;rw[e,hb]at this;cases this)).trans (hm.gw l o h)⟩,⟨vk,ar,hu,ao,λc aU fu _=>⟨U c aU (λe=>fu (.inr ⟨id,by rw[e];exact au⟩)),fu⟩⟩⟩
 ·rcases hm.box i hi with⟨cy,dM⟩|⟨c,m2,e',gv,tm,ir⟩
  ·exact .inl ⟨H2 _ _ cy,dM⟩
  exact .inr ⟨c,m2,e',gv,(U c (mo hm gv) (λe=>hm.sep i id c gv (by rw[e];exact au))).trans tm,Iy vk ir⟩
 ·obtain⟨cy,dM⟩:=hm.arr i c ah;by_cases tn:c=b
  ·rw[tn];exact⟨cy,kz.cells ab⟩
  ·exact⟨cy,dM.of_eq (U c (jN hm ah) tn)⟩
theorem Pq[cQ](hm:c0 φ m w)(au:φ.arr id=some b)(hb:w.heap[b]?=some (.cells cur e (0,0))){Tv:Array Value}
  (U:∀c,c<w.heap.size->c≠b->w'.heap[c]?=w.heap[c]?) (ab:w'.heap[b]?=some (.cells Tv e (0,0))) (ao:w.heap.size<=w'.heap.size)
  (ar:w'.os=w.os) (hu:w'.output=w.output):
  c0 (φ.drop id) { m with β:=λi=>(m.β i).sub [.kill id] } w'/\Step φ w (φ.drop id) w' [.kill id]/\¬(φ.drop id).own b:=by
 have fu:¬(φ.drop id).own b:=by
  rintro(⟨j,aC⟩|⟨j,aC⟩)
  ·exact hm.sep j id b aC au
  ·simp only[bo.drop]at aC;split at aC
   ·cases aC
   ·rename_i bU;exact bU (hm.hp j id b aC au)
 have bU:∀i c,i≠id->φ.arr i=some c->c≠b:=λi c hi ah e=>hi (hm.hp i id b (by rw[←e];exact ah) au);have aq:sB id φ w (φ.drop id) w':=by refine⟨λ_ _ h=>h,λi c hi h=>by simp[bo.drop,hi,h],λc ah aI k=>aI (AJ k),ao,λi c hi ah=>U c (jN hm ah) (bU i c hi ah),λc ah aI=>U c ah (λe=>aI (.inr ⟨id,by rw[e];exact au⟩))⟩
 have vk:∀q c,aY φ w q c->aY (φ.drop id) w' (q.sub [.kill id]) c:=λq c h=>aY.kill aq q c h;refine⟨⟨λi hi=>?_,hm.dt,λi c ah=>?_,hm.jo,λi j c cy dM=>?_,λi j c cy dM=>?_,λl o h=>(U l (jK (hm.gw l o h)) (λe=>by have:=hm.gw l o h;rw[e,hb]at this;cases this)).trans (hm.gw l o h)⟩,⟨vk,ar,hu,ao,λc aU aI _=>⟨aq.rest c aU aI,aq.rG c aU aI⟩⟩,fu⟩
 ·rcases hm.box i hi with⟨cy,dM⟩|⟨c,m2,e',gv,tm,ir⟩
  ·exact .inl ⟨H2 _ _ cy,dM⟩
  exact .inr ⟨c,m2,e',gv,(U c (mo hm gv) (λe=>hm.sep i id c gv (by rw[e];exact au))).trans tm,Iy vk ir⟩
 ·simp only[bo.drop]at ah;split at ah
  ·cases ah
  ·rename_i hi;obtain⟨cy,dM⟩:=hm.arr i c ah;exact⟨cy,dM.of_eq (U c (jN hm ah) (bU i c hi ah))⟩
 ·simp only[bo.drop]at cy dM;split at cy<;>first|(cases cy;done)|skip
  split at dM<;>first|(cases dM;done)|skip
  exact hm.hp i j c cy dM
 ·simp only[bo.drop]at dM;split at dM<;>first|(cases dM;done)|skip
  exact hm.sep i j c cy dM
end
theorem Dr{w:World}{b:Nat}{cur:Array Value}{e:TypeId}(hb:w.heap[b]?=some (.cells cur e (0,0)))(sn:List Int)(n:Nat):
  (putRow (Value.int .i64) (Go.Sort.ahead w n) b 0 sn.toArray).heap[b]?=some (.cells (putCells (Value.int .i64) 0 sn.toArray cur) e (0,0))/\(putRow (Value.int .i64) (Go.Sort.ahead w n) b 0 sn.toArray).heap.size=w.heap.size /\
   (∀c,c≠b->(putRow (Value.int .i64) (Go.Sort.ahead w n) b 0 sn.toArray).heap[c]?=w.heap[c]?):=by
 refine⟨?_,by simp[putRow,mapBlock,Go.Sort.ahead],λc ah=>?_⟩
 ·simp[putRow,mapBlock,Go.Sort.ahead,Array.getElem?_modify,hb,onCells]
 ·simp[putRow,mapBlock,Go.Sort.ahead,Array.getElem?_modify,Ne.symm ah]
theorem N6{w:World}{os:Array Obj}:(∀c,c<w.heap.size->(grow w os).heap[c]?=w.heap[c]?)/\w.heap.size<=(grow w os).heap.size:=by
 refine⟨λc ah=>?_,by simp[grow]⟩;simp only[grow];rw[Array.getElem?_append_left ah]
theorem holds_of{φ:bo}{w:World}{b:Nat}{cur:Array Value}{e:TypeId}{sn:List Int}(hb:w.heap[b]?=some (.cells cur e (0,0)))(dA:b7 φ w b (sn.map (aa.int .i64)) 0):Holds (Value.int .i64) w b 0 sn.toArray:=by
 intro j aC;have jB:j<sn.length:=by simpa using aC
 obtain⟨c,ah,ai⟩:=r5.1 dA j (.int .i64 sn[j]) (by simp[jB]);refine⟨?_,by simp[World.frozen?,hb]⟩;rw[ah];have:c=.int .i64 sn[j]:=ai;rw[this];simp[jB]
theorem Kh[cQ]{φ:bo}{w:World}{b:Nat}{l:List aa}{τ:Tape}{d:Nat}(h:b7 φ w b l 0):b7 φ (a8 w τ d) b l 0:=by
 rw[r5]at h⊢;intro j p ae;obtain⟨c,ah,ai⟩:=h j p ae;exact⟨c,ah,aY.keeps (DS φ w τ d) _ _ ai⟩
theorem JA{D:Option Nat}{n:Nat}{P:Program}{f:FuncId}{args:Array Value}{w:World}{R:Ending->World->Prop}(h:CallsIn (Fence.list [oY.f 189,oY.f 191,oY.f 257,oY.f 125,oY.f 294,oY.f 295,oY.f 296,oY.f 297,oY.f 298,oY.f 299,oY.f 216,oY.f 300,oY.f 301,oY.f 129,oY.f 328,oY.f 329,oY.f 330,oY.f 331,oY.f 332,oY.f 215,oY.f 343] D) n P f args w R):CallsIn (Fence.list ag0 D) n P f args w R:=
 h.wider (by decide)
theorem BS{F:Fence}{n:Nat}{P:Program}{f:FuncId}{args:Array Value}{w:World}{R R':Ending->World->Prop}(h:CallsIn F n P f args w R)(ad:∀e w',R e w'->R' e w'):CallsIn F n P f args w R':=
 ⟨h.1,λcs ah=>let⟨e,w',fr,r,s⟩:=h.2 cs ah;⟨e,w',fr,ad _ _ r,s⟩⟩
theorem Qv:@Sc my Tryz.prog 86:=by
 letI:cQ:=my
 intro cs m lh hlen;refine⟨λid φ af w hm ai=>?_,λφ af w hm ai=>?_⟩
 ·obtain⟨v,cB,rfl,ai,e0⟩:=ai;simp only[bl]at e0;subst e0;obtain⟨ak,a,cap,rfl,lg,h⟩:=ai;rcases h with h|⟨b,rfl,⟨au,cur,e,hb,gN⟩,dA⟩
  ·exact absurd h.1 (by simp)
  have hcs:=Il lh;rw[hcs]at dA;have rI:(cs.map UT).length=cs.length:=by simp
  have ah:∀τ d D,CallsIn (Fence.list ag0 (some D)) 66 Tryz.prog 86 #[.slice (some ⟨b,0,none⟩) (cs.map UT).length cap] (a8 w τ d) (λe w'=>e=.returned (.tuple #[])/\∃τ d n os,w'=grow (putRow (Value.int .i64) (Go.Sort.ahead (a8 w τ d) n) b 0 ((cs.map UT).mergeSort λx y=>decide (x<=y)).toArray) os):=λτ d D=>
   BS (JA (AnyS.slices_Sort_int_in HX D b 0 cap (cs.map UT) (a8 w τ d) (holds_of (w:=a8 w τ d) hb (Kh dA)) (jK hb) (by rw[rI];omega))) λe w' ⟨U,n,os,ab⟩=>⟨U,τ,d,n,os,ab⟩
  rw[rI]at ah;refine @lb.mono my _ _ _ _ _ _ (@zv my _ _ _ ag0 _ _ _ _ (.inl ⟨rfl,rfl⟩) (by decide) ah λe w' h=>⟨_,h.1⟩) ?_;rintro Dm w' ⟨rfl,τ,d,n,os,rfl⟩;obtain⟨f1,f2,f3⟩:=Dr (w:=a8 w τ d) hb ((cs.map UT).mergeSort λx y=>decide (x<=y)) n;obtain⟨k1,bf⟩:=N6 (w:=putRow (Value.int .i64) (Go.Sort.ahead (a8 w τ d) n) b 0 ((cs.map UT).mergeSort λx y=>decide (x<=y)).toArray) (os:=os);replace f2:_=w.heap.size:=f2;obtain⟨CO,hF⟩:=N5 (w':=grow (putRow (Value.int .i64) (Go.Sort.ahead (a8 w τ d) n) b 0 ((cs.map UT).mergeSort λx y=>decide (x<=y)).toArray) os) Tryz.prog hm au hb ((cs.map UT).mergeSort λx y=>decide (x<=y)) (by rw[List.length_mergeSort,rI];omega)
   (λc ah bU=>by rw[k1 c (by rw[f2];exact ah),f3 c bU];rfl) (by rw[k1 b (by rw[f2];exact jK hb),f1]) (by omega) rfl rfl
  exact⟨_,.undef,_,_,φ,rfl,by simp only[aY],CO,hF,rfl,rfl,rfl⟩
 ·obtain⟨v,cB,rfl,ai,e0⟩:=ai;simp only[bl]at e0;subst e0;simp only[aY]at ai;subst ai;have ah:∀τ d D,CallsIn (Fence.list ag0 (some D)) 2 Tryz.prog 86 #[.slice none 0 0] (a8 w τ d) (λe w'=>e=.returned (.tuple #[])/\∃τ d,w'=a8 w τ d):=λτ d D=>
   BS (JA (AnyS.slices_Sort_int_none_in HX D none 0 (a8 w τ d))) λe w' ⟨U,ab⟩=>⟨U,τ,d,ab⟩
  refine @lb.mono my _ _ _ _ _ _ (@zv my _ _ _ ag0 _ _ _ _ (.inl ⟨rfl,rfl⟩) (by decide) ah λe w' h=>⟨_,h.1⟩) ?_;rintro Dm w' ⟨rfl,τ,d,rfl⟩;exact⟨_,.undef,_,_,φ,rfl,by simp only[aY],hm.a8 τ d,sD φ w τ d,rfl,rfl,rfl⟩
theorem go_eq(d:Array Int):∀(ys pre:List Int)(p:Int),d.toList=pre++p::ys->((List.range' (pre.length+1) ys.length).filter (Lib.keeps d)).map (λj=>d[j]!)=J0 p ys
 |[],pre,p,h=>by simp[J0]
 |y::ys,pre,p,h=>by
  have aT:d[pre.length]! = p:=by
   have:d.toList[pre.length]?=some p:=by rw[h];simp
   rw[Array.getElem?_toList]at this;simp[getElem!_def,this]
  have U:d[pre.length+1]! = y:=by
   have:d.toList[pre.length+1]?=some y:=by rw[h];simp
   rw[Array.getElem?_toList]at this;simp[getElem!_def,this]
  have az:=go_eq d ys (pre++[p]) y (by rw[h];simp);simp only[List.length_append,List.length_singleton]at az;simp only[List.length_cons,List.range'_succ,J0];by_cases aF:y=p
  ·rw[List.filter_cons_of_neg (by simp[Lib.keeps,aT,U,aF]),if_pos aF,az,aF]
  ·rw[List.filter_cons_of_pos (by simp[Lib.keeps,aT,U,aF]),if_neg aF,List.map_cons,U,az]
theorem D1(sn:List Int):Lib.compact sn=agM sn:=by
 cases sn with
 |nil=>rfl
 |cons x xs=>
  have:=go_eq (x::xs).toArray xs [] x (by simp);unfold Lib.compact Lib.compactUpTo;rw[List.range_eq_range',List.length_cons,List.range'_succ,List.filter_cons_of_pos (by simp[Lib.keeps]),List.map_cons];simp only[List.length_nil,Nat.zero_add]at this⊢;rw[this];simp[agM]
theorem ON:@Sd my Tryz.prog 87:=by
 letI:cQ:=my
 intro cs m lh hlen;refine⟨λid φ af w hm ai=>?_,λφ af w hm ai=>?_⟩
 ·obtain⟨v,cB,rfl,ai,e0⟩:=ai;simp only[bl]at e0;subst e0;obtain⟨ak,a,cap,rfl,lg,h⟩:=ai;rcases h with h|⟨b,rfl,⟨au,cur,e,hb,gN⟩,dA⟩
  ·exact absurd h.1 (by simp)
  have hcs:=Il lh;rw[hcs]at dA;have rI:(cs.map UT).length=cs.length:=by simp
  have ah:∀τ d D,CallsIn (Fence.list _ (some D)) 0 Tryz.prog 87 #[.slice (some ⟨b,0,none⟩) (cs.map UT).length cap] (a8 w τ d) (λe w'=>e=.returned (.slice (some ⟨b,0,none⟩) (Lib.compact (cs.map UT)).length cap)/\∃τ d n,w'=putRow (Value.int .i64) (Go.Sort.ahead (a8 w τ d) n) b 0 (Lib.compact (cs.map UT)++List.replicate (cs.length-(Lib.compact (cs.map UT)).length) 0).toArray):=λτ d D=>
   BS (AnyS.slices_Compact_int_in Fg D b 0 cap (cs.map UT) (a8 w τ d) (holds_of (w:=a8 w τ d) hb (Kh dA)) (by rw[rI];omega) (by rw[rI];exact lg)) λe w' ⟨U,n,ab⟩=>⟨U,τ,d,n,by rw[ab,rI]⟩
  rw[rI]at ah;refine @lb.mono my _ _ _ _ _ _ (@zv my _ _ _ [87] _ _ _ _ (.inr ⟨rfl,rfl⟩) (by decide) ah λe w' h=>⟨_,h.1⟩) ?_;rintro Dm w' ⟨rfl,τ,d,n,rfl⟩;obtain⟨GA,bO⟩:∃GA,GA=Lib.compact (cs.map UT)++List.replicate (cs.length-(Lib.compact (cs.map UT)).length) 0:=⟨_,rfl⟩;rw[←bO];obtain⟨f1,f2,f3⟩:=Dr (w:=a8 w τ d) hb GA n;replace f2:_=w.heap.size:=f2;obtain⟨CO,hF,Gz⟩:=Pq (w':=putRow (Value.int .i64) (Go.Sort.ahead (a8 w τ d) n) b 0 GA.toArray) hm au hb (λc ah bU=>f3 c bU) f1 (by omega) rfl rfl;have hle:(Lib.compact (cs.map UT)).length<=cs.length:=by
   unfold Lib.compact Lib.compactUpTo;rw[List.length_map];refine Nat.le_trans (List.length_filter_le _ _) ?_;simp
  have iu:(E4 cs).length=(Lib.compact (cs.map UT)).length:=by simp[E4,D1]
  refine⟨_,.sl none 1 0 (E4 cs).length (E4 cs),_,_,φ.drop id,rfl,?_,CO,hF,rfl,rfl,rfl⟩;rw[←iu];refine⟨by simp,_,cap,rfl,by omega,.inr ⟨b,rfl,⟨Gz,by rw[f2];exact jK hb⟩,sA λj p aC=>?_⟩⟩;have tl:j<(E4 cs).length:=(List.getElem?_eq_some_iff.1 aC).1;have ae:p=.int .i64 ((Lib.compact (cs.map UT))[j]'(by omega)):=by
   have:=aC;simp only[E4,D1]at this tl⊢;rw[List.getElem?_map]at this;obtain⟨z,Cm,Vk⟩:=Option.map_eq_some_iff.1 this;rw[←Vk];congr 1;rw[List.getElem?_eq_some_iff]at Cm;obtain⟨_,Cm⟩:=Cm;rw[←Cm]
  subst ae;refine⟨_,?_,rfl⟩;have Vu:j<cur.size:=by omega
  simp only[World.cell?,f1,putCells,Nat.zero_add];have VU:j<GA.length:=by rw[bO,List.length_append,List.length_replicate];omega
  simp only[Option.isSome_none,Bool.false_eq_true,if_false,Array.getElem?_mapIdx,Array.getElem?_eq_getElem Vu,Option.map_some,Nat.zero_le,true_and,List.size_toArray,VU,if_true,Nat.sub_zero];congr 2;have:GA[j]?=some ((Lib.compact (cs.map UT))[j]'(by omega)):=by
   rw[bO,List.getElem?_append_left (by omega)];simp
  simp[getElem!_def,this]
 ·obtain⟨v,cB,rfl,ai,e0⟩:=ai;simp only[bl]at e0;subst e0;simp only[aY]at ai;subst ai;have ah:∀τ d D,CallsIn (Fence.list [87] (some D)) 0 Tryz.prog 87 #[.slice none 0 0] (a8 w τ d) (λe w'=>e=.returned (.slice none 0 0)/\∃τ d,w'=a8 w τ d):=λτ d D=>
   BS (AnyS.slices_Compact_int_empty_in Fg D none 0 (a8 w τ d)) λe w' ⟨U,ab⟩=>⟨U,τ,d,ab⟩
  refine @lb.mono my _ _ _ _ _ _ (@zv my _ _ _ [87] _ _ _ _ (.inr ⟨rfl,rfl⟩) (by decide) ah λe w' h=>⟨_,h.1⟩) ?_;rintro Dm w' ⟨rfl,τ,d,rfl⟩;exact⟨_,.bC,_,_,φ,rfl,by simp only[aY],hm.a8 τ d,sD φ w τ d,rfl,rfl,rfl⟩
end
section
open Go Go.RowKit
def tj:FuncId->Option (Option (Nat×Nat)):=λg=>if g=53 then some (some (5,0))else if g=163 then some none else none
noncomputable def GL:iN:=⟨Tryz.prog,⟨11,some 86,some 87⟩,UY,UZ,tj,S4++[{g:=9,k:=[ao 0 2044 [ae 82] [82,5,7,6,9],ao 0 4093 [] [],ao 0 8186 [ae 15] [5,7,6,9,15],ao 0 261960 [ae 139] [139,5,7,6,9,15]]},
 {g:=12,k:=[ao 0 29 [⟨true,1,1,some (3,.cZ),false⟩] [4,5],ao 0 58 [ae 6,⟨true,1,1,some (3,.cZ),false⟩] [5,0,4,6]]},
 {g:=13,k:=[ao 0 125 [⟨true,3,1,none,false⟩,⟨true,3,2,none,false⟩] [4,7,0],ao 0 252 [ae 53] [53,4,7,0],ao 0 253 [] [4,7,0] [0]],c:=[(0,3018)],r:=[(53,(some (5,0)),1,true)]},
 {g:=15},
 {g:=16,k:=[ao 0 29 [ae 5] [5],ao 0 58 [ae 5,ae 6] [1,0,6,5],ao 0 464 [ae 18] [18,1,0,6,5]]},
 {g:=17,k:=[ao 0 14 [ae 5] [5,0],ao 0 28 [ae 5] [0,1,5],ao 0 224 [ae 17] [17,0,1,5]]},
 {g:=18},
 {g:=20,k:=[ao 0 510 [ae 0] [0]]},
 {g:=23},
 {g:=30,k:=[ao 0 29 [⟨true,1,0,some (1,.cZ),false⟩] [2,3],ao 0 58 [ae 4,⟨true,1,0,some (1,.cZ),false⟩] [3,0,2,4]]},
 {g:=35,s:=[5005,5005011005],k:=[(5005,7,⟨[⟨true,5,0,some (1,.cZ),false⟩],[],[],[],true⟩),(5005,14,⟨[ae 18,⟨true,5,0,some (1,.cZ),false⟩],[],[3,5,4,6,17,18],[],true⟩),(5005,3687,⟨[⟨true,5,0,some (1,.cZ),false⟩],[],[3,5,4,6,17,18],[],true⟩),(5005,7374,⟨[ae 30,⟨true,5,0,some (1,.cZ),false⟩],[],[8,3,9,28,5,4,6,17,18,29,30],[],true⟩),(5005,943923,⟨[⟨true,5,0,some (1,.cZ),false⟩],[],[8,3,9,28,5,4,6,17,18,29,30],[],true⟩),(5005,1887846,⟨[ae 36,⟨true,5,0,some (1,.cZ),false⟩],[],[11,8,3,34,9,28,5,4,6,17,18,29,30,35,36],[],true⟩),(5005011005,255,⟨[⟨true,5,0,some (1,.cZ),false⟩],[],[],[],true⟩)],t:=[(0,8,0)]},
 {g:=37,s:=[5005,5005011005],k:=[(5005,7,⟨[⟨true,4,0,some (1,.cZ),false⟩],[],[],[],true⟩),(5005,14,⟨[ae 18,⟨true,4,0,some (1,.cZ),false⟩],[],[3,5,4,6,17,18],[],true⟩),(5005,3687,⟨[⟨true,4,0,some (1,.cZ),false⟩],[],[3,5,4,6,17,18],[],true⟩),(5005,7374,⟨[ae 30,⟨true,4,0,some (1,.cZ),false⟩],[],[8,3,9,28,5,4,6,17,18,29,30],[],true⟩),(5005,943923,⟨[⟨true,4,0,some (1,.cZ),false⟩],[],[8,3,9,28,5,4,6,17,18,29,30],[],true⟩),(5005,1887846,⟨[ae 36,⟨true,4,0,some (1,.cZ),false⟩],[],[11,8,3,34,9,28,5,4,6,17,18,29,30,35,36],[],true⟩),ao 5005011005 6 [ae 28] [28,5,7,8],(5005011005,7,⟨[⟨true,4,0,some (1,.cZ),false⟩],[],[],[],true⟩)]},
 {g:=40},
 {g:=41,k:=[ao 0 61 [] [],ao 0 122 [ae 21] [19,20,21]]},
 {g:=42},
 {g:=43},
 {g:=45,k:=[ao 0 29 [] [],ao 0 58 [ae 5] [1,0,5]]},
 {g:=47,k:=[ao 0 253 [⟨false,11,0,some (1,.cZ),false⟩] [11],ao 0 506 [⟨false,11,0,some (1,.cZ),false⟩,ae 35] [5,1,8,10,34,35,11],ao 0 64819 [⟨false,11,0,some (1,.cZ),false⟩] [5,1,8,10,34,11,35]]},
 {g:=50,k:=[ao 0 125 [] [],ao 0 250 [ae 37] [11,2,9,10,37],ao 0 32051 [] [11,2,9,10,37],ao 0 64102 [ae 13] [13,11,12,2,9,10,37],ao 0 8205093 [⟨true,4,0,some (1,.cZ),false⟩] [13,12,11,2,9,10,37,14],ao 0 16410186 [ae 50,⟨true,4,0,some (1,.cZ),false⟩] [14,13,11,12,2,9,10,37,49,50]]},
 {g:=51},
 {g:=52},
 {g:=53,s:=[1003],k:=[ao 0 29 [] [6,4,2,0] [0],ao 0 58 [ae 7] [2,4,0,6,7] [0],ao 0 125 [⟨true,0,3,none,false⟩] [6,4],ao 1003 29 [] [3] [0],ao 1003 58 [ae 4] [0,3,4] [0]],i:=[63]},
 {g:=54,k:=[ao 0 29 [⟨true,2,0,some (1,.cZ),false⟩] [8,9,5,0,3,2],ao 0 58 [ae 10,⟨true,2,0,some (1,.cZ),false⟩] [9,5,8,0,3,2,10],ao 0 125 [⟨true,2,1,none,false⟩] [8,9,5,0,3],ao 0 253 [⟨true,2,2,none,false⟩] [8,9,5,0]]},
 {g:=55},
 {g:=56,k:=[ao 0 29 [] [6,3,2],ao 0 58 [ae 22] [6,3,20,2,21,22],ao 0 61 [] [6,3],ao 0 122 [ae 37] [6,35,3,36,37]]},
 {g:=57,s:=[1012,1013,1013001002,1013001002700027,1013001002700027002004,1013001002700027002004004012,1013001002700027010005,1013001002700027010005004012],k:=[(1013001002,13,⟨[⟨true,6,0,some (2,.cZ),false⟩],[],[2],[],true⟩),(1013001002700027,28,⟨[ae 19,⟨true,6,0,some (2,.cZ),false⟩],[],[19,3,4,6],[],true⟩),(1013001002700027,125,⟨[ae 7],[],[7,3,6],[],true⟩),(1013001002700027,250,⟨[ae 7,ae 23],[],[3,4,6,22,23,7],[],true⟩),(1013001002700027,32051,⟨[ae 7],[],[3,4,6,22,7,23],[],true⟩),(1013001002700027002004,13,⟨[⟨true,6,0,some (2,.cZ),false⟩],[],[],[],true⟩),(1013001002700027002004,26,⟨[ae 13,⟨true,6,0,some (2,.cZ),false⟩],[],[2,5,1,6,3,4,12,13],[],true⟩),(1013001002700027002004,3378,⟨[ae 29,⟨true,6,0,some (2,.cZ),false⟩],[],[29,2,5,1,6,3,4,12,13],[],true⟩),ao 1013001002700027002004004012 13 [] [2],(1013001002700027010005,13,⟨[],[0],[],[],true⟩),(1013001002700027010005,26,⟨[ae 13],[0],[2,5,1,6,3,4,12,13],[],true⟩),(1013001002700027010005,3378,⟨[ae 29],[0],[29,2,5,1,6,3,4,12,13],[],true⟩),ao 1013001002700027010005004012 13 [] [2]]},
 {g:=59},
 {g:=60},
 {g:=70},
 {g:=72},
 {g:=77,k:=[ao 0 58 [ae 9] [1,8,9,3] [0]],o:=[(0,5)]},
 {g:=78},
 {g:=79,k:=[ao 0 13 [] [0],ao 0 61 [ae 3] [3],ao 0 122 [ae 3,ae 4] [0,4,3]]},
 {g:=80,k:=[ao 0 13 [] [0],ao 0 61 [ae 3] [3],ao 0 122 [ae 3,ae 4] [0,4,3]]},
 {g:=88,k:=[ao 0 6 [ae 6] [6]]},
 {g:=89},
 {g:=90,k:=[ao 0 29 [] [1],ao 0 58 [ae 16] [14,1,15,16],ao 0 60 [ae 33] [33]]},
 {g:=93,k:=[ao 0 29 [⟨false,3,0,some (1,.cZ),false⟩] [3],ao 0 58 [⟨false,3,0,some (1,.cZ),false⟩,ae 5] [0,5,3],ao 0 7475 [⟨false,3,0,some (1,.cZ),false⟩] [0,3,5]]},
 {g:=94,k:=[ao 0 29 [ae 9] [6,9,8]]},
 {g:=95,k:=[ao 0 61 [⟨false,10,0,some (1,.cZ),false⟩] [10],ao 0 122 [⟨false,10,0,some (1,.cZ),false⟩,ae 25] [9,6,7,23,24,25,10] [] [3,5,7],ao 0 15667 [⟨false,10,0,some (1,.cZ),false⟩] [9,6,7,23,24,10,25]]},
 {g:=97},
 {g:=98},
 {g:=99,k:=[ao 0 29 [] [1],ao 0 58 [ae 12] [10,1,11,12],ao 0 60 [ae 35] [35]]},
 {g:=109,k:=[ao 0 13 [] [],ao 0 26 [ae 8] [0,1,7,8]]},
 {g:=110,k:=[ao 0 13 [] [0,1],ao 0 61 [ae 5] [5],ao 0 122 [ae 5,ae 6] [0,1,6,5],ao 0 3913 [ae 5] [0,1,5,6]]},
 {g:=111},
 {g:=112},
 {g:=113,k:=[ao 0 13 [] [1,0],ao 0 26 [ae 11] [1,9,0,10,11]]},
 {g:=124,k:=[ao 0 29 [] [],ao 0 58 [ae 10] [0,8,9,10],ao 0 14950 [ae 28] [28,0,8,9,10]]},
 {g:=125},
 {g:=126},
 {g:=150}]⟩
noncomputable def cA(g:FuncId):Option Tree:=GL.cA g
section
theorem J3:(GL.cA 53).isSome=true:=by kernel_rfl
theorem J4:(GL.cA 163).isSome=true:=by kernel_rfl
theorem EH[cQ]:E2 Tryz.prog 23 ⟨11,some 86,some 87⟩ tj cA:=GL.S5 (by kernel_rfl) λg r h=>by
 replace h:tj g=some r:=h;unfold tj at h;split at h
 ·rename_i e;subst e;exact J3
 split at h
 ·rename_i e;subst e;exact J4
 cases h
end
noncomputable def E(P:Program)(k:Nat)(ω:b2)(g:FuncId)(a:List aa):Option aa:=jD P 23 cA pj 4096 k ω g a
theorem ac5:@mu my Tryz.prog pn ⟨11,some 86,some 87⟩:=@mu.mk my _ _ _ (λ_=>@ab7 my) (λf h=>by injection h with h;subst h;exact Qv) (λf h=>by injection h with h;subst h;exact ON)
theorem IH(k:Nat):@jq my Tryz.prog pn (E Tryz.prog k):=(@C9 my Tryz.prog _ _ _ _ _ _ _ (by kernel_rfl) (@EH my) XH ac5 k).1
instance amw:cQ:=my
end
section
open Go Go.RowKit Go.WideShapes Go.ChangeShapes
theorem Oo{DI:List aa->Prop}{m:Mem}:∀{bz:List aa},(∀q∈bz,q.plain=true)->im DI m bz bz
 |[],_=>rfl
 |q::bz,h=>⟨q,bz,rfl,.inl ⟨rfl,h q (by simp)⟩,Oo λx aj=>h x (by simp[aj])⟩
theorem own:ownKnob Tryz.prog.godebug=none:=by kernel_rfl
theorem laidOut:laidOutB Tryz.prog=true:=by kernel_rfl
end
section
open Go Go.RowKit Go.WideShapes Go.ChangeShapes Go.Conc
theorem XO{W:World}(h:W.ShapedOpen Tryz.prog):Tryz.prog.globals.size<=W.heap.size:=by
 have key:∀g,g<Tryz.prog.globals.size->((((begin Tryz.prog (λ_ _=>0) default).world).heap[g]?).bind Obj.row?).isSome=true->g<W.heap.size:=λg aN aj=>by
  obtain⟨⟨zero,t⟩,bO⟩:=Option.isSome_iff_exists.1 aj;obtain⟨cs,U,_⟩:=h.1 g zero t aN bO;exact(Array.getElem?_eq_some_iff.1 U).1
 have aI:Tryz.prog.globals.size=0\/((((begin Tryz.prog (λ_ _=>0) default).world).heap[Tryz.prog.globals.size-1]?).bind Obj.row?).isSome=true:=.inr (by kernel_rfl);rcases aI with aT|aT
 ·omega
 ·by_cases U:Tryz.prog.globals.size=0
  ·omega
  ·have:=key _ (by omega) aT;omega
section
variable{H:Type}{enc:TypeId×Value->H}
theorem XM{os:Os}{f:FuncId}{fn:Func}{s:ChangeSpec}{conds:List PathCond}{apart fresh handsOn again:Bool}{k:Nat}{bt:TypeId}(started:os.Started)(dX:Tryz.prog.funcs[f]?=some fn)
  (witness:∃(w:World)(tape:Tape)(i:Input),w.os=os/\(w.forCall tape i).Shaped Tryz.prog/\i.vars=[]/\Input.okWide Tryz.prog (w.forCall tape i) .any w.heap.size f i /\
   s.pre6 enc Tryz.prog fn conds apart (w.forCall tape i).memory i.args/\({}:Assume).holds Tryz.prog (lone (Frame.enter Tryz.prog f i.args .normal) [] (w.forCall tape i)))
  (ak:laidOutB Tryz.prog=true) (ai:s.vars=[]) (F8:fn.resultTypes=#[bt]) (F9:Tryz.prog.underlying bt=some .bool) (aq:fn.params.toList.all (sN Tryz.prog k)=true) (mE:∀t∈fn.params.toList,Tryz.prog.readableRec t=true/\t<Tryz.prog.types.size)
  (ao:∀ds:List (DataW H),ds.length=fn.params.size->s.fn H (ds++[])={ results:=[.lit (.bool true)],args:=ds }) (aw:iC f=true) (c1:Tryz.prog.inits.idxOf? f=none) (acn:apN f=true)
  (e4:∀bz,qu Tryz.prog k fn.params.toList bz->∀m,@gL my Tryz.prog f bz m λv E m'=>v=.bool true/\E=[]/\m'=m):
  ReturnsInLeavingWide {} Tryz.checked os f .any (s.pre6 enc Tryz.prog fn conds apart) (s.post enc Tryz.prog fn apart fresh handsOn again):=by
 refine returnsInLeavingWide_of_good (C:=Tryz.checked) own started witness ?_;intro w tape i _ nk _ fU nY akw;obtain⟨_,_,_,cC,zn,_,_,_,_,zi⟩:=fU;have e:cC=fn:=Option.some.inj (zn.symm.trans dX);subst e;obtain⟨⟨ds,gs,before,hw,ah⟩,bO⟩:=nY;have KG:=DataW.Whole.of_heap (w':=w.forCall tape i) (by rfl) hw;exact aaL ak ai F8 F9 aq mE ao aw c1 acn e4 (base:=w.heap.size) (XO nk) zi KG
end
end
section
open Go Go.RowKit Go.WideShapes Go.ChangeShapes
theorem Nh(ej:∀bz,qu Tryz.prog 6 Tryz.f9.params.toList bz->∀ω,E Tryz.prog 20 ω 9 bz=some (.bool true))(os:Os)(started:os.Started)(H:Type)(enc:TypeId×Value->H):
  ReturnsInLeavingWide {} Tryz.checked os 9 .any (Rows.ruleBesideSpec.pre6 enc Tryz.prog Tryz.f9 Rows.ruleBesideRow.domain false) (Rows.ruleBesideSpec.post enc Tryz.prog Tryz.f9 false true false false):=by
 letI:=my
 refine XM (k:=6) (bt:=4) started Tryz.func9
  (ChangeSpec.witness6 (enc:=enc) (C:=Tryz.checked) false ⟨#[],#[.slice none 0 0],[]⟩ 9 (by kernel_rfl) (by kernel_rfl) (by kernel_rfl) (by kernel_rfl))
  laidOut rfl rfl (by kernel_rfl) (by kernel_rfl) (by
  intro t a1;have:Tryz.f9.params.toList.all (λt=>Tryz.prog.readableRec t&&decide (t<Tryz.prog.types.size))=true:=by kernel_rfl
  have:=List.all_eq_true.1 this t a1;simpa using this) (λds ak=>?_) (by kernel_rfl) (by kernel_rfl) (by kernel_rfl) (λbz aH m=>?_)
 ·match ds,ak with
  |[d0],_=>rfl
 ·refine @gL.mono my _ _ _ _ _ _ ((IH 20).zG 9 bz (λω=>by rw[ej bz aH ω];rfl) bz m (Oo (Om aH))) ?_;rintro v E m' ⟨⟨ω,U⟩,_,ab,al⟩;rw[ej bz aH ω]at U;injection U with U;exact⟨U.symm,ab,al⟩
theorem NR(ej:∀bz,qu Tryz.prog 6 Tryz.f9.params.toList bz->∀ω,E Tryz.prog 20 ω 9 bz=some (.bool true)):Rows.RuleBesideSaid:=
 OpenClaim.holds_of_wide_leaving 9 Tryz.f9 rfl rfl rfl rfl rfl rfl rfl ⟨rfl,rfl,rfl,rfl,rfl⟩ rfl rfl rfl rfl rfl (by kernel_rfl) Tryz.func9 (by kernel_rfl)
  (of_decide_eq_true (by kernel_rfl)) (by unfold Func.isWrapper;first|(rw[if_pos (by decide +kernel)];kernel_rfl)|(rw[if_neg (by decide +kernel)];exact⟨rfl,rfl⟩))
  (λos started H enc _=>Nh ej os started H enc)
end
section
open Go Go.RowKit
section
variable{P:Program}{C:b2->FuncId->List aa->Option aa}{n:Nat}{R:Out->Prop}{ρ:List aa}
@[simp]theorem dk{p:Prim}{t:Tree}:bN P C n (.av p t) ρ R↔∃v,p.run P ρ=some v/\bN P C n t (ρ++[v]) R:=by
 refine⟨λh=>by letI:=jx;exact h.av,λ⟨v,h,k⟩ ω=>?_⟩;obtain⟨o,ar,cn⟩:=k ω;exact⟨o,by simp only[eval,h];exact ar,cn⟩
@[simp]theorem uE{v:aS}:bN P C n (.ret v) ρ R↔R (.val (v.den ρ)):=by
 refine⟨λh=>?_,λh ω=>⟨_,rfl,h⟩⟩;obtain⟨o,ar,cn⟩:=h gP;simp only[eval,Option.some.injEq]at ar;subst ar;exact cn
@[simp]theorem kG{L:Nat}{l:List aS}:bN P C n (.jump L l) ρ R↔R (.jump L (ep ρ l)):=by
 refine⟨λh=>?_,λh ω=>⟨_,rfl,h⟩⟩;obtain⟨o,ar,cn⟩:=h gP;simp only[eval,Option.some.injEq]at ar;subst ar;exact cn
def xJ(x:Bool)(A B:Prop):Prop:=(x=true->A)/\(x=false->B)
theorem gR{x:Bool}{A B:Prop}(h:x=true->A)(k:x=false->B):xJ x A B:=⟨h,k⟩
@[simp]theorem Ig{A B:Prop}:xJ true A B↔A:=by simp[xJ]
@[simp]theorem Ol{A B:Prop}:xJ false A B↔B:=by simp[xJ]
def Kk(v:aa)(A B:Prop):Prop:=(v=.bool true/\A)\/(v=.bool false/\B)
@[simp]theorem hV{b:Bool}{A B:Prop}:Kk (.bool b) A B↔xJ b A B:=by cases b<;>simp[Kk,xJ]
@[simp]theorem run_ite{c:aR}{a b:Tree}:bN P C n (.ite c a b) ρ R↔Kk (c.den ρ) (bN P C n a ρ R) (bN P C n b ρ R):=by
 refine⟨λh=>by letI:=jx;exact h.ite,λh ω=>?_⟩;rcases h with⟨h,k⟩|⟨h,k⟩
 ·obtain⟨o,ar,cn⟩:=k ω;exact⟨o,by simp only[eval,h];exact ar,cn⟩
 ·obtain⟨o,ar,cn⟩:=k ω;exact⟨o,by simp only[eval,h];exact ar,cn⟩
theorem gb{g:FuncId}{args:List aS}{t:Tree}{Q:aa->Prop}(h:∀ω,∃v,C ω g (ep ρ args)=some v/\Q v)(k:∀v,Q v->bN P C n t (ρ++[v]) R):bN P C n (.call g args t) ρ R:=by
 intro ω;obtain⟨v,U,ab⟩:=h ω.l;obtain⟨o,ar,cn⟩:=k v ab ω.r;exact⟨o,by simp only[eval,U];exact ar,cn⟩
theorem AD{f:aR}{g:FuncId}{caps:List aa}{args:List aS}{t:Tree}{Q:aa->Prop}(aQ:f.den ρ=.fn g caps)(h:∀ω,∃v,C ω g (ep ρ args++caps)=some v/\Q v)(k:∀v,Q v->bN P C n t (ρ++[v]) R):bN P C n (.kL f args t) ρ R:=by
 intro ω;obtain⟨v,U,ab⟩:=h ω.l;obtain⟨o,ar,cn⟩:=k v ab ω.r;exact⟨o,by simp only[eval,aQ,U];exact ar,cn⟩
theorem hY{L:Nat}{b k:Tree}(J:List aa->Prop)(h:bN P C n b ρ (fV L J R))(aq:∀af,J af->bN P C n k (ρ++af) R):bN P C n (.join L b k) ρ R:=by
 intro ω;obtain⟨o,ar,cn⟩:=h ω.l;cases o with
 |val v=>exact⟨_,by simp only[eval,ar],cn⟩
 |jump cL af=>
  by_cases e:cL=L
  ·subst e;simp only[fV,if_true]at cn;obtain⟨o',eC,ni⟩:=aq af cn ω.r;exact⟨o',by simp only[eval,ar,if_true];exact eC,ni⟩
  ·simp only[fV,if_neg e]at cn;exact⟨_,by simp only[eval,ar,if_neg e],cn⟩
theorem o7{L:Nat}{init:List aS}{b:Tree}(I:Nat->List aa->Prop)(N:Nat)(gq:N<n)(aT:I N (ep ρ init))(ao:∀j af,I j af->bN P C n b (ρ++af) (fV L (λcB=>∃j5,j5<j/\I j5 cB) R)):bN P C n (.loop L init b) ρ R:=by
 have key:∀k j af,j<k->I j af->∀ω,∃o,iter (λω af=>eval P C n b ω (ρ++af)) L k ω af=some o/\R o:=by
  intro k;induction k with
  |zero=>intro j af h;omega
  |succ k az=>
   intro j af aC iM ω;obtain⟨o,ar,cn⟩:=ao j af iM ω.l;cases o with
   |val v=>exact⟨_,by simp only[iter,ar],cn⟩
   |jump cL cB=>
    by_cases e:cL=L
    ·subst e;simp only[fV,if_true]at cn;obtain⟨j5,aU,aip⟩:=cn;obtain⟨o',eC,ni⟩:=az j5 cB (by omega) aip ω.r;exact⟨o',by simp only[iter,ar,if_true];exact eC,ni⟩
    ·simp only[fV,if_neg e]at cn;exact⟨_,by simp only[iter,ar,if_neg e],cn⟩
 intro ω;obtain⟨o,ar,cn⟩:=key n N _ gq aT ω;exact⟨o,by simp only[eval];exact ar,cn⟩
@[simp]theorem mj{L:Nat}{J:List aa->Prop}{af:List aa}:fV L J R (.jump L af)↔J af:=by simp[fV]
theorem Y4{L cL:Nat}{J:List aa->Prop}{af:List aa}(h:cL≠L):fV L J R (.jump cL af)↔R (.jump cL af):=by simp[fV,h]
@[simp]theorem acg{L:Nat}{J:List aa->Prop}{v:aa}:fV L J R (.val v)↔R (.val v):=by simp[fV]
end
abbrev mR:=Nat->b2->FuncId->List aa->Option aa
def ks(C:mR)(k:Nat)(g:FuncId)(args:List aa)(Q:aa->Prop):Prop:=∀ω,∃v,C k ω g args=some v/\Q v
theorem ks.mono{C:mR}{k:Nat}{g:FuncId}{args:List aa}{Q lB:aa->Prop}(h:ks C k g args Q)(aH:∀v,Q v->lB v):ks C k g args lB:=λω=>by
 obtain⟨v,U,ab⟩:=h ω;exact⟨v,U,aH v ab⟩
abbrev dT:=ks (E Tryz.prog)
theorem lO{k:Nat}{g:FuncId}{args:List aa}{t:Tree}{fn:Func}{Q:aa->Prop}(a1:cA g=some t)(aQ:Tryz.prog.funcs[g]?=some fn)(gN:dd (flagsOf 23 fn) args=true)(h:bN Tryz.prog (E Tryz.prog k) 4096 t args λo=>∃v,o=.val v/\v.plain=true/\Q v):dT (k+1) g args Q:=by
 intro ω;obtain⟨o,ar,v,rfl,ae,gI⟩:=h ω;refine⟨v,?_,gI⟩;unfold E;simp only[jD,a1,aQ,gN,if_true];have bc:=ar;unfold E at bc;rw[bc];simp[ae]
noncomputable def zx(g:FuncId):Bool:=(PP.cA g).isSome&&(g != 103&&g != 58)
class oX(C:mR):Prop where
 of:∀{k:Nat}{g:FuncId}{args:List aa}{t:Tree}{fn:Func}{Q:aa->Prop},zx g=true->cA g=some t->Tryz.prog.funcs[g]?=some fn->dd (flagsOf 23 fn) args=true->(bN Tryz.prog (C k) 4096 t args λo=>∃v,o=.val v/\v.plain=true/\Q v)->ks C (k+1) g args Q
instance:oX (E Tryz.prog):=⟨λ_=>lO⟩
theorem sU{C:mR}[oX C]{k:Nat}{g:FuncId}{args:List aa}{t:Tree}{fn:Func}{Q:aa->Prop}(a1:cA g=some t)(ak:zx g=true)(aQ:Tryz.prog.funcs[g]?=some fn)(gN:dd (flagsOf 23 fn) args=true)(h:bN Tryz.prog (C k) 4096 t args λo=>∃v,o=.val v/\v.plain=true/\Q v):ks C (k+1) g args Q:=oX.of ak a1 aQ gN h
attribute [simp] Prim.run aS.den aR.den ep cM ll vc na Bg zj zk vd uW tL xK A5 wO List.getD_cons_succ List.getD_cons_zero
@[simp]theorem akl{k:IntKind}{x:Int}:(aa.int k x).one=true:=rfl
@[simp]theorem aj1{b:Bool}:(aa.bool b).one=true:=rfl
@[simp]theorem aj2:aa.bC.one=true:=rfl
@[simp]theorem aks{id:Option Nat}{a b c:Nat}{l:List aa}:(aa.sl id a b c l).one=true:=rfl
@[simp]theorem akt{f:FuncId}{l:List aa}:(aa.fn f l).one=true:=rfl
@[simp]theorem akm{l:List aa}:(aa.agg l).one=false:=rfl
@[simp]theorem ajP{k:IntKind}{x:Int}:(aa.int k x).plain=true:=by simp[aa.plain]
@[simp]theorem ajH{b:Bool}:(aa.bool b).plain=true:=by simp[aa.plain]
@[simp]theorem ajI:aa.bC.plain=true:=by simp[aa.plain]
@[simp]theorem aj3{a b c:Nat}{l:List aa}:(aa.sl none a b c l).plain=bG l:=by simp[aa.plain]
@[simp]theorem ajQ{l:List aa}:(aa.agg l).plain=bG l:=by simp[aa.plain]
@[simp]theorem ajR{l:List aa}:(aa.bD l).plain=jO l:=by simp[aa.plain]
@[simp]theorem plain_fn{f:FuncId}{l:List aa}:(aa.fn f l).plain=bG l:=by simp[aa.plain]
@[simp]theorem ajJ{o:Nat}{l:List aa}:(aa.bJ none o l).plain=bG l:=by simp[aa.plain]
attribute [simp] bG jO
abbrev ax(n:Int):aa:=.int .i64 n
abbrev bv(b:Bool):aa:=.bool b
section
variable{P:Program}{t:TypeId}{k:IntKind}{a b:Int}
@[simp]theorem aj4:eB P .add t (.int k a) (.int k b)=some (.int k (k.wrap (a+b))):=by simp[eB]
@[simp]theorem Pl:eB P .sub t (.int k a) (.int k b)=some (.int k (k.wrap (a-b))):=by simp[eB]
@[simp]theorem aj5:eB P .mul t (.int k a) (.int k b)=some (.int k (k.wrap (a*b))):=by simp[eB]
@[simp]theorem aj6:eB P .eql t (.int k a) (.int k b)=some (.bool (decide (a=b))):=by simp[eB]
@[simp]theorem aj7:eB P .neq t (.int k a) (.int k b)=some (.bool (decide (a≠b))):=by simp[eB]
@[simp]theorem aj8:eB P .lss t (.int k a) (.int k b)=some (.bool (decide (a<b))):=by simp[eB]
@[simp]theorem aj9:eB P .leq t (.int k a) (.int k b)=some (.bool (decide (a<=b))):=by simp[eB]
@[simp]theorem aka:eB P .gtr t (.int k a) (.int k b)=some (.bool (decide (b<a))):=by simp[eB]
@[simp]theorem akb:eB P .geq t (.int k a) (.int k b)=some (.bool (decide (b<=a))):=by simp[eB]
theorem D3(h:b≠0):eB P .rem t (.int k a) (.int k b)=some (.int k (a.tmod b)):=by simp[eB,h]
theorem aaC(h:b≠0):eB P .quo t (.int k a) (.int k b)=some (.int k (k.wrap (a.tdiv b))):=by simp[eB,h]
@[simp]theorem akn{x:Bool}:rH .not (.bool x)=some (.bool !x):=rfl
end
theorem wrap64{n:Int}(U:-9223372036854775808<=n)(ab:n<=9223372036854775807):IntKind.i64.wrap n=n:=by
 simp[IntKind.wrap,IntKind.bits,IntKind.signed];omega
theorem Qw{n:Int}(U:0<=n)(ab:n<18446744073709551616):IntKind.u64.wrap n=n:=by
 simp[IntKind.wrap,IntKind.bits,IntKind.signed];omega
def dI(x:aa)(l:List Int):Prop:=(x=.bC/\l=[])\/∃off,x=.sl none 1 off l.length (l.map ax)
theorem uj(l:List Int):bG (l.map ax)=true:=by
 induction l with
 |nil=>rfl
 |cons a l az=>simp[bG,aa.plain,az]
theorem dI.plain{x:aa}{l:List Int}(h:dI x l):x.plain=true/\x.one=true:=by
 rcases h with⟨rfl,_⟩|⟨off,rfl⟩
 ·exact⟨rfl,rfl⟩
 ·exact⟨by simp only[aa.plain];exact uj l,rfl⟩
theorem Kl:Tryz.prog.underlying 22=some (.slice 3):=by kernel_rfl
theorem dI.len{x:aa}{l:List Int}(h:dI x l):ht Tryz.prog 22 x=some (ax l.length):=by rcases h with⟨rfl,rfl⟩|⟨off,rfl⟩<;>simp[ht,Kl]
theorem Fu{x:aa}{l:List Int}(h:dI x l){i:Int}{k:IntKind}(aT:0<=i)(U:i<l.length):kp 1 x (.int k i)=some (.agg [ax (l.getD i.toNat 0)]):=by
 rcases h with⟨rfl,rfl⟩|⟨off,rfl⟩
 ·simp at U;omega
 ·have aU:i.toNat<l.length:=by omega
  have e:((l.map ax).drop (i.toNat*1)).take 1=[ax (l.getD i.toNat 0)]:=by
   rw[Nat.mul_one,List.drop_eq_getElem_cons (by simpa using aU)];simp[List.getD_eq_getElem?_getD,aU]
  simp only[kp];rw[if_pos ⟨aT,U,trivial,by rw[e];rfl⟩,e]
end
section
open Go Go.RowKit
theorem aeQ:Tryz.prog.underlying 83=some (.int .u64):=by kernel_rfl
theorem JM:Tryz.prog.underlying 3=some (.int .i64):=by kernel_rfl
abbrev pQ:aa:=.ptr 0 0
theorem age(k:Nat):dT (k+1) 62 [pQ] λv=>∃x:Int,v=.int .u64 x/\0<=x/\x<4294967296:=by
 intro ω;refine⟨.int .u64 ((ω []%4294967296:Nat):Int),by simp[E,jD,show cA 62=none from rfl,pj,nU],_,rfl,by omega,by omega⟩
theorem m8(k:Nat)(n:Int)(aI:n<4294967295)(qv:-9223372036854775808<=n):dT (k+2) 23 [pQ,ax n] λv=>∃x,v=ax x/\0<=x/\x<=max n 0:=by
 refine lO (t:=t23) (by kernel_rfl) (fn:=Tryz.f23) (by kernel_rfl) rfl ?_;simp[t23,ag,aD,aM];refine gR (λh=>?_) (λh=>?_)<;>simp at h
 ·omega
 ·refine gb (age k) ?_;rintro v ⟨x,rfl,lv,dG⟩;have aK:IntKind.i64.wrap (n+1)=n+1:=wrap64 (by omega) (by omega);have aO:IntKind.u64.wrap (n+1)=n+1:=Qw (by omega) (by omega);have hb:x*(n+1)<4294967296*(n+1):=Int.mul_lt_mul_of_pos_right dG (by omega);have ix:0<=x*(n+1):=Int.mul_nonneg lv (by omega);have bS:IntKind.u64.wrap (x*(n+1))=x*(n+1):=Qw ix (by omega);have aH:0<=(x*(n+1)).fdiv 4294967296/\(x*(n+1)).fdiv 4294967296<=n:=by
   rw[Int.fdiv_eq_ediv_of_nonneg _ (by decide)];omega
  have b8:IntKind.i64.wrap ((x*(n+1)).fdiv 4294967296)=(x*(n+1)).fdiv 4294967296:=wrap64 (by omega) (by omega);simp[q5,aeQ,JM,aK,aO,bS,eB,IntKind.bits,b8,aa.plain];exact⟨aH.1,by omega⟩
theorem td(k:Nat)(lo hi:Int)(aT:0<=hi-lo)(U:hi-lo<4294967295)(ab:-1000000<=lo)(al:lo<=1000000):dT (k+3) 52 [pQ,ax lo,ax hi] λv=>∃x,v=ax x/\lo<=x/\x<=hi:=by
 refine lO (t:=t52) (by kernel_rfl) (fn:=Tryz.f52) (by kernel_rfl) rfl ?_;simp[t52,ag,aD,aM,wrap64 (n:=hi-lo) (by omega) (by omega)];refine gb (m8 k (hi-lo) (by omega) (by omega)) ?_;rintro v ⟨x,rfl,lv,dG⟩;simp[wrap64 (n:=lo+x) (by omega) (by omega),aa.plain];omega
def Uu(v:aa):Prop:=∃b,v=.bool b
@[simp]theorem akc{b:Bool}:Uu (.bool b):=⟨b,rfl⟩
theorem Km(k:Nat)(n:Int)(aT:0<=n)(U:n<1000000):dT (k+3) 55 [pQ,ax n] Uu:=by
 refine lO (t:=t55) (by kernel_rfl) (fn:=Tryz.f55) (by kernel_rfl) rfl ?_;simp[t55,ag,aD,aM,wrap64 (n:=n-1) (by omega) (by omega)];refine gb (m8 k (n-1) (by omega) (by omega)) ?_;rintro v ⟨x,rfl,lv,dG⟩;simp[aaC,aa.plain]
theorem zl(k:Nat){x:aa}{l:List Int}(h:dI x l)(ak:0<l.length)(er:l.length<1000000):dT (k+3) 51 [pQ,x] λv=>∃a,v=ax a/\a∈l:=by
 refine lO (t:=t51) (by kernel_rfl) (fn:=Tryz.f51) (by kernel_rfl) (by simp[dd,flagsOf,h.plain]) ?_;simp[t51,ag,aD,aM,h.len,wrap64 (n:=(l.length:Int)-1) (by omega) (by omega)];refine gb (m8 k ((l.length:Int)-1) (by omega) (by omega)) ?_;rintro v ⟨i,rfl,F5,rJ⟩;have aU:i.toNat<l.length:=by omega
 simp[Fu h F5 (by omega),aa.plain,List.getD_eq_getElem?_getD,aU]
end
section
open Go Go.RowKit
def m9(l:List Int):aa:=match l with
 |[]=>.bC
 |a::l=>.sl none 1 0 (l.length+1) ((a::l).map ax)
theorem rh(l:List Int):dI (m9 l) l:=by
 cases l with
 |nil=>exact .inl ⟨rfl,rfl⟩
 |cons a l=>exact .inr ⟨0,rfl⟩
@[simp]theorem aaD(ρ:List aa)(l:List Int):iU ρ 1 .cZ (.agg (l.map ax))=some (m9 l):=by
 cases l with
 |nil=>rfl
 |cons a l=>simp[iU,isNil,m9]
@[simp]theorem akd(ρ:List aa)(l:List Int):iU ρ 1 .real (.agg (l.map ax))=some (.sl none 1 0 l.length (l.map ax)):=by simp[iU,isNil]
theorem Ih{l:List Int}{bytes:Nat}{a:Int}(hb:bytes<=64)(ak:l.length<1000000):uW 1 bytes (.agg (l.map ax)) (.sl none 1 0 1 [ax a])=some (.agg ((l++[a]).map ax)):=by
 simp;have:(l.length+1)*bytes<=(l.length+1)*64:=Nat.mul_le_mul_left _ hb;omega
structure aX where
 sp:aa
 st:List Int
 lines:Int
 width:Int
def aX.cells(r:aX):List aa:=[r.sp,ax r.lines,ax r.width]
structure aX.ok(r:aX):Prop where
 c5:dI r.sp r.st
 fI:1<=r.st.length
 ei:r.st.length<=3
 st:∀s∈r.st,2<=s/\s<=20
 hn:2<=r.lines
 k5:r.lines<=12
 w1:1<=r.width
 w2:r.width<=60
theorem agf(k:Nat):dT (k+4) 30 [pQ] λv=>∃r:aX,v=.agg r.cells/\r.ok:=by
 refine lO (t:=t30) (by kernel_rfl) (fn:=Tryz.f30) (by kernel_rfl) rfl ?_;simp only[t30,ag,aD,aM];refine gb (zl k (l:=[6,9,12]) (.inr ⟨0,rfl⟩) (by decide) (by decide)) ?_;rintro v ⟨mN,rfl,U⟩;have fG:6<=mN/\mN<=12:=by simp at U;omega
 refine gb (td k 2 mN (by omega) (by omega) (by omega) (by omega)) ?_;rintro v ⟨qD,rfl,ab,ha⟩;refine gb (td k 1 60 (by omega) (by omega) (by omega) (by omega)) ?_;rintro v ⟨ua,rfl,al,od⟩;simp only[dk];refine⟨ax ua,by simp[na],?_⟩;refine gb (zl k (l:=[30,32,40,ua]) (.inr ⟨0,rfl⟩) (by simp) (by simp)) ?_;rintro v ⟨GD,rfl,bm⟩;have FL:1<=GD/\GD<=60:=by simp at bm;omega
 simp only[dk];refine⟨ax qD,by simp[na],ax GD,by simp[na],?_⟩;refine gb (td k 1 3 (by omega) (by omega) (by omega) (by omega)) ?_;rintro v ⟨Vg,rfl,et,T1⟩;refine hY (λaf=>∃l:List Int,af=[.agg (l.map ax)]/\1<=l.length/\l.length<=3/\∀s∈l,2<=s/\s<=20) ?_ ?_
 ·refine o7 (λj af=>∃l:List Int,af=[ax j,.agg (l.map ax)]/\(l.length:Int)+j=Vg/\∀s∈l,2<=s/\s<=20) Vg.toNat (by omega) ⟨[],by simp;omega,by simp;omega,by simp⟩ ?_;rintro j af ⟨l,rfl,ak,ao⟩;simp;refine gR (λh=>?_) (λh=>?_)<;>simp at h
  ·refine gb (td k 5 9 (by omega) (by omega) (by omega) (by omega)) ?_;rintro v ⟨a,rfl,au,kR⟩;refine gb (td k 5 9 (by omega) (by omega) (by omega) (by omega)) ?_;rintro v ⟨b,rfl,hb,dB⟩;refine gb (td k 2 20 (by omega) (by omega) (by omega) (by omega)) ?_;rintro v ⟨c,rfl,ah,gv⟩;simp only[dk];refine⟨ax a,by simp[na],ax b,by simp[na],ax c,by simp[na],?_⟩;refine gb (zl k (l:=[a,b,c]) (.inr ⟨0,rfl⟩) (by simp) (by simp)) ?_;rintro v ⟨d,rfl,aV⟩;simp only[dk];refine⟨ax d,by simp[na],_,Ih (by decide) (by omega),?_⟩;simp[wrap64 (n:=(j:Int)-1) (by omega) (by omega)];refine⟨j-1,by omega,l++[d],by simp;omega,by simp;omega,?_⟩;intro s tv;rcases List.mem_append.1 tv with bc|bc
   ·exact ao s bc
   ·simp at bc aV;omega
  ·simp[fV];exact⟨l,rfl,by omega,by omega,ao⟩
 ·rintro af ⟨l,rfl,gk,bQ,ao⟩;simp;exact⟨(rh l).plain,⟨m9 l,l,qD,GD⟩,rfl,rh l,gk,bQ,ao,ab,by show qD<=12;omega,FL.1,FL.2⟩
def dJ(l:List aX):List aa:=l.flatMap aX.cells
@[simp]theorem ajK:dJ []=[]:=rfl
@[simp]theorem vX(r:aX)(l:List aX):dJ (r::l)=r.cells++dJ l:=by simp[dJ]
@[simp]theorem VT(k l:List aX):dJ (k++l)=dJ k++dJ l:=by simp[dJ]
@[simp]theorem XK(l:List aX):(dJ l).length=l.length*3:=by
 induction l with
 |nil=>rfl
 |cons r l az=>rw[vX,List.length_append,az];simp[aX.cells];omega
def mQ(x:aa)(l:List aX):Prop:=(x=.bC/\l=[])\/∃off,x=.sl none 3 off l.length (dJ l)
theorem Wi{l:List aX}(h:∀r∈l,r.ok):bG (dJ l)=true:=by
 induction l with
 |nil=>rfl
 |cons r l az=>simp[aX.cells,(h r (by simp)).c5.plain,az λx aj=>h x (by simp[aj])]
theorem mQ.plain{x:aa}{l:List aX}(h:mQ x l)(ak:∀r∈l,r.ok):x.plain=true/\x.one=true:=by
 rcases h with⟨rfl,_⟩|⟨off,rfl⟩
 ·simp
 ·simp[Wi ak]
theorem Uv:Tryz.prog.underlying 25=some (.slice 58):=by kernel_rfl
theorem mQ.len{x:aa}{l:List aX}(h:mQ x l):ht Tryz.prog 25 x=some (ax l.length):=by rcases h with⟨rfl,rfl⟩|⟨off,rfl⟩<;>simp[ht,Uv]
instance:Inhabited aX:=⟨⟨.bC,[],0,0⟩⟩
theorem agh{x:aa}{l:List aX}(h:mQ x l){i:Int}{k:IntKind}(aT:0<=i)(U:i<l.length):kp 3 x (.int k i)=some (.agg (l.getD i.toNat default).cells):=by
 rcases h with⟨rfl,rfl⟩|⟨off,rfl⟩
 ·simp at U;omega
 ·have aU:i.toNat<l.length:=by omega
  have key:∀(l:List aX)(j:Nat),j<l.length->((dJ l).drop (j*3)).take 3=(l.getD j default).cells:=by
   intro l;induction l with
   |nil=>intro j aC;simp at aC
   |cons r l az=>
    intro j aC;cases j with
    |zero=>simp[aX.cells]
    |succ j=>
     rw[vX,show(j+1)*3=r.cells.length+j*3 by simp[aX.cells];omega,List.drop_length_add_append];simpa using az j (by simpa using aC)
  have e:=key l i.toNat aU;simp only[kp];rw[if_pos ⟨aT,U,trivial,by rw[e];rfl⟩,e]
def Fv(l:List aX):aa:=match l with
 |[]=>.bC
 |a::l=>.sl none 3 0 (l.length+1) (dJ (a::l))
theorem SC(l:List aX):mQ (Fv l) l:=by
 cases l with
 |nil=>exact .inl ⟨rfl,rfl⟩
 |cons a l=>exact .inr ⟨0,rfl⟩
@[simp]theorem ajS(ρ:List aa)(l:List aX):iU ρ 3 .cZ (.agg (dJ l))=some (Fv l):=by
 cases l with
 |nil=>rfl
 |cons a l=>
  have:(dJ (a::l)).length/3=l.length+1:=by rw[XK];simp
  have bU:dJ (a::l)=a.sp::(ax a.lines::ax a.width::dJ l):=by simp[aX.cells]
  simp only[iU,isNil];rw[bU]at this⊢;simp only[Fv,this,bU]
theorem ach{l:List aX}{bytes:Nat}{r:aX}(hb:bytes<=64)(ak:l.length<1000000):uW 3 bytes (.agg (dJ l)) (.sl none 3 0 1 r.cells)=some (.agg (dJ (l++[r]))):=by
 have:(l.length+1)*bytes<=(l.length+1)*64:=Nat.mul_le_mul_left _ hb;simp[aX.cells];omega
theorem agi(k:Nat)(zm:Int)(hm:1<=zm)(eX:zm<=4):dT (k+5) 12 [pQ,ax zm] λv=>∃slip b3 l,v=.agg [ax slip,b3]/\0<=slip/\slip<=3/\mQ b3 l/\1<=l.length/\(l.length:Int)<=zm/\∀r∈l,r.ok:=by
 refine lO (t:=t12) (by kernel_rfl) (fn:=Tryz.f12) (by kernel_rfl) rfl ?_;simp only[t12,ag,aD,aM];refine gb (m8 (k+2) 3 (by omega) (by omega)) ?_;rintro v ⟨qD,rfl,ab,ha⟩;simp only[dk];refine⟨ax qD,by simp[na],?_⟩;refine gb (zl (k+1) (l:=[0,1,1,qD]) (.inr ⟨0,rfl⟩) (by simp) (by simp)) ?_;rintro v ⟨GF,rfl,aJ⟩;have FK:0<=GF/\GF<=3:=by simp at aJ;omega
 simp only[dk];refine⟨ax GF,by simp[na],?_⟩;refine gb (td (k+1) 1 zm (by omega) (by omega) (by omega) (by omega)) ?_;rintro v ⟨Vh,rfl,bI,zy⟩;refine hY (λaf=>∃l:List aX,af=[.agg (dJ l)]/\1<=l.length/\(l.length:Int)<=zm/\∀r∈l,r.ok) ?_ ?_
 ·refine o7 (λj af=>∃l:List aX,af=[ax j,.agg (dJ l)]/\(l.length:Int)+j=Vh/\∀r∈l,r.ok) Vh.toNat (by omega) ⟨[],by simp;omega,by simp;omega,by simp⟩ ?_;rintro j af ⟨l,rfl,ak,ao⟩;simp;refine gR (λh=>?_) (λh=>?_)<;>simp at h
  ·refine gb (agf k) ?_;rintro v ⟨r,rfl,ad⟩;simp only[dk];refine⟨.agg r.cells,by simp[aX.cells],.agg (dJ (l++[r])),ach (by decide) (by omega),?_⟩;refine⟨ax ((j:Int)-1),by simp[wrap64 (n:=(j:Int)-1) (by omega) (by omega)],?_⟩;simp only[kG,mj];refine⟨j-1,by omega,l++[r],by simp;omega,by simp;omega,?_⟩;intro s tv;rcases List.mem_append.1 tv with bc|bc
   ·exact ao s bc
   ·simp at bc;subst bc;exact ad
  ·simp[fV];exact⟨l,rfl,by omega,by omega,ao⟩
 ·rintro af ⟨l,rfl,gk,bQ,ao⟩;simp;exact⟨(SC l).plain ao,GF,Fv l,⟨rfl,rfl⟩,FK.1,FK.2,l,SC l,gk,bQ,ao⟩
end
section
open Go Go.RowKit
theorem wu{l:List Int}{i:Int}(aT:0<=i)(U:i<l.length):zj 1 (.agg (l.map ax)) (ax i)=some (ax i):=by simp;omega
theorem II{l:List Int}{i:Int}(aT:0<=i)(U:i<l.length):zk 1 0 1 (.agg (l.map ax)) (ax i)=some (.agg [ax (l.getD i.toNat 0)]):=by
 have aU:i.toNat<l.length:=by omega
 have e:((l.map ax).drop (i.toNat*1+0)).take 1=[ax (l.getD i.toNat 0)]:=by
  rw[Nat.mul_one,Nat.add_zero,List.drop_eq_getElem_cons (by simpa using aU)];simp[List.getD_eq_getElem?_getD,aU]
 simp only[zk];rw[e];simp
theorem agj(k:Nat)(x lo hi:Int):dT (k+1) 88 [ax x,ax lo,ax hi] λv=>v=.bool (decide (lo<=x)&&decide (x<=hi)):=by
 refine lO (t:=t88) (by kernel_rfl) (fn:=Tryz.f88) (by kernel_rfl) rfl ?_;simp only[t88,ag,aD,aM];refine hY (λaf=>af=[.bool (decide (lo<=x)&&decide (x<=hi))]) ?_ ?_
 ·simp;refine gR (λh=>?_) (λh=>?_)<;>simp at h
  ·simp[h]
  ·intro bc;omega
 ·rintro af rfl;simp
theorem Ts(k:Nat)(x m:Int):dT (k+1) 89 [ax x,ax m] λv=>v=ax (if x<1 then 7 else if m<x then 6 else 0):=by
 refine lO (t:=t89) (by kernel_rfl) (fn:=Tryz.f89) (by kernel_rfl) rfl ?_;simp[t89,ag,aD,aM];refine gR (λh=>?_) (λh=>?_)<;>simp at h
 ·intro bc;omega
 ·refine gR (λbc=>?_) (λbc=>?_)<;>simp at bc
  ·simp[bc];omega
  ·omega
theorem Tx(k:Nat){r:aX}(ad:r.ok):dT (k+2) 90 [.agg r.cells] λv=>v=ax 0:=by
 refine lO (t:=t90) (by kernel_rfl) (fn:=Tryz.f90) (by kernel_rfl) (by simp[dd,flagsOf,aX.cells,ad.c5.plain]) ?_;have U:=ad.fI;have ab:=ad.ei;simp[t90,ag,aD,aM,aX.cells,ad.c5.len];refine gb (Ts k _ _) ?_;rintro v rfl;rw[if_neg (by omega),if_neg (by omega)];simp[ad.c5.len];refine hY (λaf=>af=[]) ?_ ?_
 ·refine o7 (λj af=>∃i:Nat,af=[ax i]/\i+j=r.st.length) r.st.length (by omega) ⟨0,rfl,by omega⟩ ?_;rintro j af ⟨i,rfl,hi⟩;simp;refine gR (λh=>?_) (λh=>?_)<;>simp at h
  ·have aU:i<r.st.length:=by omega
   have ao:=ad.st (r.st.getD i 0) (by simp[List.getD_eq_getElem?_getD,aU]);simp[Fu ad.c5 (i:=(i:Int)) (by omega) (by omega),List.getD_eq_getElem?_getD,aU];refine gb (agj k _ _ _) ?_;rintro v rfl;simp[List.getD_eq_getElem?_getD,aU]at ao;simp[ao,wrap64 (n:=(i:Int)+1) (by omega) (by omega)];exact⟨j-1,by omega,i+1,by simp,by omega⟩
  ·simp[fV]
 ·rintro af rfl;simp;refine hY (λaf=>af=[.bool false]) ?_ ?_
  ·refine gb (agj k _ _ _) ?_;rintro v rfl;have:=ad.hn;have:=ad.k5;have:=ad.w1;have:=ad.w2;simp[*];refine gb (agj k _ _ _) ?_;rintro v rfl;simp[*]
  ·rintro af rfl;simp
end
section
open Go Go.RowKit
structure Hand(slip:Int)(b3:aa)(l:List aX):Prop where
 cc:0<=slip
 s1:slip<=3
 gS:mQ b3 l
 fY:1<=l.length
 fI:l.length<=4
 ok:∀r∈l,r.ok
theorem Hand.plain{slip:Int}{b3:aa}{l:List aX}(h:Hand slip b3 l):b3.plain=true/\b3.one=true:=h.gS.plain h.ok
theorem Hand.get{slip:Int}{b3:aa}{l:List aX}(h:Hand slip b3 l){i:Nat}(hi:i<l.length):(l.getD i default).ok:=h.ok _ (by simp[List.getD_eq_getElem?_getD,hi])
theorem TM(k:Nat){slip:Int}{b3:aa}{l:List aX}(h:Hand slip b3 l):dT (k+3) 41 [.agg [ax slip,b3]] λv=>v=ax 0:=by
 refine lO (t:=t41) (by kernel_rfl) (fn:=Tryz.f41) (by kernel_rfl) (by simp[dd,flagsOf,h.plain]) ?_;have U:=h.cc;have ab:=h.s1;have al:=h.fY;have aJ:=h.fI;simp[t41,ag,aD,aM];refine gb (agj (k+1) _ _ _) ?_;rintro v rfl;simp[U,ab,h.gS.len];refine gb (Ts (k+1) _ _) ?_;rintro v rfl;rw[if_neg (by omega),if_neg (by omega)];simp[h.gS.len];refine hY (λaf=>af=[]) ?_ ?_
 ·refine o7 (λj af=>∃i:Nat,af=[ax i]/\i+j=l.length) l.length (by omega) ⟨0,rfl,by omega⟩ ?_;rintro j af ⟨i,rfl,hi⟩;simp;refine gR (λh=>?_) (λh=>?_)<;>simp at h
  ·rename_i bq;have aU:i<l.length:=by omega
   have ad:=bq.get aU;refine⟨_,agh bq.gS (i:=(i:Int)) (by omega) (by omega),?_⟩;simp[aX.cells];refine gb (Tx k ad) ?_;rintro v rfl;simp[wrap64 (n:=(i:Int)+1) (by omega) (by omega)];exact⟨j-1,by omega,i+1,by simp,by omega⟩
  ·simp[fV]
 ·rintro af rfl;simp
theorem agk:∃e,Tryz.prog.underlying 47=some (.slice e):=by
 have h:(match Tryz.prog.underlying 47 with|some (.slice _)=>true|_=>false)=true:=by kernel_rfl
 split at h
 ·exact⟨_,by assumption⟩
 ·cases h
@[simp]theorem aku(i n:Nat):((i:Int)%(n:Int)).toNat=i%n:=by rw[←Int.natCast_emod];rfl
def dp(r:aX)(i:Nat):Int:=r.st.getD (i%r.st.length) 0
theorem Jh{r:aX}(h:r.ok)(i:Nat):2<=dp r i/\dp r i<=20:=by
 have:i%r.st.length<r.st.length:=Nat.mod_lt _ h.fI;exact h.st _ (by unfold dp;simp[List.getD_eq_getElem?_getD,this])
theorem Fw{C:mR}[oX C](k:Nat){r:aX}(h:r.ok)(i:Nat):ks C (k+1) 96 [.agg r.cells,ax i] λv=>v=ax (dp r i):=by
 refine sU (t:=t96) (by kernel_rfl) (by kernel_rfl) (fn:=Tryz.f96) (by kernel_rfl) (by simp[dd,flagsOf,aX.cells,h.c5.plain]) ?_;have U:=h.fI;have ab:=h.ei;have aU:i%r.st.length<r.st.length:=Nat.mod_lt _ h.fI;have e:Int.tmod (i:Int) (r.st.length:Int)=((i%r.st.length:Nat):Int):=by rw[Int.tmod_eq_emod_of_nonneg (by omega)];simp
 simp[t96,ag,aD,aM,aX.cells,h.c5.len];refine⟨_,D3 (by omega),_,by rw[e];exact Fu h.c5 (i:=((i%r.st.length:Nat):Int)) (by omega) (by omega),?_⟩;simp[dp]
theorem agl(k:Nat)(i m:Nat)(hm:0<m)(hb:m<1000000):dT (k+1) 126 [ax i,ax m] λv=>v=ax ((i%m:Nat):Int):=by
 refine lO (t:=t126) (by kernel_rfl) (fn:=Tryz.f126) (by kernel_rfl) rfl ?_;have aU:i%m<m:=Nat.mod_lt _ hm;have e:∀i:Nat,Int.tmod (i:Int) (m:Int)=((i%m:Nat):Int):=by
  intro i;rw[Int.tmod_eq_emod_of_nonneg (by omega)];simp
 simp only[t126,ag,aD,aM,dk];refine⟨ax ((i%m:Nat):Int),by simp[D3 (show(m:Int)≠0 by omega),e],ax ((i%m+m:Nat):Int),by simp[wrap64 (n:=(i:Int)%m+m) (by omega) (by omega)],ax ((i%m:Nat):Int),?_,?_⟩
 ·have:=e (i%m+m);rw[Nat.add_mod_right,Nat.mod_mod]at this;simp only[Prim.run,aS.den,aR.den];simp[D3 (show(m:Int)≠0 by omega)];simpa using this
 ·simp
theorem Kn(k:Nat){r:aX}(h:r.ok)(i:Nat):dT (k+2) 98 [.agg r.cells,ax i] λv=>v=ax (dp r i):=by
 refine lO (t:=t98) (by kernel_rfl) (fn:=Tryz.f98) (by kernel_rfl) (by simp[dd,flagsOf,aX.cells,h.c5.plain]) ?_;have U:=h.fI;have ab:=h.ei;have aU:i%r.st.length<r.st.length:=Nat.mod_lt _ h.fI;simp[t98,ag,aD,aM,aX.cells,h.c5.len];refine gb (agl k i r.st.length (by omega) (by omega)) ?_;rintro v rfl;simp only[dk];refine⟨_,Fu h.c5 (i:=((i%r.st.length:Nat):Int)) (by omega) (by omega),?_⟩;simp[dp]
def a1(r:aX):Nat->Int
 |0=>0
 |i+1=>a1 r i+dp r i
def tM(r:aX)(n:Nat):List Int:=(List.range n).map (a1 r)
@[simp]theorem ako(r:aX)(n:Nat):(tM r n).length=n:=by simp[tM]
end
section
open Go Go.RowKit
structure z6(l:List Int):Prop where
 len:l.length<=16
 tN:∀p∈l,0<=p/\p<=300
 Ch:∀i,i+1<l.length->l.getD i 0<l.getD (i+1) 0
theorem z6.get{l:List Int}(h:z6 l){i:Nat}(hi:i<l.length):0<=l.getD i 0/\l.getD i 0<=300:=h.tN _ (by simp[List.getD_eq_getElem?_getD,hi])
abbrev uc(l:List aa):aa:=.bJ none 0 l
@[simp]theorem ake{id:Option Nat}{o:Nat}{l:List aa}:(aa.bJ id o l).one=true:=rfl
abbrev GG(slip:Int):List aa:=[.fn 121 [uc [ax slip]],.fn 122 [uc [ax slip]]]
theorem afE{C:mR}[oX C](k:Nat)(slip:Int):ks C (k+1) 91 [ax slip] λv=>v=.agg (GG slip):=by
 refine sU (t:=t91) (by kernel_rfl) (by kernel_rfl) (fn:=Tryz.f91) (by kernel_rfl) rfl ?_;simp[t91,ag,aD,aM]
theorem aeR{C:mR}[oX C](k:Nat){slip m r:Int}(h:-1000000<=m/\m<=1000000/\-1000000<=r/\r<=1000000):ks C (k+1) 121 [ax m,ax r,uc [ax slip]] λv=>v=.bool (decide (m-r<=slip)&&decide (r-m<=slip)):=by
 refine sU (t:=t121) (by kernel_rfl) (by kernel_rfl) (fn:=Tryz.f121) (by kernel_rfl) rfl ?_;simp only[t121,ag,aD,aM];refine hY (λaf=>af=[.bool (decide (m-r<=slip)&&decide (r-m<=slip))]) ?_ ?_
 ·simp[wrap64 (n:=m-r) (by omega) (by omega),wrap64 (n:=r-m) (by omega) (by omega)];refine gR (λh=>?_) (λh=>?_)<;>simp at h
  ·simp[h]
  ·intro bc;omega
 ·rintro af rfl;simp
def agm(slip a h p:Int):Bool:=decide (p-(a+h)<=slip)&&decide (a+h-p<=slip)
def blk(slip:Int)(l:List Int)(a:Int)(r:aX):Nat->List Int
 |0=>[]
 |i+1=>blk slip l a r i++if l.any (agm slip a (a1 r i))then[]else[(i:Int)]
end
end Go.Proofs.YtlminnpaeaganaaGreat
