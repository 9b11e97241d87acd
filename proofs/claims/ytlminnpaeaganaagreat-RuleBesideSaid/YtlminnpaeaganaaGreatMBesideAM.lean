/- Part of the proof of RuleBeside. No condition. -/
import Derived.Conc.WgGenN3
import Derived.Test.YtlminnpaeaganaaGreatMBesideAL
namespace Go.Proofs.YtlminnpaeaganaaGreat
set_option maxRecDepth 100000
set_option linter.all false
section
open Go Go.Conc
section
variable{p p':Program}{F:FuncId->Bool}{ro:Nat->Prop}{ops ops':Array Oper}{ms:List Nat}{Y:List Deferred×FuncId×Bool}{cb:Frame}{v0:Value}{A:Array Value}{ρ:bA}{s:Frame×List Frame×World}{g:Frame×List Frame}{W bF:World}
theorem dN.keep{C:ee}{V:World}(h:dN C ρ ro V W)(ao:W.heap.size<=bF.heap.size)(aq:∀a b,ρ a b->bF.heap[b]?=W.heap[b]?):dN C ρ ro V bF:=
 ⟨h.ok,h.hR,Nat.le_trans h.ru ao,λb a6 hb=>by
  obtain⟨o,o',U,ab,al⟩:=h.obj b a6 hb;exact⟨o,o',U,(aq b a6 hb).trans ab,al⟩,h.bK,h.row⟩
theorem rO.keep(h:rO p p' F ro ops ms Y cb ops' A v0 ρ s g W)(ao:W.heap.size<=bF.heap.size)(aq:∀a b,ρ a b->bF.heap[b]?=W.heap[b]?):rO p p' F ro ops ms Y cb ops' A v0 ρ s g bF:=
 ⟨h.T3,h.st,h.bi,h.ahu,h.wr.keep ao aq,λb hb=>h.og b (Nat.le_trans ao hb)⟩
theorem rO.same(h:rO p p' F ro ops ms Y cb ops' A v0 ρ s g W)(ao:s.2.1=[dv]):g.2=[cb]/\uT vr ops ms s.1/\uT (xx Y.1 A) ops' ms g.1/\cv (bH p F) ρ s.1.tmps g.1.tmps/\s.1.fn=Y.2.1/\g.1.fn=Y.2.1/\∀l,s.1.todo=[.inRegion ops l]->g.1.todo=[.inRegion ops' l]:=by
 obtain⟨f,cs,V⟩:=s;obtain⟨bj,cs'⟩:=g;obtain⟨s8,bh,BW,BX,ql,Bw⟩:=h;dsimp only at *;subst ao;cases bh with
 |cons _ h=>cases h with
  |cons _ ab=>cases ab
 |bot h=>
  obtain⟨_,ai⟩:=BW;obtain⟨_,ad⟩:=BX;refine⟨rfl,ai,ad,h.tmps,h.nn _ rfl,h.fn.trans (h.nn _ rfl),λl ak=>?_⟩;obtain⟨_,_,_,aG,er,_⟩:=ad;have a1:=h.todo;rw[ak,er]at a1;cases a1 with
  |cons hi _=>
   rw[er];generalize aj:Item.inRegion ops' (aG++ms)=x at hi;cases hi with
   |inRegion _ _ _=>
    injection aj with gH e;rw[gH]
theorem YM(h:rO p p' F ro ops ms Y cb ops' A v0 ρ s g W)(ao:s.2.1=[dv])(KU:¬uU vr ops ms s.1){fn:Func}(dX:p.funcs[Y.2.1]?=some fn){r r2:Tmp}(gO:fn.results=#[.tmp r,.tmp r2])
  (u6:∀i∈ms,∃o,ops[i]?=some o/\(∃c,o.op=.assign (.const c))/\o.guard=none/\o.dst≠some r/\o.dst≠some r2):
  g.2=[cb]/\uT (xx Y.1 A) ops' ms g.1/\g.1.todo=[.inRegion ops' ms]/\g.1.fn=Y.2.1/\v0=.tuple #[s.1.tmps.getD r undef,s.1.tmps.getD r2 undef]/\cv (bH p F) ρ s.1.tmps g.1.tmps:=by
 obtain⟨U,ab,al,aJ,bm,bI,cS⟩:=h.same ao;obtain⟨k1,bf,⟨bP,cX⟩,l,fi,tW⟩:=ab;have ak:l=[]:=by
  cases l with
  |nil=>rfl
  |cons i l=>exact absurd ⟨⟨k1,bf,⟨bP,cX⟩,_,fi,tW⟩,i,l,fi,tW⟩ KU
 subst ak;rw[List.nil_append]at fi;have hw:=h.T3;rw[ao]at hw;exact⟨U,al,cS _ fi,bI,Np ms s.1 s.2.2 hw fi k1 bP cX bf (by rw[bm];exact dX) gO u6,aJ⟩
end
end
section
open Go Go.Conc
section
variable{ops ops':Array Oper}
theorem WN(h:∀i:Nat,(ops'[i]?).map (·.after)=(ops[i]?).map (·.after))(ao:ops'.size=ops.size)(m:Region.Mode)(listed:Array Bool):
  ((List.range ops'.size).filter λi=>!listed.getD i true&&((ops'[i]?).map (·.after.all λe=>!Region.binds m e||listed.getD e.on false)).getD false)=((List.range ops.size).filter λi=>!listed.getD i true&&((ops[i]?).map (·.after.all λe=>!Region.binds m e||listed.getD e.on false)).getD false):=by
 grind
theorem go_congr(h:∀i:Nat,(ops'[i]?).map (·.after)=(ops[i]?).map (·.after))(ao:ops'.size=ops.size)(m:Region.Mode):∀(fuel t:Nat)(listed:Array Bool)(acc:List Nat),Region.linearise.go m ops' fuel t listed acc=Region.linearise.go m ops fuel t listed acc
 |0,_,_,_=>rfl
 |fuel+1,t,listed,acc=>by
  simp only[Region.linearise.go];rw[WN h ao];split
  ·exact go_congr h ao m fuel _ _ _
  ·rfl
theorem VE(h:∀i:Nat,(ops'[i]?).map (·.after)=(ops[i]?).map (·.after))(ao:ops'.size=ops.size)(m:Bool)(t:Nat):Region.schedule m ops' t=Region.schedule m ops t:=by
 have ak:∀m t,Region.linearise m ops' t=Region.linearise m ops t:=λm t=>by grind [Region.linearise,go_congr]
 have aV:Region.departs ops'=Region.departs ops:=by
  unfold Region.departs;rw[Bool.eq_iff_iff,Array.any_eq_true,Array.any_eq_true];constructor
  ·rintro⟨i,hi,he⟩;have:=h i;grind
  ·rintro⟨i,hi,he⟩;have:=h i;grind
 grind [Region.schedule]
structure AS(ops:Array Oper)(k:Nat):Prop where
 size:ops.size=k+2
 back:∀(i:Nat) o,ops[i]?=some o->∀e∈o.after,Region.binds .any e=true->e.on<i
 one:∀o,ops[k]?=some o->∀j,j<k->∃e∈o.after,Region.binds .any e=true/\e.on=j
 two:∀o,ops[k+1]?=some o->∀j,j<k+1->∃e∈o.after,Region.binds .any e=true/\e.on=j
def oh(k:Nat)(listed:Array Bool):Nat:=(List.range k).countP λj=>!listed.getD j true
theorem yr(listed:Array Bool)(i j:Nat)(hi:i<listed.size):(listed.setIfInBounds i true).getD j true=if j=i then true else listed.getD j true:=by
 simp ;grind
theorem Rj(listed:Array Bool)(i:Nat)(hi:i<listed.size):∀k,k<=i->oh k (listed.setIfInBounds i true)=oh k listed
 |0,_=>rfl
 |k+1,h=>by
  have az:=Rj listed i hi k (by omega);grind [oh,List.range_succ,yr]
theorem Qi(listed:Array Bool)(i:Nat)(hi:i<listed.size)(hu:listed.getD i true=false):∀k,i<k->oh k (listed.setIfInBounds i true)+1=oh k listed
 |0,h=>by omega
 |k+1,h=>by
  by_cases e:i=k
  ·have az:=Rj listed i hi i (Nat.le_refl _);grind [oh,List.range_succ,yr]
  ·have az:=Qi listed i hi hu k (by omega);grind [oh,List.range_succ,yr]
theorem aab(listed:Array Bool){k:Nat}(h:oh k listed=0):∀j,j<k->listed.getD j true=true:=by grind [oh,List.countP_eq_zero]
def gQ(ops:Array Oper)(listed:Array Bool)(i:Nat):Bool:=!listed.getD i true&&((ops[i]?).map (·.after.all λe=>!Region.binds .any e||listed.getD e.on false)).getD false
theorem uD{listed:Array Bool}{i:Nat}:gQ ops listed i=true↔listed.getD i true=false/\∃o,ops[i]?=some o/\∀e∈o.after,Region.binds .any e=true->listed.getD e.on false=true:=by grind [gQ,Array.all_eq_true_iff_forall_mem]
theorem Qj{listed:Array Bool}{j:Nat}(aC:j<listed.size):listed.getD j false=listed.getD j true:=by grind
theorem Qk{k:Nat}(h:AS ops k):∀(n t:Nat)(listed:Array Bool)(acc:List Nat),listed.size=k+2->listed.getD k true=false->listed.getD (k+1) true=false->oh k listed=n ->
  ∃fY,Region.linearise.go .any ops (n+2) t listed acc=acc.reverse++(fY++[k,k+1])/\∀i∈fY,i<k
 |0,t,listed,acc,ao,U,ab,hu=>by
  have bO:=aab listed hu;have aK:(List.range ops.size).filter (gQ ops listed)=[k]:=by
   rw[h.size,List.range_succ,List.range_succ,List.filter_append,List.filter_append];have eD:(List.range k).filter (gQ ops listed)=[]:=List.filter_eq_nil_iff.2 λj aC=>by grind [uD]
   obtain⟨o,ar⟩:∃o,ops[k]?=some o:=⟨_,Array.getElem?_eq_getElem (by rw[h.size];omega)⟩;obtain⟨LM,cz⟩:∃o,ops[k+1]?=some o:=⟨_,Array.getElem?_eq_getElem (by rw[h.size];omega)⟩;have a2:gQ ops listed k=true:=uD.2 ⟨U,o,ar,λe he hb=>by
    have:=h.back k o ar e he hb;grind⟩
   have a3:gQ ops listed (k+1)=false:=by
    cases ad:gQ ops listed (k+1)with
    |false=>rfl
    |true=>
     obtain⟨_,o',e',bq⟩:=uD.1 ad;obtain⟨e,he,hb,FO⟩:=h.two o' e' k (by omega);grind
   grind
  have aO:(List.range ops.size).filter (gQ ops (listed.setIfInBounds k true))=[k+1]:=by
   rw[h.size,List.range_succ,List.range_succ,List.filter_append,List.filter_append];have amD:∀j,j<k+1->(listed.setIfInBounds k true).getD j true=true:=λj aC=>by grind [yr]
   have eD:(List.range k).filter (gQ ops (listed.setIfInBounds k true))=[]:=List.filter_eq_nil_iff.2 λj aC=>by grind [uD]
   have a2:gQ ops (listed.setIfInBounds k true) k=false:=by grind [uD]
   obtain⟨LM,cz⟩:∃o,ops[k+1]?=some o:=⟨_,Array.getElem?_eq_getElem (by rw[h.size];omega)⟩;have a3:gQ ops (listed.setIfInBounds k true) (k+1)=true:=uD.2 ⟨by simp_all,LM,cz,λe he hb=>by
    have:=h.back (k+1) LM cz e he hb;grind⟩
   grind
  refine⟨[],?_,by simp⟩;have s1:Region.linearise.go .any ops (0+2) t listed acc=Region.linearise.go .any ops 1 (t/1) (listed.setIfInBounds k true) (k::acc):=by
   rw[show 0+2=1+1 from rfl,Region.linearise.go];show(match((List.range ops.size).filter (gQ ops listed))[t%((List.range ops.size).filter (gQ ops listed)).length]? with|some i=>Region.linearise.go .any ops 1 (t/((List.range ops.size).filter (gQ ops listed)).length) (listed.setIfInBounds i true) (i::acc)|none=>acc.reverse)=_;grind
  have s2:∀t,Region.linearise.go .any ops 1 t (listed.setIfInBounds k true) (k::acc)=((k+1)::k::acc).reverse:=λt=>by
   rw[Region.linearise.go];show(match((List.range ops.size).filter (gQ ops (listed.setIfInBounds k true)))[t%((List.range ops.size).filter (gQ ops (listed.setIfInBounds k true))).length]? with|some i=>Region.linearise.go .any ops 0 (t/((List.range ops.size).filter (gQ ops (listed.setIfInBounds k true))).length) ((listed.setIfInBounds k true).setIfInBounds i true) (i::k::acc)|none=>(k::acc).reverse)=_;rw[aO];simp[Nat.mod_one,Region.linearise.go]
  grind
 |n+1,t,listed,acc,ao,U,ab,hu=>by
  obtain⟨j0,T5,KV⟩:∃j,j<k/\listed.getD j true=false:=by
   refine Classical.byContradiction λaj=>?_;have:oh k listed=0:=by
    unfold oh;rw[List.countP_eq_zero];intro j aC;cases ak:listed.getD j true with
    |true=>simp
    |false=>exact absurd ⟨j,List.mem_range.1 aC,ak⟩ aj
   omega
  have lh:∀i∈(List.range ops.size).filter (gQ ops listed),i<k/\listed.getD i true=false:=by
   intro i hi;obtain⟨al,aJ⟩:=List.mem_filter.1 hi;obtain⟨bm,o,ar,bI⟩:=uD.1 aJ;refine⟨?_,bm⟩;have rJ:i<k+2:=by rw[←h.size];exact List.mem_range.1 al
   refine Classical.byContradiction λaj=>?_;have key:∃e∈o.after,Region.binds .any e=true/\e.on=j0:=by
    rcases Nat.lt_or_ge i (k+1)with aU|h3
    ·obtain rfl:i=k:=by omega
     exact h.one o ar j0 T5
    ·obtain rfl:i=k+1:=by omega
     exact h.two o ar j0 (by omega)
   obtain⟨e,he,hb,FO⟩:=key;have:=bI e he hb;rw[FO,Qj (by omega),KV]at this;cases this
  have bU:(List.range ops.size).filter (gQ ops listed)≠[]:=by
   intro fK;have fu:∀i,i<k->gQ ops listed i=false:=λi hi=>by
    cases ad:gQ ops listed i with
    |false=>rfl
    |true=>
     have:i∈(List.range ops.size).filter (gQ ops listed):=List.mem_filter.2 ⟨List.mem_range.2 (by rw[h.size];omega),ad⟩;rw[fK]at this;cases this
   have:∀i,i<k->listed.getD i true=true:=by
    intro i;induction i using Nat.strongRecOn with
    |_ i az=>
     intro hi;refine Classical.byContradiction λaj=>?_;have aj:listed.getD i true=false:=by simpa using aj
     obtain⟨o,ar⟩:∃o,ops[i]?=some o:=⟨_,Array.getElem?_eq_getElem (by rw[h.size];omega)⟩;have:=uD.2 ⟨aj,o,ar,λe he hb=>by
      have aU:=h.back i o ar e he hb;rw[Qj (by omega)];exact az _ aU (by omega)⟩
     rw[fu i hi]at this;cases this
   rw[this j0 T5]at KV;cases KV
  have eb:0<((List.range ops.size).filter (gQ ops listed)).length:=List.length_pos_iff.2 bU;have aU:t%((List.range ops.size).filter (gQ ops listed)).length<((List.range ops.size).filter (gQ ops listed)).length:=Nat.mod_lt _ eb;obtain⟨i,hi⟩:∃i,((List.range ops.size).filter (gQ ops listed))[t%((List.range ops.size).filter (gQ ops listed)).length]?=some i:=⟨_,List.getElem?_eq_getElem aU⟩;obtain⟨g1,g2⟩:=lh i (List.mem_of_getElem? hi);have oN:i<listed.size:=by omega
  obtain⟨fY,cS,et⟩:=Qk h n (t/((List.range ops.size).filter (gQ ops listed)).length) (listed.setIfInBounds i true) (i::acc) (by simpa using ao) (by rw[yr listed i k oN,if_neg (by omega)];exact U) (by rw[yr listed i (k+1) oN,if_neg (by omega)];exact ab) (by have:=Qi listed i oN g2 k g1;omega);refine⟨i::fY,?_,λx aj=>?_⟩
  ·rw[show n+1+2=(n+2)+1 from rfl,Region.linearise.go];show(match((List.range ops.size).filter (gQ ops listed))[t%((List.range ops.size).filter (gQ ops listed)).length]? with|some i=>Region.linearise.go .any ops (n+2) (t/((List.range ops.size).filter (gQ ops listed)).length) (listed.setIfInBounds i true) (i::acc)|none=>acc.reverse)=_;rw[hi];dsimp only;rw[cS];simp
  ·rcases List.mem_cons.1 aj with rfl|aj
   ·exact g1
   ·exact et x aj
theorem VS{k:Nat}(h:AS ops k){m:Bool}(hm:m=true)(t:Nat):∃fY,Region.schedule m ops t=fY++[k,k+1]/\∀i∈fY,i<k:=by
 have hu:oh k (Array.replicate (k+2) false)=k:=by
  unfold oh;have:(List.range k).countP (λj=>!(Array.replicate (k+2) false).getD j true)=(List.range k).length:=List.countP_eq_length.2 λj aC=>by
   have:=List.mem_range.1 aC;simp[Array.getD_eq_getD_getElem?,show j<k+2 by omega]
  grind
 obtain⟨fY,U,ab⟩:=Qk h k t (Array.replicate (k+2) false) [] (by simp) (by simp_all) (by simp_all) hu;refine⟨fY,?_,ab⟩;unfold Region.schedule;rw[hm];unfold Region.linearise;rw[h.size,U];rfl
def O8(ops:Array Oper)(k:Nat):Bool:=
 decide (ops.size=k+2) &&
 ((List.range ops.size).all λi=>match ops[i]? with
  |some o=>o.after.toList.all λe=>!Region.binds .any e||decide (e.on<i)
  |none=>true) &&
 (match ops[k]? with
  |some o=>(List.range k).all λj=>o.after.toList.any λe=>Region.binds .any e&&e.on==j
  |none=>true) &&
 (match ops[k+1]? with
  |some o=>(List.range (k+1)).all λj=>o.after.toList.any λe=>Region.binds .any e&&e.on==j
  |none=>true)
theorem Xw{k:Nat}(h:O8 ops k=true):AS ops k:=by
 unfold O8 at h;simp only[Bool.and_eq_true,decide_eq_true_eq]at h;obtain⟨⟨⟨U,ab⟩,al⟩,aJ⟩:=h;refine⟨U,λi o ar e he hb=>?_,λo ar j aC=>?_,λo ar j aC=>?_⟩
 ·grind
 ·rw[ar]at al;have:=List.all_eq_true.1 al j (List.mem_range.2 aC);grind
 ·rw[ar]at aJ;have:=List.all_eq_true.1 aJ j (List.mem_range.2 aC);grind
theorem MR{p:Program}{F:FuncId->Bool}{i:Nat}{f:Oper->Oper}{opsA:Array Oper}(h:px p F ops ops')(aW:opsA=ops.modify i f)(aV:∀o,(f o).dst=o.dst)(au:∀o,(f o).after=o.after)(hm:∀o,q1 (f o)=true):px p F opsA ops':=by
 subst aW;refine⟨λj=>?_,λj o ar gZ=>?_,λm t=>?_,by simpa using h.size,h.ok⟩
 ·rw[h.dst j,Array.getElem?_modify];grind
 ·rw[Array.getElem?_modify]at ar;split at ar
  ·grind
  ·exact h.same j o ar gZ
 ·rw[h.sched];grind [VE]
end
end
section
open Go Go.Conc
section
variable{p p':Program}{F:FuncId->Bool}{ro:Nat->Prop}{ops ops':Array Oper}{k:Nat}{Y:List Deferred×FuncId×Bool}{cb:Frame}{v0:Value}{A:Array Value}{ρ:bA}{V W:World}
theorem Oi(p:Program)(main:Bool)(f:Frame)(cs:List Frame)(W:World)(hm:f.mode=.run){id:Nat}{o:Array Oper}{gJ:List Item}(a1:f.todo=.code (.region id o true)::gJ):
  ∃n d,stepG p main (G f cs) W=.go (G { f with todo:=.inRegion o (Region.schedule (p.follows .mixedOrders) o n)::gJ } cs) (W.at d) #[]/\(choose (.order f.fn id)).run p W=.ok n (W.at d):=by
 obtain⟨fn,tmps,todo,defers,mode,kind,round⟩:=f;dsimp only at hm a1;subst hm a1;have ah:∃n d,(choose (.order fn id)).run p W=.ok n (W.at d):=by
  show ∃n d,(if(Question.order fn id).forced then(pure 0:Sem Nat).run p W else(pure ((Question.order fn id).cut (W.tape W.drawn (.order fn id))):Sem Nat).run p { W with drawn:=W.drawn+1 })=.ok n (W.at d);split
  ·exact⟨0,W.drawn,rfl⟩
  ·exact⟨_,W.drawn+1,rfl⟩
 obtain⟨n,d,ah⟩:=ah;refine⟨n,d,?_,ah⟩;simp only[G,stepG,stepG.exec,Bool.not_true,Bool.false_eq_true,if_false];rw[ah]
theorem WO(p p':Program)(V W:World)(q:Question){n eu d dq:Nat}(h:(choose q).run p' W=.ok eu (W.at dq))(ab:(choose q).run p (a8 V W.tape W.drawn)=.ok n ((a8 V W.tape W.drawn).at d)):n=eu:=by
 have aK:(choose q).run p' W=if q.forced then .ok 0 W else .ok (q.cut (W.tape W.drawn q)) { W with drawn:=W.drawn+1 }:=rfl
 have aO:(choose q).run p (a8 V W.tape W.drawn)=if q.forced then .ok 0 (a8 V W.tape W.drawn)else .ok (q.cut (W.tape W.drawn q)) { a8 V W.tape W.drawn with drawn:=W.drawn+1 }:=rfl
 rw[aK]at h;rw[aO]at ab;split at h
 ·rename_i aQ;rw[if_pos aQ]at ab;injection h with a _;injection ab with b _;rw[←a,←b]
 ·rename_i aQ;rw[if_neg aQ]at ab;injection h with a _;injection ab with b _;rw[←a,←b]
theorem Xx(afK:p'.follows .mixedOrders=p.follows .mixedOrders)(afL:p.follows .mixedOrders=true)(ak:AS ops k)(u6:(ops.toList.all λo=>mx p F o.op)=true)(kt:px p F ops ops'){id:Nat}{ag tr:Array Value}{fn:FuncId}{D:List Deferred}
  (fA:Y=(D,fn,true)) (aW:∀r,r<A.size->tr[r]?=A[r]?) (bX:A.size+14<=tr.size)
  (s8:m7 p (mM λv _=>v=v0) ⟨fn,ag,[.code (.region id ops true)],[],.run,.normal,none⟩ [dv] V)
  (ql:dN (bH p F) ρ ro V W) (Bw:∀b,W.heap.size<=b->¬ro b) (a1:cv (bH p F) ρ ag tr):
  ∃(s:Frame×List Frame×World)(g:Frame×List Frame)(d:Nat),stepG p' false (G ⟨fn,tr,[.code (.region id ops' true)],D,.run,.deferred,none⟩ [cb]) W=.go (G g.1 g.2) (W.at d) #[]/\rO p p' F ro ops [k,k+1] Y cb ops' A v0 ρ s g (W.at d)/\∃τ e es,stepG p true (G ⟨fn,ag,[.code (.region id ops true)],[],.run,.normal,none⟩ [dv]) (a8 V τ e)=.go (G s.1 s.2.1) s.2.2 es:=by
 subst fA;obtain⟨eu,dq,ad,ahv⟩:=Oi p' false ⟨fn,tr,[.code (.region id ops' true)],D,.run,.deferred,none⟩ [cb] W rfl rfl;have iP:¬∀τ d,mM (λv _=>v=v0) (⟨fn,ag,[.code (.region id ops true)],[],.run,.normal,none⟩:Frame) [dv] (a8 V τ d):=λx=>by cases(x default 0).1
 rcases DX s8 with h|⟨fr,nm,w2,es,_,hgo,_,aq⟩
 ·exact absurd h iP
 obtain⟨n,d,ai,KW⟩:=Oi p true ⟨fn,ag,[.code (.region id ops true)],[],.run,.normal,none⟩ [dv] (a8 V W.tape W.drawn) rfl rfl;have aI:n=eu:=WO p p' V W _ ahv KW;subst aI;have rQ:=aq W.tape W.drawn;have tA:=hgo W.tape W.drawn;rw[ai]at tA;injection tA with aK aO bS;injection aK with b8 en;rw[←aO,←b8,←en]at rQ;obtain⟨fY,ao,aU⟩:=VS ak afL n;have tv:Region.schedule (p'.follows .mixedOrders) ops' n=fY++[k,k+1]:=by rw[kt.sched,afK];exact ao
 dsimp only at rQ ad;rw[ao]at rQ;rw[tv]at ad;have vp:∀i∈fY,i∉[k,k+1]:=λi hi hm=>by
  have:=aU i hi;simp only[List.mem_cons,List.not_mem_nil,or_false]at hm;omega
 refine⟨(_,_,_),(_,_),dq,ad,⟨rQ,.bot ⟨rfl,a1,.cons (.inRegion u6 kt λ_=>rfl) .nil,⟨[],.nil,by simp⟩,.run,rfl,λe=>(by cases e),.none,λ_=>rfl,λe=>(by cases e),λ_=>rfl,λx e=>(by cases e;rfl),by simp,λx e h=>(by cases e;cases h)⟩,⟨rfl,rfl,rfl,⟨rfl,rfl⟩,fY,rfl,vp⟩,⟨rfl,rfl,rfl,⟨rfl,rfl,bX,aW⟩,fY,rfl,vp⟩,?_,Bw⟩,W.tape,W.drawn,#[],?_⟩
 ·exact(ql.a8 W.tape d).B0 W.tape dq
 ·dsimp only;rw[←ao];exact ai
end
end
section
open Go Go.Conc Go.ConcN Go.RowKit Go.Conc.Lib Go.ConcR.Gen Go.ConcN.Gen
open Go.ConcR (KK wgBlock WgAt stA smA rd wr mk Payload DC0 Bk)
abbrev KY(ty:TypeId)(Wg:Nat)(_ fB:World):Prop:=WgLive ty Wg fB
abbrev T7(P:Program)(ty:TypeId)(Wg:Nat)(Stop:Goroutine->World->Prop)(g:Goroutine):Prop:=∃m,∀w,WgLive ty Wg w->Goes P false (KY ty Wg) DC0 Stop m g w
def wU(P:Program)(ty:TypeId)(Wg:Nat)(e:Mark)(iO:Goroutine->World->Prop)(g:Goroutine)(w:World):Prop:=
 g.status=.running/\∃g',stepG P false g w=.go g' w #[mk e]/\T7 P ty Wg iO g'
section
variable{L:WgLink}{Wg:Nat}{c:Frame}{cs:List Frame}
set_option maxRecDepth 100000 in
set_option maxHeartbeats 2000000 in
theorem YN{P:Program}(H:WgLib P L):T7 P L.tWg Wg (wU P L.tWg Wg (.releaseMerge (stA Wg)) (wU P L.tWg Wg .disable λ_ _=>True)) (G ((baseD L.done).at ⟨#[.pointer (some ⟨Wg,0,none⟩),undef,undef,undef],[]⟩ [.code (body_done L)]) (c::cs)):=by
 lib_facts
 refine⟨200,λw aw=>?_⟩;simp only[body_done,body_add,doneFn,addFn,Option.getD_some]
 u_reg (λ_ r=>r) aw
 u_op (λ_ r=>r) aw
 u_in (λ_ r=>r) aw
 refine goes_call rfl rfl (by k_ne) rfl H.f_add (nm_add L) rfl ⟨by u_nil,?_⟩
 walk_nrmf addFn
 u_c stepG_seq (λ_ r=>r) aw
 u_cond true (λ_ r=>r) aw
 u_c stepG_seq (λ_ r=>r) aw
 u_c stepG_seq (λ_ r=>r) aw
 u_reg (λ_ r=>r) aw
 u_op (λ_ r=>r) aw
 u_op (λ_ r=>r) aw
 u_c stepG_region_end (λ_ r=>r) aw
 u_cond true (λ_ r=>r) aw
 u_reg (λ_ r=>r) aw
 u_op (λ_ r=>r) aw
 u_conv H.underlying_tWgP H.room_tWg (WgLive.cell0 aw).choose_spec (λ_ r=>r) aw
 refine Goes.stop (λfB pP=>⟨rfl,_,stepG_markAt .releaseMerge (by simp) rfl rfl (by k_ne) rfl H.f_relMerge (x_relMerge_n L) (x_relMerge_b L) (x_relMerge_x L) (x_relMerge_f L) (by simp[Act.eval,stA]),200,λw aw=>?_⟩)
 walk_nrm
 u_c stepG_region_end (λ_ r=>r) aw
 u_c stepG_seq (λ_ r=>r) aw
 u_reg (λ_ r=>r) aw
 exact Goes.stop (λfB pP=>⟨rfl,_,stepG_mark0 .disable (by simp) rfl rfl (by k_ne) rfl H.f_disable (x_disable_n L) (x_disable_b L) (x_disable_x L) (x_disable_f L),0,λw aw=>λ_ _=>trivial⟩)
end
section
variable[Payload]{P:Program}{ty:TypeId}{Wg C n k:Nat}{Own Rd:Nat->Loc->Prop}{v:Value}
theorem wh{s:GStep}{g g':Goroutine}{w w':World}{es ec:Array Event}(h:s=.go g w es)(bc:s=.go g' w' ec):g=g'/\w=w'/\es=ec:=by
 rw[h]at bc;cases bc;exact⟨rfl,rfl,rfl⟩
theorem abI{m:Nat}:∀{g:Goroutine}{w:World},Goes P false (RW ty Wg C n 0 (k-1)) (DWs Wg Own Rd C n k) (AtR0 P ty Wg C n 0 k v) m g w->WgLive ty Wg w->∀hF,(∀w,WgLive ty Wg w->Goes P false (KY ty Wg) DC0 (wU P ty Wg .disable λ_ _=>True) hF g w)->False:=by
 induction m with
 |zero=>
  intro g w h ak hF ab;obtain⟨_,_,g',aN,_⟩:=h w (RW.refl w);cases hF with
  |zero=>
   obtain⟨_,g2,np,_⟩:=ab w ak w ak;have:=(wh aN np).2.2;simp[mk]at this
  |succ hF=>
   rcases ab w ak with ab|⟨_,ab⟩
   ·obtain⟨_,g2,np,_⟩:=ab w ak;have:=(wh aN np).2.2;simp[mk]at this
   ·have:=ab w ak;rw[aN,goes_go]at this;have:=this.1.2;simp at this
 |succ m az=>
  intro g w h ak hF ab;rcases h with h|⟨_,h⟩
  ·obtain⟨_,_,g',aN,_⟩:=h w (RW.refl w);cases hF with
   |zero=>
    obtain⟨_,g2,np,_⟩:=ab w ak w ak;have:=(wh aN np).2.2;simp[mk]at this
   |succ hF=>
    rcases ab w ak with ab|⟨_,ab⟩
    ·obtain⟨_,g2,np,_⟩:=ab w ak;have:=(wh aN np).2.2;simp[mk]at this
    ·have:=ab w ak;rw[aN,goes_go]at this;have:=this.1.2;simp at this
  ·obtain⟨g1,w1,es,aN,⟨aV,fR⟩,aI⟩:=goes_elim (h w (RW.refl w));cases hF with
   |zero=>
    obtain⟨_,g2,np,_⟩:=ab w ak w ak;obtain⟨_,_,e⟩:=wh aN np;subst e;exact(fR (mk .disable) (by simp)).2.1 rfl
   |succ hF=>
    rcases ab w ak with al|⟨_,al⟩
    ·obtain⟨_,g2,np,_⟩:=al w ak;obtain⟨_,_,e⟩:=wh aN np;subst e;exact(fR (mk .disable) (by simp)).2.1 rfl
    ·have aJ:=al w ak;rw[aN,goes_go]at aJ;obtain⟨⟨aK,aO⟩,bm⟩:=aJ;subst aK;refine az aI ak hF λw2 bQ=>?_;exact Goes.rely (λ_ _ _ _ h=>h) bm bQ
theorem XA{m:Nat}:∀{g:Goroutine}{w:World},Goes P false (RW ty Wg C n 0 (k-1)) (DWs Wg Own Rd C n k) (AtR0 P ty Wg C n 0 k v) m g w->WgLive ty Wg w->∀hF,(∀w,WgLive ty Wg w->Goes P false (KY ty Wg) DC0 (wU P ty Wg (.releaseMerge (stA Wg)) (wU P ty Wg .disable λ_ _=>True)) hF g w) ->
  Goes P false (RW ty Wg C n 0 (k-1)) DC0 (AtR0 P ty Wg C n 0 k v) m g w:=by
 induction m with
 |zero=>exact λh _ _ _=>h
 |succ m az=>
  intro g w h ak hF ab;rcases h with h|⟨ad,h⟩
  ·exact .inl h
  ·refine .inr ⟨ad,λw1 fg=>?_⟩;have gk:=fg.live ak;obtain⟨g1,w2,es,aN,akS,aI⟩:=goes_elim (h w1 fg);have stop:wU P ty Wg (.releaseMerge (stA Wg)) (wU P ty Wg .disable λ_ _=>True) g w1->False:=by
    rintro⟨_,g2,np,Gz,al⟩;obtain⟨aK,aO,bS⟩:=wh aN np;subst aK aO;exact abI aI gk Gz al
   cases hF with
   |zero=>exact(stop (ab w1 gk w1 gk)).elim
   |succ hF=>
    rcases ab w1 gk with al|⟨_,al⟩
    ·exact(stop (al w1 gk)).elim
    ·have aJ:=al w1 gk;rw[aN,goes_go]at aJ;obtain⟨⟨aK,aO⟩,bm⟩:=aJ;subst aK aO;rw[aN,goes_go];exact⟨⟨rfl,rfl⟩,az aI gk hF λw3 dC=>Goes.rely (λ_ _ _ _ h=>h) bm dC⟩
end
end
section
open Go Go.Conc Go.ConcN Go.RowKit Go.Conc.Lib
open Go.ConcR (KK wgBlock WgAt stA smA rd wr mk Payload DC0 Bk bk_of_mute ofEvent_loc_mark)
abbrev u7:Nat->Loc->Prop:=λ_ _=>False
section
variable[Payload]
inductive lT(P:Program)(ty:TypeId)(Wg C n i:Nat)(v:Value):Nat->Nat->Nat->Goroutine->World->Prop
 |r0 {m:Nat} {g:Goroutine} {w:World}:Goes P false (RW ty Wg C n 0 i) DC0 (AtR0 P ty Wg C n 0 (i+1) v) m g w->lT P ty Wg C n i v 7 m 0 g w
 |lu {s m d:Nat} {g:Goroutine} {w:World}:s<=6->WSit P ty Wg C n u7 u7 0 (i+1) v s m d g w->lT P ty Wg C n i v s m d g w
structure LN(P:Program)(ty:TypeId)(Wg C n i:Nat)(v:Value)(j:Nat)(D:Nat->WD)(tag:CTag)(s m d:Nat)(g:Goroutine)(w:World)(g':Goroutine)(w':World)(es:Array Event)(s' m' dq:Nat)(fv gz:Int):Prop where
 go:stepG P false g w=.go g' w' es
 as:Aside Wg w w'
 wg:WgAt ty Wg w' fv gz
 ahA:lT P ty Wg C n i v s' m' dq g' w'
 ajh:deafBehind d es=dq
 md:∀tag',(tag'=tag\/(tag=.blk/\tag'=.w3))->(mayWake P g=true->g'.status=.running->tag'≠.blk)->ConcN.Mode j (upd D i ⟨s',m',dq⟩) tag' fv gz
 lt:(s'<s/\cnt ⟨s',m',dq⟩<=cnt (D i))\/(s'=s/\m'+1=m)
 rel:(s=7/\s'=7/\es=#[])\/(s=7/\s'=6/\d=0/\es=#[mk (.releaseMerge (stA Wg))]/\Has C i v w)\/(s<=6/\s'<=6/\(∀e∈es,Bk Wg e)/\∀jG e,es[jG]?=some e->(MemAct.ofEvent e).touch?=none\/0<deafBehind d (es.extract 0 jG))
variable{P:Program}{ty:TypeId}{Wg C n i:Nat}{v:Value}{s m d:Nat}{g:Goroutine}{w fB:World}
theorem lT.rely(h:lT P ty Wg C n i v s m d g w)(ad:RW ty Wg C n 0 i w fB):lT P ty Wg C n i v s m d g fB:=by
 cases h with
 |r0 h=>exact .r0 (Goes.rely (λ_ _ _ U ab=>U.trans ab) h ad)
 |lu bI h=>exact .lu bI (h.rely ad)
theorem lT.status(h:lT P ty Wg C n i v s m d g w):g.status=.running\/g.status=.finished:=by
 cases h with
 |r0 h=>exact .inl (Goes.running (λ_ _ x=>x.1) w (RW.refl w) h)
 |lu _ h=>exact h.status
theorem lT.running_of(h:lT P ty Wg C n i v s m d g w)(ao:s≠1):g.status=.running:=by
 cases h with
 |r0 h=>exact Goes.running (λ_ _ x=>x.1) w (RW.refl w) h
 |lu _ h=>exact h.running_of ao
theorem lT.quits(h:lT P ty Wg C n i v s m d g w)(ao:s=1):QuitsD P m d g:=by
 cases h with
 |r0 h=>cases ao
 |lu _ h=>exact h.quits ao
theorem lT.stage(h:lT P ty Wg C n i v s m d g w):1<=s/\s<=7:=by
 cases h with
 |r0 h=>omega
 |lu bI h=>cases h<;>omega
set_option maxHeartbeats 1600000 in
theorem aad{j:Nat}{D:Nat->WD}{tag:CTag}{st gi:Int}(ao:lT P ty Wg C n i v s m d g w)(hi:i<j)(dQ:D i=⟨s,m,d⟩)(aB:g.status=.running)(gA:WgAt ty Wg w st gi)(rf:ConcN.Mode j D tag st gi)(hb:j+pend tag<=2147483646):
  ∃g' w' es s' m' dq fv gz,LN P ty Wg C n i v j D tag s m d g w g' w' es s' m' dq fv gz:=by
 have bh:(D i).stage=s:=by rw[dQ]
 have alY:=Vc_le j D;have same:∀m' vt,ConcN.Mode j (upd D i ⟨s,m',vt⟩) tag st gi:=λm' vt=>by have:=rf.same (i:=i) m' vt;grind
 cases ao with
 |r0 h=>
  rcases Goes.cases h with qc|⟨m',rfl,eo⟩
  ·obtain⟨_,Th,g',hgo,m₂,aq⟩:=qc w (RW.refl w);exact⟨g',w,_,6,m₂,0,st,gi,hgo,.refl Wg w,gA,.lu (by omega) (.k1 aq),rfl,λ_ a1 _=>(rf.counted hi (by omega) (.inl rfl) _ _).retag a1,.inl ⟨by omega,by simp[cnt,bh]⟩,.inr (.inl ⟨rfl,rfl,rfl,rfl,by grind⟩)⟩
  ·obtain⟨g',w',es,hgo,⟨rfl,rfl⟩,oL⟩:=eo w (RW.refl w);exact⟨g',_,_,7,m',0,st,gi,hgo,.refl Wg _,gA,.r0 oL,rfl,λ_ a1 _=>(same m' 0).retag a1,.inr ⟨rfl,rfl⟩,.inl ⟨rfl,rfl,rfl⟩⟩
 |lu bI ao=>
  have book:∀{g':Goroutine}{w':World}{es:Array Event}{s' m' vt:Nat}{fv gz:Int},stepG P false g w=.go g' w' es->Aside Wg w w'->WgAt ty Wg w' fv gz->(∀e∈es,Bk Wg e) ->
    (∀jG e,es[jG]?=some e->(MemAct.ofEvent e).touch?=none\/0<deafBehind d (es.extract 0 jG))->WSit P ty Wg C n u7 u7 0 (i+1) v s' m' vt g' w'->deafBehind d es=vt->s'<=6 ->
    (∀tag',(tag'=tag\/(tag=.blk/\tag'=.w3))->(mayWake P g=true->g'.status=.running->tag'≠.blk)->ConcN.Mode j (upd D i ⟨s',m',vt⟩) tag' fv gz)->((s'<s/\cnt ⟨s',m',vt⟩<=cnt (D i))\/(s'=s/\m'+1=m)) ->
    ∃g' w' es s' m' dq fv gz,LN P ty Wg C n i v j D tag s m d g w g' w' es s' m' dq fv gz:=
   λU ab al aJ bm cS et gp h7 mF=>⟨_,_,_,_,_,_,_,_,U,ab,al,.lu gp cS,et,h7,mF,.inr (.inr ⟨bI,gp,aJ,bm⟩)⟩
  have idle:∀{g':Goroutine}{m':Nat},stepG P false g w=.go g' w #[]->WSit P ty Wg C n u7 u7 0 (i+1) v s m' d g' w->m'+1=m ->
    ∃g' w' es s' m' dq fv gz,LN P ty Wg C n i v j D tag s m d g w g' w' es s' m' dq fv gz:=
   λ{g' m'} U ab al=>book U (.refl Wg w) gA (by simp) (by simp) ab rfl bI (λ_ a1 _=>(same m' d).retag a1) (.inr ⟨rfl,al⟩)
  cases ao with
  |r0 h=>omega
  |k1 h=>
   rcases Goes.cases h with qc|⟨m',rfl,eo⟩
   ·obtain⟨_,g',hgo,m₂,aq⟩:=qc w (RW.refl w);exact book hgo (.refl Wg w) gA (by intro e he;simp at he;subst he;exact .inl rfl) (by intro jG e he;exact .inl (by have:=Array.mem_of_getElem? he;simp at this;subst this;rfl)) (.d1 aq) rfl (by omega)
     (λ_ a1 _=>(rf.counted hi (by omega) (.inr rfl) _ _).retag a1) (.inl ⟨by omega,by simp[cnt,bh]⟩)
   ·obtain⟨g',w',es,hgo,⟨rfl,rfl⟩,oL⟩:=eo w (RW.refl w);exact idle hgo (.k1 oL) rfl
  |d1 h=>
   rcases Goes.cases h with qc|⟨m',rfl,eo⟩
   ·obtain⟨_,lh⟩:=qc w (RW.refl w);have hA:cnt (D i)=1:=by simp[cnt,bh]
    have ahz:1<=Vc j D:=by grind [le_sumTo,Vc]
    have bk2:∀e∈#[rd (stA Wg),wr (stA Wg)],Bk Wg e:=by intro e he;simp at he;rcases he with rfl|rfl<;>exact bk_cell _ _ rfl
    have KZ:∀jG e,(#[rd (stA Wg),wr (stA Wg)]:Array Event)[jG]?=some e->(MemAct.ofEvent e).touch?=none\/0<deafBehind 1 ((#[rd (stA Wg),wr (stA Wg)]:Array Event).extract 0 jG):=by
     intro jG e he
     match jG,he with
     |0,_=>grind [deafBehind]
     |1,_=>exact .inr (by simp[deafBehind,rd])
     |jG+2,he=>simp at he
    have nc:∀q,cnt (⟨1,q,1⟩:WD)=0:=λ_=>rfl;have T8:∀q,OpenSt j D->OpenSt j (upd D i ⟨1,q,1⟩):=λq h a au=>by
     by_cases e:a=i
     ·subst e;rw[upd_same];simp
     ·rw[upd_ne D _ e];exact h a au
    cases rf with
    |opn U ab al=>
     obtain⟨v0,ai⟩:∃v,Vc j D+pend tag=v+1:=⟨Vc j D+pend tag-1,by omega⟩;rw[ai]at gA;have fg:WgAt ty Wg w (((v0:Nat)+1)*KK+((0:Nat):Int)) 0:=by simpa using gA
     obtain⟨g',hgo,_,aH⟩:=lh v0 0 (by omega) (by omega) fg;obtain⟨q,aH⟩:=aH (by omega);have iw:Vc j (upd D i ⟨1,q,1⟩)+pend tag=v0:=by have:=Vc_upd D (⟨1,q,1⟩:WD) hi;have:=nc q;omega
     refine book hgo (aside_setCell w (stA Wg) _) (gA.setSt _) bk2 KZ (.quit aH) rfl (by omega) (λ_ a1 _=>ConcN.Mode.retag ?_ a1) (.inl ⟨by omega,by simp[cnt]⟩);have e:((v0:Nat):Int)*KK+((0:Nat):Int)=((Vc j (upd D i ⟨1,q,1⟩)+pend tag:Nat):Int)*KK:=by rw[iw];simp
     rw[e];exact .opn U (T8 q ab) (λaf ay=>by have:=al af ay;omega)
    |reg U ab al=>
     obtain⟨v0,ai⟩:∃v,Vc j D=v+1:=⟨Vc j D-1,by omega⟩;rw[ai]at gA;have ae:pend tag=0:=by cases tag<;>first|rfl|exact U.elim
     have fg:WgAt ty Wg w (((v0:Nat)+1)*KK+((1:Nat):Int)) 0:=by simpa using gA
     obtain⟨g',hgo,ak,aH⟩:=lh v0 1 (by omega) (by omega) fg;by_cases pD:v0=0
     ·subst pD;obtain⟨m₂,aq⟩:=ak ⟨rfl,rfl⟩;refine book hgo (aside_setCell w (stA Wg) _) (gA.setSt _) bk2 KZ (.d2 aq) rfl (by omega) (λ_ a1 _=>ConcN.Mode.retag ?_ a1) (.inl ⟨by omega,by simp[cnt]⟩);have s5:∀a,a<j->a≠i->(D a).stage=1:=λa au e=>by
       have cO:=others_uncounted hi ai hA a au e;have:=ab a au;simp only[cnt]at cO;split at cO<;>omega
      have:=ConcN.Mode.last (j:=j) (D:=upd D i ⟨4,m₂,1⟩) (tag:=tag) i U hi (by rw[upd_same];simp) (λa au e=>by rw[upd_ne D _ e];exact s5 a au e);rw[upd_same]at this;simpa using this
     ·obtain⟨q,aH⟩:=aH (by omega);have iw:Vc j (upd D i ⟨1,q,1⟩)=v0:=by have:=Vc_upd D (⟨1,q,1⟩:WD) hi;have:=nc q;omega
      refine book hgo (aside_setCell w (stA Wg) _) (gA.setSt _) bk2 KZ (.quit aH) rfl (by omega) (λ_ a1 _=>ConcN.Mode.retag ?_ a1) (.inl ⟨by omega,by simp[cnt]⟩);have e:((v0:Nat):Int)*KK+((1:Nat):Int)=((Vc j (upd D i ⟨1,q,1⟩):Nat):Int)*KK+1:=by rw[iw];simp
      rw[e];exact .reg U (T8 q ab) (by omega)
    |last L _ ab al aJ=>
     by_cases e:i=L
     ·subst e;omega
     ·have:=aJ i hi e;omega
    |sema ab=>have:=ab i hi;omega
    |fin _ ab=>have:=ab i hi;omega
   ·obtain⟨g',w',es,hgo,⟨rfl,rfl⟩,oL⟩:=eo w (RW.refl w);exact idle hgo (.d1 oL) rfl
  |d2 h=>
   rcases Goes.cases h with qc|⟨m',rfl,eo⟩
   ·obtain⟨_,aj⟩:=qc w (RW.refl w);obtain⟨B1,s5,rfl,rfl⟩:=rf.isLast hi (by omega);simp only[bh]at gA;obtain⟨g',hgo,m₂,aq⟩:=aj (by simpa using gA);refine book hgo (.refl Wg w) gA (by intro e he;simp at he;subst he;exact bk_cell _ _ rfl) (by intro jG e he;match jG,he with|0,_=>exact .inr (by simp[deafBehind])|jG+1,he=>simp at he) (.d3 aq) rfl (by omega) (λ_ a1 _=>ConcN.Mode.retag ?_ a1) (.inl ⟨by omega,by simp[cnt]⟩);have:=ConcN.Mode.last (j:=j) (D:=upd D i ⟨3,m₂,1⟩) (tag:=tag) i B1 hi (by rw[upd_same];simp) (λa au e=>by rw[upd_ne D _ e];exact s5 a au e);rw[upd_same]at this;simpa using this
   ·obtain⟨g',w',es,hgo,⟨rfl,rfl⟩,oL⟩:=eo w (RW.refl w);exact idle hgo (.d2 oL) rfl
  |d3 h=>
   rcases Goes.cases h with qc|⟨m',rfl,eo⟩
   ·obtain⟨_,aj⟩:=qc w (RW.refl w);obtain⟨B1,s5,rfl,rfl⟩:=rf.isLast hi (by omega);simp only[bh]at gA;obtain⟨g',hgo,m₂,aq⟩:=aj (by simpa using gA);refine book hgo (aside_setCell w (stA Wg) _) (gA.setSt 0) (by intro e he;simp at he;subst he;exact bk_cell _ _ rfl) (by intro jG e he;match jG,he with|0,_=>exact .inr (by simp[deafBehind])|jG+1,he=>simp at he) (.d4 aq) rfl (by omega) (λ_ a1 _=>ConcN.Mode.retag ?_ a1) (.inl ⟨by omega,by simp[cnt]⟩);have:=ConcN.Mode.last (j:=j) (D:=upd D i ⟨2,m₂,1⟩) (tag:=tag) i B1 hi (by rw[upd_same];simp) (λa au e=>by rw[upd_ne D _ e];exact s5 a au e);rw[upd_same]at this;simpa using this
   ·obtain⟨g',w',es,hgo,⟨rfl,rfl⟩,oL⟩:=eo w (RW.refl w);exact idle hgo (.d3 oL) rfl
  |d4 h=>
   rcases Goes.cases h with qc|⟨m',rfl,eo⟩
   ·obtain⟨_,ahB,aj⟩:=qc w (RW.refl w);obtain⟨B1,s5,rfl,rfl⟩:=rf.isLast hi (by omega);simp only[bh]at gA;obtain⟨g',hgo,q,aH⟩:=aj (by simpa using gA);have aep:g'.status=.running:=by
     cases q with
     |zero=>exact absurd aH.2 (by decide)
     |succ q=>exact aH.elim (λx=>absurd x.2 (by decide)) (λx=>x.1)
    refine book hgo (aside_setCell w (smA Wg) _) (gA.setSm 1) (es:=semEvents (smA Wg)) ?_ ?_ (.quit aH) (by simp[deafBehind,semEvents]) (by omega) ?_ (.inl ⟨by omega,by simp[cnt]⟩)
    ·exact λe he=>by
      simp[semEvents]at he;rcases he with rfl|rfl|rfl|rfl
      ·exact .inl rfl
      ·exact bk_cell _ _ rfl
      ·exact bk_cell _ _ rfl
      ·exact .inr (.inl rfl)
    ·intro jG e he
     match jG,he with
     |0,he=>simp[semEvents]at he;subst he;exact .inl rfl
     |1,_=>exact .inr (by simp[deafBehind,semEvents])
     |2,_=>exact .inr (by simp[deafBehind,semEvents])
     |3,he=>simp[semEvents]at he;subst he;exact .inl rfl
     |jG+4,he=>simp[semEvents]at he
    ·intro tag' a1 hw;have kr:=hw ahB aep;have bS:tag'=.w3:=by
      rcases a1 with rfl|⟨_,rfl⟩
      ·cases tag'<;>first|rfl|exact B1.elim|exact absurd rfl kr
      ·rfl
     subst bS;simp only[if_true];exact .sema λa au=>by
      by_cases e:a=i
      ·subst e;rw[upd_same]
      ·rw[upd_ne D _ e];exact s5 a au e
   ·obtain⟨g',w',es,hgo,⟨rfl,rfl⟩,oL⟩:=eo w (RW.refl w);exact idle hgo (.d4 oL) rfl
  |quit h=>
   cases m with
   |zero=>rw[h.1]at aB;cases aB
   |succ q=>
    rcases h with⟨aQ,_⟩|⟨_,g',es,JH,eo,aH⟩
    ·rw[aQ]at aB;cases aB
    ·have ahC:∀e∈es,Bk Wg e:=λe he=>bk_of_mute (JH e he);refine book (eo w) (.refl Wg w) gA ahC (λjG e he=>.inl ?_) (.quit aH) rfl (by omega) (λ_ a1 _=>(same q _).retag a1) (.inr ⟨rfl,rfl⟩);rcases bk_of_mute (Wg:=Wg) (JH e (Array.mem_of_getElem? he))with U|U|⟨a,wr,rfl,_⟩
     ·rw[ofEvent_loc_mark U];rfl
     ·rw[ofEvent_loc_mark U];rfl
     ·have:=JH _ (Array.mem_of_getElem? he);simp[Event.mute]at this
end
end
section
open Go Go.Conc
open Go.ConcN (CTag WD Vc Ssum Fsum sumTo upd sumTo_upd upd_ne upd_same cnt pend PayAt Has WgLive RelBy Apart CT Ok0 OkW RW get_map_set get_map_set_same cell_of_block Deaf_absent Deaf_still)
open Go.ConcR (KK WgAt stA smA rd wr mk Payload Bk g_of_ofEvents)
def py:Loc->Option Nat
 |.cell a=>some a.block
 |.obj r=>some r
 |_=>none
def xe(cf:Nat->Nat)(C j0 n k:Nat)(l:Loc):Prop:=(∃b,py l=some b/\cf b=k/\j0<k)\/∃i,k=j0+1+i/\i<n/\l=.cell ⟨C,i,none⟩
def vv(RO:Nat->Nat->Prop)(j0 k:Nat)(l:Loc):Prop:=∃b,py l=some b/\j0<k/\RO (k-(j0+1)) b
structure CM(cf:Nat->Nat)(RO:Nat->Nat->Prop)(S:Nat->Prop)(Wg C:Nat):Prop where
 zA:cf Wg=0
 zB:cf C=0
 K0:∀b,S b->cf b=0
 ro:∀i b,RO i b->cf b=0/\b≠Wg/\b≠C/\¬S b
 LO:¬S C
 U9:¬S Wg
 ts:C≠Wg
section
variable{cf:Nat->Nat}{RO:Nat->Nat->Prop}{S:Nat->Prop}{Wg C j0 n:Nat}
theorem CM.apart(h:CM cf RO S Wg C):Apart (hP λb=>S b\/b=Wg) (xe cf C j0 n) (vv RO j0):=by
 refine⟨?_,?_,?_,?_⟩
 ·rintro k bB l (⟨b,U,ab,al⟩|⟨i,U,ab,rfl⟩) (⟨a6,fG,ha,od⟩|⟨cm,fG,ha,e⟩)
  ·grind
  ·subst e;simp[py]at U;subst U;have:=h.zB;omega
  ·simp[py]at fG;subst fG;have:=h.zB;omega
  grind
 ·rintro k bB l (⟨b,U,ab,al⟩|⟨i,U,ab,rfl⟩) ⟨a6,fG,ha,od⟩
  ·rw[U]at fG;cases fG;have:=(h.ro _ _ od).1;omega
  ·simp[py]at fG;subst fG;exact(h.ro _ _ od).2.2.1 rfl
 ·rintro k l (⟨b,U,ab,al⟩|⟨i,U,ab,rfl⟩) ⟨a,e,ao⟩
  ·subst e;simp[py]at U;subst U;rcases ao with ao|ao
   ·have:=h.K0 _ ao;omega
   ·rw[ao]at ab;have:=h.zA;omega
  ·injection e with e;subst e;exact ao.elim h.LO h.ts
 ·rintro k l ⟨b,U,ab,al⟩ ⟨a,rfl,ao⟩;simp[py]at U;obtain⟨_,bf,_,cX⟩:=h.ro _ _ al;grind
end
inductive EvB(B RO:Nat->Prop):Event->Prop
 |rd {a:Addr}:B a.block\/RO a.block->EvB B RO ⟨.cell a,false,false⟩
 |wr {a:Addr}:B a.block->EvB B RO ⟨.cell a,true,false⟩
 |get {r:Nat}:B r\/RO r->EvB B RO ⟨.obj r,false,false⟩
 |set {r:Nat}:B r->EvB B RO ⟨.obj r,true,false⟩
 |ext {f:FuncId}:EvB B RO ⟨.mark (.extern f),false,true⟩
 |room:EvB B RO ⟨.mark .noRoom,false,true⟩
theorem EvB.still{B RO:Nat->Prop}{e:Event}(h:EvB B RO e)(a:Addr):e.loc≠.mark .disable/\e.loc≠.mark .enable/\e.loc≠.mark (.release a):=by cases h<;>simp
theorem EvB.plain{B RO:Nat->Prop}{e:Event}(h:EvB B RO e){x:Touch}(aj:(MemAct.ofEvent e).touch?=some x):x.kind=.plain/\x.loc.isMemory=true/\∃b,py x.loc=some b/\(B b\/(RO b/\x.write=false)):=by
 cases h with
 |rd h=>simp[ofEvent_cell0,MemAct.touch?]at aj;subst aj;exact⟨rfl,rfl,_,rfl,h.imp id λh=>⟨h,rfl⟩⟩
 |wr h=>simp[ofEvent_cell0,MemAct.touch?]at aj;subst aj;exact⟨rfl,rfl,_,rfl,.inl h⟩
 |get h=>simp[MemAct.ofEvent,MemAct.touch?]at aj;subst aj;exact⟨rfl,rfl,_,rfl,h.imp id λh=>⟨h,rfl⟩⟩
 |set h=>simp[MemAct.ofEvent,MemAct.touch?]at aj;subst aj;exact⟨rfl,rfl,_,rfl,.inl h⟩
 |ext=>trivial
 |room=>trivial
theorem EvB.low{B RO:Nat->Prop}{e:Event}(h:EvB B RO e){N:Nat}(hb:∀b,B b\/RO b->b<N):(MemAct.ofEvent e).low N:=by
 cases h with
 |rd h=>exact hb _ h
 |wr h=>exact hb _ (.inl h)
 |get h=>exact hb _ h
 |set h=>exact hb _ (.inl h)
 |ext=>trivial
 |room=>trivial
structure Kb[Payload](ty:TypeId)(Wg C n i:Nat)(B:Nat->Prop)(w w':World):Prop where
 os:w'.os=w.os
 out:w'.output=w.output
 size:w.heap.size<=w'.heap.size
 blk:∀b,b<w.heap.size->¬B b->b≠C->b≠Wg->w'.heap[b]?=w.heap[b]?
 pay:PayAt C n w->PayAt C n w'
 cells:∀cm,cm≠i->w'.cell? ⟨C,cm,none⟩=w.cell? ⟨C,cm,none⟩
 live:WgLive ty Wg w->WgLive ty Wg w'
structure Qm[Payload](C n i:Nat)(B RO:Nat->Prop)(w w':World)(es:Array Event):Prop where
 os:w'.os=w.os
 out:w'.output=w.output
 size:w.heap.size<=w'.heap.size
 blk:∀b,b<w.heap.size->¬B b->b≠C->w'.heap[b]?=w.heap[b]?
 pay:PayAt C n w->PayAt C n w'
 cells:∀cm,cm≠i->w'.cell? ⟨C,cm,none⟩=w.cell? ⟨C,cm,none⟩
 ay:∀e∈es,EvB (λb=>B b\/(w.heap.size<=b/\b<w'.heap.size)) RO e\/∃x,e=⟨.cell ⟨C,i,none⟩,x,false⟩
structure lM[Payload](P:Program)(ty:TypeId)(Wg C n:Nat)(val:Nat->Value){σ:Type}(lt:σ->σ->Prop)(b5:Nat->σ->(Nat->Prop)->(Nat->Prop)->Goroutine->World->Prop):Prop where
 run:∀{i s B RO g w},b5 i s B RO g w->g.status=.running
 keep:∀{i s B RO g w fB},b5 i s B RO g w->w.heap.size<=fB.heap.size->(∀b,B b\/RO b->fB.heap[b]?=w.heap[b]?)->fB.cell? ⟨C,i,none⟩=w.cell? ⟨C,i,none⟩->b5 i s B RO g fB
 step:∀{i s B RO g w},b5 i s B RO g w->i<n->PayAt C n w->WgLive ty Wg w->¬B C->¬RO C->∃g' w' es,stepG P false g w=.go g' w' es/\Qm C n i B RO w w' es /\
  ((∃s',lt s' s/\b5 i s' (λb=>B b\/(w.heap.size<=b/\b<w'.heap.size)) RO g' w')\/∃m,lT P ty Wg C n i (val i) 7 m 0 g' w')
def oQ{σ:Type}(lt:σ->σ->Prop):Option σ->Option σ->Prop
 |none,some _=>True
 |some s,some s'=>lt s s'
 |_,_=>False
theorem oQ.acc{σ:Type}{lt:σ->σ->Prop}{s:σ}(h:Acc lt s):Acc (oQ lt) (some s):=by
 induction h with
 |intro s _ az=>
  refine⟨_,λy aF=>?_⟩;cases y with
  |none=>exact⟨_,λz bO=>by cases z<;>exact bO.elim⟩
  |some y=>exact az y aF
theorem oQ.Pb{σ:Type}{lt:σ->σ->Prop}:Acc (oQ lt) (none:Option σ):=⟨_,λz bO=>by cases z<;>exact bO.elim⟩
def tX{α:Type}(r:α->α->Prop)(j:Nat)(bj f:Nat->α):Prop:=∃i,i<j/\r (bj i) (f i)/\∀k,k≠i->bj k=f k
theorem tX.acc{α:Type}{r:α->α->Prop}:∀(j:Nat)(f:Nat->α),(∀i,i<j->Acc r (f i))->Acc (tX r j) f
 |0,f,_=>⟨_,λy aF=>by obtain⟨i,hi,_⟩:=aF;omega⟩
 |j+1,f,h=>by
  have az:=tX.acc (r:=r) j;have aC:=h j (by omega);generalize aj:f j=x at aC;induction aC generalizing f with
  |intro x va T9=>
   have aQ:=az f λi hi=>h i (by omega);induction aQ with
   |intro f _ B5=>
    refine⟨_,λy aF=>?_⟩;obtain⟨i,hi,ad,aq⟩:=aF;have lh:∀k,k<j+1->Acc r (y k):=λk gx=>by
     by_cases e:k=i
     ·subst e;exact(h k gx).inv ad
     ·rw[aq k e];exact h k gx
    by_cases e:i=j
    ·subst e;exact T9 (y i) (aj▸ad) y lh rfl
    ·exact B5 y ⟨i,by omega,ad,aq⟩ lh (by rw[aq j λx=>e x.symm];exact aj)
theorem afO{α:Type}{r:α->α->Prop}{M:Nat->α->Nat->Prop}(H:∀s v m,Acc r v->(∀s' bg m',s'<s->Acc r bg->M s' bg m')->(∀bg m',r bg v->M s bg m')->(∀m',m'<m->M s v m')->M s v m):∀(s:Nat)(v:α)(m:Nat),Acc r v->M s v m:=by
 intro s;induction s using Nat.strongRecOn with
 |_ s ahF=>
  intro v m ai;induction ai generalizing m with
  |intro v va ahG=>
   induction m using Nat.strongRecOn with
   |_ m ahH=>exact H s v m ⟨v,va⟩ (λs' bg m' h iw=>ahF s' h bg m' iw) (λbg m' h=>ahG bg h m') ahH
section
variable[Payload](P:Program)(ty:TypeId)(Wg C n:Nat)(val ini:Nat->Value){σ:Type}(b5:Nat->σ->(Nat->Prop)->(Nat->Prop)->Goroutine->World->Prop)
inductive pE(i:Nat)(B RO:Nat->Prop)(g:Goroutine)(w:World):Option σ->WD->Prop
 |own {s:σ}:b5 i s B RO g w->pE i B RO g w (some s) ⟨7,0,0⟩
 |lu {s m d:Nat}:lT P ty Wg C n i (val i) s m d g w->pE i B RO g w none ⟨s,m,d⟩
variable(S:Nat->Prop)(j0:Nat)(Wp:World)
structure jf(j:Nat)(D:Nat->WD)(V:Nat->Option σ)(cf:Nat->Nat)(RO:Nat->Nat->Prop)(gs:Array Goroutine)(w:World)(t:Trace)(q:Nat->Nat)(d0:Nat):Prop where
 size:gs.size=j0+1+j
 old:∀k g,0<k->k<=j0->gs[k]?=some g->QuitsD P (q k) (Deaf t k) g
 wk:∀i,i<j->∃g,gs[j0+1+i]?=some g/\pE P ty Wg C n val b5 i (λb=>cf b=j0+1+i) (RO i) g w (V i) (D i)
 qE:hl (hP λb=>S b\/b=Wg) (xe cf C j0 n) (vv RO j0) w.heap.size t j0 (j0+j)
 norel:NoRelease (stA Wg) t
 deaf0:Deaf t 0=d0
 deafW:∀i,i<j->Deaf t (j0+1+i)=(D i).deaf
 rel:∀i,i<j->(D i).stage<=6->∃r,RelBy (stA Wg) t (j0+1+i) r
 has:∀i,i<j->(D i).stage<=6->Has C i (val i) w
 pay:PayAt C n w
 rest:∀i,j<=i->i<n->w.cell? ⟨C,i,none⟩=some (ini i)
 live:WgLive ty Wg w
 gT:CM cf RO S Wg C
 jn:j<=n
 tD:∀b,w.heap.size<=b->cf b=0
 xA:∀b,cf b≠0->j0<cf b/\cf b<=j0+j/\Wp.heap.size<=b
 qn:∀i b,RO i b->b<w.heap.size
 B6:∀i b,RO i b->i<j
 hR:Wp.heap.size<=w.heap.size
 xB:∀b,S b->b<Wp.heap.size
 base:∀b,b<Wp.heap.size->b≠Wg->b≠C->w.heap[b]?=Wp.heap[b]?
 os:w.os=Wp.os
 out:w.output=Wp.output
end
section
variable[Payload]{P:Program}{ty:TypeId}{Wg C n:Nat}{val ini:Nat->Value}{σ:Type}{lt:σ->σ->Prop}{b5:Nat->σ->(Nat->Prop)->(Nat->Prop)->Goroutine->World->Prop}{S:Nat->Prop}{j0:Nat}{Wp:World}
 {j:Nat} {D:Nat->WD} {V:Nat->Option σ} {cf:Nat->Nat} {RO:Nat->Nat->Prop} {gs:Array Goroutine} {w w':World} {t:Trace} {q:Nat->Nat} {d0:Nat}
def j1(cf:Nat->Nat)(w w':World)(k:Nat):Nat->Nat:=λb=>if w.heap.size<=b/\b<w'.heap.size then k else cf b
theorem pE.status{i:Nat}{B R:Nat->Prop}{g:Goroutine}{v:Option σ}{d:WD}(hW:lM P ty Wg C n val lt b5)(h:pE P ty Wg C n val b5 i B R g w v d):g.status=.running\/g.status=.finished:=by
 cases h with
 |own h=>exact .inl (hW.run h)
 |lu h=>exact h.status
theorem pE.woken{i:Nat}{B R:Nat->Prop}{g a a':Goroutine}{v:Option σ}{d:WD}(hW:lM P ty Wg C n val lt b5)(h:pE P ty Wg C n val b5 i B R g w v d):woken P a a' w' g=g:=by
 unfold Go.Conc.woken;split
 ·exact again_running _ (h.status hW)
 ·rfl
theorem pE.keep{i:Nat}{B R B' R':Nat->Prop}{g:Goroutine}{v:Option σ}{d:WD}(hW:lM P ty Wg C n val lt b5)(h:pE P ty Wg C n val b5 i B R g w v d)(dH:∀b,B' b↔B b)(cn:∀b,R' b↔R b)(ao:w.heap.size<=w'.heap.size)(hb:∀b,B b\/R b->w'.heap[b]?=w.heap[b]?)
  (ak:WgLive ty Wg w->WgLive ty Wg w') (ae:PayAt C n w->PayAt C n w') (ah:w'.cell? ⟨C,i,none⟩=w.cell? ⟨C,i,none⟩):pE P ty Wg C n val b5 i B' R' g w' v d:=by
 obtain rfl:B'=B:=funext λb=>propext (dH b);obtain rfl:R'=R:=funext λb=>propext (cn b);cases h with
 |own h=>exact .own (hW.keep h ao hb ah)
 |lu h=>exact .lu (h.rely ⟨λb h=>absurd h (Nat.not_lt_zero b),ak,ae,ah⟩)
theorem jf.at(hW:lM P ty Wg C n val lt b5)(h:(jf P ty Wg C n val ini b5 S j0 Wp) j D V cf RO gs w t q d0)(d:Nat):(jf P ty Wg C n val ini b5 S j0 Wp) j D V cf RO gs (w.at d) t q d0:=
 ⟨h.size,h.old,λi hi=>let⟨g,aN,ao⟩:=h.wk i hi;⟨g,aN,ao.keep hW (λ_=>Iff.rfl) (λ_=>Iff.rfl) (Nat.le_refl _) (λ_ _=>rfl) id id rfl⟩,h.qE,h.norel,h.deaf0,h.deafW,h.rel,h.has,h.pay,h.rest,h.live,h.gT,h.jn,h.tD,h.xA,h.qn,h.B6,h.hR,h.xB,h.base,h.os,h.out⟩
theorem jf.stepW(hW:lM P ty Wg C n val lt b5)(h:(jf P ty Wg C n val ini b5 S j0 Wp) j D V cf RO gs w t q d0){i:Nat}(hi:i<j){g g':Goroutine}{es:Array Event}{fn:FuncId}{pos:String}{V':Option σ}{D':WD}
  (aN:gs[j0+1+i]?=some g) (ej:Kb ty Wg C n i (λb=>cf b=j0+1+i) w w') (vb:pE P ty Wg C n val b5 i (λb=>j1 cf w w' (j0+1+i) b=j0+1+i) (RO i) g' w' V' D')
  (fU:∀op∈MemOp.ofEvents (j0+1+i) fn pos es,OkW (hP λb=>S b\/b=Wg) (xe (j1 cf w w' (j0+1+i)) C j0 n) (vv RO j0) (j0+1+i) op)
  (cD:∀op∈MemOp.ofEvents (j0+1+i) fn pos es,∀a,op.act.touch?=some a->¬hP (λb=>S b\/b=Wg) a.loc->a.kind≠.atomic)
  (hm:∀op∈MemOp.ofEvents (j0+1+i) fn pos es,∀a,op.act.touch?=some a->a.loc.isMemory=true)
  (gX:∀op∈MemOp.ofEvents (j0+1+i) fn pos es,op.act.low w'.heap.size)
  (K1:∀op∈MemOp.ofEvents (j0+1+i) fn pos es,op.act≠.mark (.release (stA Wg)))
  (iY:deafBehind (D i).deaf es=D'.deaf) (lU:D'.stage<=6->∃r,RelBy (stA Wg) (t++MemOp.ofEvents (j0+1+i) fn pos es) (j0+1+i) r) (Th:D'.stage<=6->Has C i (val i) w'):
  (jf P ty Wg C n val ini b5 S j0 Wp) j (upd D i D') (upd V i V') (j1 cf w w' (j0+1+i)) RO ((gs.map (woken P g g' w')).setIfInBounds (j0+1+i) g') w' (t++MemOp.ofEvents (j0+1+i) fn pos es) q d0:=by
 have bO:∀b,cf b≠0->b<w.heap.size:=λb hb=>Nat.lt_of_not_le λx=>hb (h.tD b x);have FO:∀b k,k≠j0+1+i->k≠0->(j1 cf w w' (j0+1+i) b=k↔cf b=k):=λb k aq aT=>by grind [j1]
 have hold:∀b,b<w.heap.size->j1 cf w w' (j0+1+i) b=cf b:=λb hb=>if_neg (by omega);have B7:CM (j1 cf w w' (j0+1+i)) RO S Wg C:=by
  have key:∀b,cf b=0->b<w.heap.size->j1 cf w w' (j0+1+i) b=0:=λb U ab=>(hold b ab).trans U;have ahI:Wg<w.heap.size:=by obtain⟨_,_,x⟩:=h.live;exact(Array.getElem?_eq_some_iff.1 x).1
  have hC:C<w.heap.size:=by obtain⟨_,x,_⟩:=h.pay;grind
  refine⟨key _ h.gT.zA ahI,key _ h.gT.zB hC,λb hb=>?_,λcm b hb=>?_,h.gT.LO,h.gT.U9,h.gT.ts⟩
  ·exact key _ (h.gT.K0 b hb) (Nat.lt_of_lt_of_le (h.xB b hb) h.hR)
  ·have:=h.gT.ro cm b hb;exact⟨key _ this.1 (h.qn cm b hb),this.2⟩
 have A:=B7.apart (j0:=j0) (n:=n);have B8:hl (hP λb=>S b\/b=Wg) (xe (j1 cf w w' (j0+1+i)) C j0 n) (vv RO j0) w'.heap.size t j0 (j0+j):=by
  refine(h.qE.grow (Own':=xe (j1 cf w w' (j0+1+i)) C j0 n) (Rd':=vv RO j0) (λk l _ _ ak=>?_) (λk l _ _ ak=>?_) (λ_ _ _ _=>Iff.rfl)).mono ej.size
  ·rcases ak with⟨b,U,ab,al⟩|ak
   ·exact .inl ⟨b,U,by grind,al⟩
   ·exact .inr ak
  ·rcases ak with⟨b,U,ab,al⟩|ak
   ·unfold j1 at ab;split at ab
    ·rename_i aj;refine .inr ?_;cases l with
     |cell a=>simp only[py,Option.some.injEq]at U;subst U;exact Oh h.qE.seen aj.1
     |obj r=>simp only[py,Option.some.injEq]at U;subst U;exact YH h.qE.seen aj.1
     |_=>cases U
    ·exact .inl (.inl ⟨b,U,ab,al⟩)
   ·exact .inl (.inr ak)
 have aU:j0+1+i<gs.size:=(Array.getElem?_eq_some_iff.1 aN).1;have jg:=g_of_ofEvents (g:=j0+1+i) (fn:=fn) (pos:=pos) (es:=es);refine⟨by simp[h.size],λk x aq mG aj=>?_,λcm e1=>?_,B8.appW A (by omega) (by omega) fU cD hm gX,h.norel.app K1,by rw[Deaf_other t (by omega) _ jg,h.deaf0],λcm e1=>?_,λcm e1 bh=>?_,λcm e1 bh=>?_,ej.pay h.pay,λcm U ab=>(ej.cells cm (by omega)).trans (h.rest cm U ab),ej.live h.live,B7,h.jn,λb hb=>?_,λb hb=>?_,λcm b hb=>Nat.lt_of_lt_of_le (h.qn cm b hb) ej.size,h.B6,Nat.le_trans h.hR ej.size,h.xB,λb hb U ab=>?_,ej.os.trans h.os,ej.out.trans h.out⟩
 ·rw[get_map_set _ _ _ _ (by omega)]at aj;obtain⟨y,aF,rfl⟩:=Option.map_eq_some_iff.1 aj;have aH:=h.old k y aq mG aF;rw[woken_quitsD aH,Deaf_other t (by omega) _ jg];exact aH
 ·by_cases e:cm=i
  ·simp_all[upd_same]
  ·obtain⟨x,aj,ao⟩:=h.wk cm e1;refine⟨x,by rw[get_map_set _ _ _ _ (by omega),aj,Option.map_some,ao.woken hW],?_⟩;rw[upd_ne D _ e,upd_ne V _ e];refine ao.keep hW (λb=>FO b _ (by omega) (by omega)) (λ_=>Iff.rfl) ej.size (λb hb=>?_) ej.live ej.pay (ej.cells cm e);rcases hb with hb|hb
   ·refine ej.blk b (bO b (by omega)) (by omega) ?_ ?_
    ·rintro rfl;have:=h.gT.zB;omega
    ·rintro rfl;have:=h.gT.zA;omega
   ·have:=h.gT.ro cm b hb;exact ej.blk b (h.qn cm b hb) (by omega) this.2.2.1 this.2.1
 ·by_cases e:cm=i
  ·subst e;rw[Deaf_own,h.deafW cm e1,upd_same];exact iY
  ·rw[Deaf_other t (by omega) _ jg,h.deafW cm e1,upd_ne D _ e]
 ·by_cases e:cm=i
  ·subst e;rw[upd_same]at bh;exact lU bh
  ·rw[upd_ne D _ e]at bh;obtain⟨r,ad⟩:=h.rel cm e1 bh;exact⟨r,ad.appOther jg (by omega)⟩
 ·by_cases e:cm=i
  ·subst e;rw[upd_same]at bh;exact Th bh
  ·rw[upd_ne D _ e]at bh;exact(ej.cells cm e).trans (h.has cm e1 bh)
 ·exact(if_neg (by omega)).trans (h.tD b (Nat.le_trans ej.size hb))
 ·unfold j1 at hb⊢;split
  ·rename_i aj;have:=h.hR;omega
  ·rename_i aj;rw[if_neg aj]at hb;exact h.xA b hb
 ·refine(ej.blk b (Nat.lt_of_lt_of_le hb h.hR) (λx=>?_) ab U).trans (h.base b hb U ab);have:=(h.xA b (by omega)).2.2;omega
end
end
section
open Go Go.Conc
open Go.ConcN (CTag WD Vc Ssum Fsum sumTo upd sumTo_upd upd_ne upd_same cnt pend PayAt Has WgLive RelBy Apart CT Ok0 OkW RW get_map_set get_map_set_same cell_of_block Deaf_absent Deaf_still)
open Go.ConcR (KK WgAt stA smA rd wr mk Payload Bk g_of_ofEvents)
section
variable[Payload]{P:Program}{ty:TypeId}{Wg C n:Nat}{val ini:Nat->Value}{σ:Type}{lt:σ->σ->Prop}{b5:Nat->σ->(Nat->Prop)->(Nat->Prop)->Goroutine->World->Prop}{S:Nat->Prop}{j0:Nat}{Wp:World}
 {j:Nat} {D:Nat->WD} {V:Nat->Option σ} {cf:Nat->Nat} {RO:Nat->Nat->Prop} {gs:Array Goroutine} {w w':World} {t:Trace} {q:Nat->Nat} {d0:Nat}
theorem Vx{g:Nat}{fn:FuncId}{pos:String}{es:Array Event}(hm:∀e∈es,e.mute=true):∀op∈MemOp.ofEvents g fn pos es,op.act.touch?=none:=λop aE=>by
 obtain⟨e,dG,rfl⟩:=Go.Conc.mem_ofEvents aE;exact touch_mute (hm e dG)
theorem XB{g:Nat}{fn:FuncId}{pos:String}{es:Array Event}(hm:∀e∈es,e.mute=true)(a:Addr):∀op∈MemOp.ofEvents g fn pos es,op.act≠.mark (.release a):=λop aE h=>by
 obtain⟨e,dG,rfl⟩:=Go.Conc.mem_ofEvents aE;have U:=hm e dG;have ab:=Go.ConcR.loc_of_ofEvent h;obtain⟨loc,wr,amG⟩:=e;dsimp only at ab;subst ab;simp[Event.mute]at U
theorem jf.aeu(hW:lM P ty Wg C n val lt b5)(h:(jf P ty Wg C n val ini b5 S j0 Wp) j D V cf RO gs w t q d0){k:Nat}(aq:0<k)(FP:k<=j0){g g':Goroutine}{es:Array Event}{fn:FuncId}{pos:String}{m:Nat}(aN:gs[k]?=some g)(hm:∀e∈es,e.mute=true)(aH:QuitsD P m (deafBehind (Deaf t k) es) g'):
  (jf P ty Wg C n val ini b5 S j0 Wp) j D V cf RO ((gs.map (woken P g g' w)).setIfInBounds k g') w (t++MemOp.ofEvents k fn pos es) (upd q k m) d0:=by
 have jg:=g_of_ofEvents (g:=k) (fn:=fn) (pos:=pos) (es:=es);have aU:k<gs.size:=(Array.getElem?_eq_some_iff.1 aN).1;have A:=h.gT.apart (j0:=j0) (n:=n);refine⟨by simp[h.size],λbB x gx mG aj=>?_,λcm e1=>?_,h.qE.mute A (k:=k) (by omega) (by omega) jg (Vx hm) (λop aE=>by obtain⟨e,he,rfl⟩:=Go.Conc.mem_ofEvents aE;exact low_mute (hm e he) _),h.norel.app (XB hm _),by rw[Deaf_other t (by omega) _ jg,h.deaf0],λcm e1=>by rw[Deaf_other t (by omega) _ jg,h.deafW cm e1],λcm e1 bh=>?_,h.has,h.pay,h.rest,h.live,h.gT,h.jn,h.tD,h.xA,h.qn,h.B6,h.hR,h.xB,h.base,h.os,h.out⟩
 ·by_cases e:k=bB
  ·subst e;rw[get_map_set_same _ _ _ aU]at aj;cases aj;rw[upd_same,Deaf_own];exact aH
  ·rw[get_map_set _ _ _ _ e]at aj;obtain⟨y,aF,rfl⟩:=Option.map_eq_some_iff.1 aj;have aH:=h.old bB y gx mG aF;rw[woken_quitsD aH,Deaf_other t e _ jg,upd_ne q m (Ne.symm e)];exact aH
 ·obtain⟨x,aj,ao⟩:=h.wk cm e1;exact⟨x,by rw[get_map_set _ _ _ _ (by omega),aj,Option.map_some,ao.woken hW],ao⟩
 ·obtain⟨r,ad⟩:=h.rel cm e1 bh;exact⟨r,ad.appOther jg (by omega)⟩
theorem jf.step0(hW:lM P ty Wg C n val lt b5)(h:(jf P ty Wg C n val ini b5 S j0 Wp) j D V cf RO gs w t q d0){a a':Goroutine}{es:Array Event}{fn:FuncId}{pos:String}
  (tp:w'.os=w.os) (rp:w'.output=w.output) (bX:w.heap.size<=w'.heap.size) (lV:∀b,b<w.heap.size->(cf b≠0\/(∃i,RO i b)\/b<Wp.heap.size\/b=C)->b≠Wg->w'.heap[b]?=w.heap[b]?) (qd:WgLive ty Wg w')
  (fU:∀op∈MemOp.ofEvents 0 fn pos es,Ok0 (hP λb=>S b\/b=Wg) (xe cf C j0 n) (vv RO j0) (j0+j) op)
  (cD:∀op∈MemOp.ofEvents 0 fn pos es,∀a,op.act.touch?=some a->¬hP (λb=>S b\/b=Wg) a.loc->a.kind≠.atomic)
  (gX:∀op∈MemOp.ofEvents 0 fn pos es,op.act.low w'.heap.size) (K1:∀op∈MemOp.ofEvents 0 fn pos es,op.act≠.mark (.release (stA Wg))):
  (jf P ty Wg C n val ini b5 S j0 Wp) j D V cf RO ((gs.map (woken P a a' w')).setIfInBounds 0 a') w' (t++MemOp.ofEvents 0 fn pos es) q (deafBehind d0 es):=by
 have jg:=g_of_ofEvents (g:=0) (fn:=fn) (pos:=pos) (es:=es);have A:=h.gT.apart (j0:=j0) (n:=n);have bO:∀b,cf b≠0->b<w.heap.size:=λb hb=>Nat.lt_of_not_le λx=>hb (h.tD b x);have FQ:C<w.heap.size:=by obtain⟨_,x,_⟩:=h.pay;exact(Array.getElem?_eq_some_iff.1 x).1
 have hC:w'.heap[C]?=w.heap[C]?:=lV C FQ (.inr (.inr (.inr rfl))) h.gT.ts;have ry:PayAt C n w->PayAt C n w':=λ⟨cs,ah,aI⟩=>⟨cs,hC.trans ah,aI⟩;refine⟨by simp[h.size],λbB x gx mG aj=>?_,λcm e1=>?_,((h.qE.mono bX).app0 A fU cD gX),h.norel.app K1,by rw[Deaf_own,h.deaf0],λcm e1=>by rw[Deaf_other t (by omega) _ jg,h.deafW cm e1],λcm e1 bh=>?_,λcm e1 bh=>(cell_of_block hC cm).trans (h.has cm e1 bh),ry h.pay,λcm U ab=>(cell_of_block hC cm).trans (h.rest cm U ab),qd,h.gT,h.jn,λb hb=>h.tD b (Nat.le_trans bX hb),h.xA,λi b hb=>Nat.lt_of_lt_of_le (h.qn i b hb) bX,h.B6,Nat.le_trans h.hR bX,h.xB,λb hb U ab=>(lV b (Nat.lt_of_lt_of_le hb h.hR) (.inr (.inr (.inl hb))) U).trans (h.base b hb U ab),tp.trans h.os,rp.trans h.out⟩
 ·rw[get_map_set _ _ _ _ (by omega)]at aj;obtain⟨y,aF,rfl⟩:=Option.map_eq_some_iff.1 aj;have aH:=h.old bB y gx mG aF;rw[woken_quitsD aH,Deaf_other t (by omega) _ jg];exact aH
 ·obtain⟨x,aj,ao⟩:=h.wk cm e1;refine⟨x,by rw[get_map_set _ _ _ _ (by omega),aj,Option.map_some,ao.woken hW],ao.keep hW (λ_=>Iff.rfl) (λ_=>Iff.rfl) bX (λb hb=>?_) (λ_=>qd) ry (cell_of_block hC cm)⟩;rcases hb with hb|hb
  ·refine lV b (bO b (by omega)) (.inl (by omega)) ?_;rintro rfl;have:=h.gT.zA;omega
  ·exact lV b (h.qn cm b hb) (.inr (.inl ⟨cm,hb⟩)) (h.gT.ro cm b hb).2.1
 ·obtain⟨r,ad⟩:=h.rel cm e1 bh;exact⟨r,ad.appOther jg (by omega)⟩
theorem jf.spawn(hW:lM P ty Wg C n val lt b5)(h:(jf P ty Wg C n val ini b5 S j0 Wp) j D V cf RO gs w t q 0){a' child:Goroutine}{x y:MemOp}{bM:Nat->Prop}{s:σ}(aj:x.g=0/\x.act=.go (j0+j+1))(aF:y.g=j0+j+1/\y.act=.start)(aC:j<n)
  (eP:∀b,bM b->b<w.heap.size/\cf b=0/\b≠Wg/\b≠C/\¬S b) (ah:b5 j s (λ_=>False) bM child w):
  (jf P ty Wg C n val ini b5 S j0 Wp) (j+1) (upd D j ⟨7,0,0⟩) (upd V j (some s)) cf (upd RO j bM) ((gs.setIfInBounds 0 a').push child) w (t++#[x,y]) q 0:=by
 have hm:∀op∈#[x,y],op=x\/op=y:=by intro op aE;simpa using aE
 have bh:∀op∈#[x,y],op.act≠.mark .disable/\op.act≠.mark .enable:=by
  intro op aE;rcases hm op aE with rfl|rfl
  ·rw[aj.2];exact⟨by simp,by simp⟩
  ·rw[aF.2];exact⟨by simp,by simp⟩
 have B7:CM cf (upd RO j bM) S Wg C:=⟨h.gT.zA,h.gT.zB,h.gT.K0,λi b hb=>by
  by_cases e:i=j
  ·subst e;rw[upd_same]at hb;exact(eP b hb).2
  ·rw[upd_ne RO _ e]at hb;exact h.gT.ro i b hb,h.gT.LO,h.gT.U9,h.gT.ts⟩
 have A:=B7.apart (j0:=j0) (n:=n);have K2:∀i,i≠j->upd RO j bM i=RO i:=λi e=>upd_ne RO _ e;have B8:hl (hP λb=>S b\/b=Wg) (xe cf C j0 n) (vv (upd RO j bM) j0) w.heap.size t j0 (j0+j):=h.qE.grow (λ_ _ _ _ x=>x) (λ_ _ _ _ x=>.inl x) λk l k1 hU=>by
  unfold vv;constructor
  ·rintro⟨b,U,ab,al⟩;rw[K2 _ (by omega)]at al;exact⟨b,U,ab,al⟩
  ·rintro⟨b,U,ab,al⟩;exact⟨b,U,ab,by rw[K2 _ (by omega)];exact al⟩
 refine⟨by simp[h.size];omega,λk g aq mG aN=>?_,λi hi=>?_,(B8.fork A aj aF h.deaf0),h.norel.app λop aE=>?_,by rw[Deaf_still t 0 _ bh,h.deaf0],λi hi=>?_,λi hi ao=>?_,λi hi ao=>?_,h.pay,λi U ab=>h.rest i (by omega) ab,h.live,B7,aC,h.tD,λb hb=>?_,λi b hb=>?_,λi b hb=>?_,h.hR,h.xB,h.base,h.os,h.out⟩
 ·have aU:k<gs.size:=by have:=h.size;omega
  rw[Array.getElem?_push_lt (by simpa using aU),←Array.getElem?_eq_getElem,Array.getElem?_setIfInBounds_ne (by omega)]at aN;rw[Deaf_still t _ _ bh];exact h.old k g aq mG aN
 ·rcases Nat.lt_or_ge i j with aU|h3
  ·obtain⟨g,aN,Ua⟩:=h.wk i aU;refine⟨g,?_,by rw[upd_ne D _ (by omega),upd_ne V _ (by omega),K2 i (by omega)];exact Ua⟩;rw[Array.getElem?_push_lt (by simp[h.size];omega),←Array.getElem?_eq_getElem,Array.getElem?_setIfInBounds_ne (by omega)];exact aN
  ·obtain rfl:i=j:=by omega
   refine⟨child,?_,?_⟩
   ·rw[show j0+1+i=(gs.setIfInBounds 0 a').size by simp[h.size],Array.getElem?_push_size]
   ·rw[upd_same,upd_same,upd_same];have e:(λb=>cf b=j0+1+i)=λ_=>False:=funext λb=>propext ⟨λhb=>(by have:=(h.xA b (by omega)).2.1;omega),False.elim⟩;rw[e];exact .own ah
 ·rcases hm op aE with rfl|rfl
  ·rw[aj.2];simp
  ·rw[aF.2];simp
 ·rw[Deaf_still t _ _ bh];rcases Nat.lt_or_ge i j with aU|h3
  ·rw[h.deafW i aU,upd_ne D _ (by omega)]
  ·obtain rfl:i=j:=by omega
   rw[upd_same];exact Deaf_absent λa op au e=>by have:=h.qE.ct.gs a op au;omega
 ·rcases Nat.lt_or_ge i j with aU|h3
  ·rw[upd_ne D _ (by omega)]at ao;obtain⟨r,ad⟩:=h.rel i aU ao;refine⟨r,ad.appNot λop aE=>?_⟩;rcases hm op aE with rfl|rfl
   ·rw[aj.1];omega
   ·rw[aF.1];omega
  ·obtain rfl:i=j:=by omega
   rw[upd_same]at ao;simp at ao
 ·rcases Nat.lt_or_ge i j with aU|h3
  ·rw[upd_ne D _ (by omega)]at ao;exact h.has i aU ao
  ·obtain rfl:i=j:=by omega
   rw[upd_same]at ao;simp at ao
 ·have:=h.xA b hb;exact⟨this.1,by omega,this.2.2⟩
 ·by_cases e:i=j
  ·subst e;rw[upd_same]at hb;exact(eP b hb).1
  ·rw[upd_ne RO _ e]at hb;exact h.qn i b hb
 ·by_cases e:i=j
  ·omega
  ·rw[upd_ne RO _ e]at hb;have:=h.B6 i b hb;omega
end
end
end Go.Proofs.YtlminnpaeaganaaGreat
