/- Part of the proof of RuleCover. No condition. -/
import Derived.Test.YtlminnpaeaganaaGreatMCoverAD
namespace Go.Proofs.YtlminnpaeaganaaGreat
set_option maxRecDepth 100000
set_option linter.all false
section
open Go Go.RowKit
variable[cQ]
section
variable{P:Program}{φ:bo}{w:World}{A:Anchor}{N n:Nat}{s:aA}{a:Act}{K:aA->Prop}{Q:Exit->Act->World->Prop}{r:Option Nat}{m m0:Mem}{T:l0}{o:Oper}{da:Nat}
theorem YD{t:TypeId}{x v:aa}(aI:pw m0 m)(h:h0 P m0 t x=some v):h0 P m t x=some v:=by
 have ao:∀cs,nW m0 x=some cs->nW m x=some cs:=by
  intro cs ao;unfold nW at ao⊢;split at ao
  ·rename_i id off;split at ao
   ·rename_i cr;have U:=aI.1;rw[if_pos (by omega),aI.2 id cr];exact ao
   ·cases ao
  ·exact ao
  ·cases ao
 unfold h0 at h⊢;split at h
 ·rename_i cs U ab;rw[ao _ U,ab];exact h
 ·rename_i c cs U ab;rw[ao _ U,ab];exact h
 ·cases h
theorem H5{v:aa}(aI:pw m0 s.m)(ai:bV P m0 s.ay o=some v)(hb:∀t l p,o.op≠.buildSlice t l p)(a9:K (s.put o.dst v)):eQ P s o K:=by
 unfold bV at ai;unfold eQ;split at ai<;>rename_i aE;all_goals first|(cases ai;done)|skip
 all_goals (try rw[aE])
 ·injection ai with ai;subst ai;exact a9
 ·injection ai with ai;subst ai;exact a9
 ·split at ai
  ·rename_i t a1;injection ai with ai;subst ai;exact⟨t,a1,a9⟩
  ·cases ai
 ·exact⟨v,ai,a9⟩
 ·exact⟨v,ai,a9⟩
 ·exact⟨v,ai,a9⟩
 ·split at ai
  ·rename_i aj;injection ai with ai;subst ai;simp only[aj];exact a9
  ·rename_i aj;injection ai with ai;subst ai;simp only[aj];exact a9
  ·cases ai
 ·split at ai
  ·rename_i aj;simp only[aj];exact⟨v,ai,a9⟩
  ·cases ai
 ·exact⟨v,ai,a9⟩
 ·exact⟨v,ai,a9⟩
 ·exact⟨v,ai,a9⟩
 ·exact⟨v,ai,a9⟩
 ·exact⟨v,YD aI ai,a9⟩
 ·exact⟨v,ai,a9⟩
 ·exact absurd aE (hb _ _ _)
 ·exact⟨v,ai,a9⟩
 ·split at ai
  ·rename_i aQ;injection ai with ai;subst ai;exact⟨aQ,a9⟩
  ·cases ai
 ·split at ai
  ·rename_i ah;simp only[ah];split at ai
   ·rename_i U ab;simp only[U,ab];exact⟨v,ai,a9⟩
   ·cases ai
  ·rename_i ah;simp only[ah];exact⟨v,ai,a9⟩
  ·rename_i ah;simp only[ah];exact⟨v,ai,a9⟩
  ·cases ai
theorem Z6(hm:c0 φ m w)(mD:da<m.n)(bq:m.β da=.hole){w':World}(aN:jQ w w'){l:List aa}{cs:List Value}{e:TypeId}(gM:w'.heap[w.heap.size]?=some (.cells cs.toArray e (0,0)))(ak:bl φ w l cs):
  kk φ w (φ.ho da w.heap.size) w'/\c0 (φ.ho da w.heap.size) ⟨ea m.β da (.cells l),m.n,m.an,m.rc⟩ w':=by
 have ER:φ.box da=none:=by
  rcases hm.box da mD with h|⟨b,cs,e,_,_,h⟩
  ·exact h.2
  ·rw[bq]at h;exact h.elim
 have k:kk φ w (φ.ho da w.heap.size) w':=by
  refine yg aN hm (λi b h=>?_) (λi b h=>h) (λb h=>MM h);simp only[bo.ho];split
  ·rename_i hi;subst hi;rw[ER]at h;cases h
  ·exact h
 refine⟨k,⟨λi hi=>?_,λi hi=>?_,λi b h=>?_,λi j b U ab=>?_,λi j b U ab=>hm.hp i j b U ab,λi j b U ab=>?_,Ay (m:=m) aN hm⟩⟩
 ·by_cases c1:i=da
  ·subst c1;exact .inr ⟨w.heap.size,cs.toArray,e,by simp[bo.ho],gM,by simp only[ea,if_true];exact bl.keeps k l cs ak⟩
  ·rcases hm.box i hi with⟨U,ab⟩|⟨b,cur,e',hb,bq,ad⟩
   ·exact .inl ⟨by simpa[ea,c1]using U,by simpa[bo.ho,c1]using ab⟩
   exact .inr ⟨b,cur,e',by simp[bo.ho,c1,hb],(aN.old b (mo hm hb)).trans bq,by simpa[ea,c1]using v7 k ad⟩
 ·simp only at hi;simp only[bo.ho];rw[if_neg (by omega)];exact hm.dt i hi
 ·obtain⟨U,ab⟩:=hm.arr i b h;exact⟨U,ab.of_eq (aN.old b (jN hm h))⟩
 ·simp only[bo.ho]at U ab;split at U<;>split at ab
  ·omega
  ·have hb:=Option.some.inj U;subst hb;exact absurd (mo hm ab) (by omega)
  ·have hb:=Option.some.inj ab;subst hb;exact absurd (mo hm U) (by omega)
  ·exact hm.jo i j b U ab
 ·simp only[bo.ho]at U;split at U
  ·have hb:=Option.some.inj U;subst hb;exact absurd (jN hm ab) (by omega)
  ·exact hm.sep i j b U ab
def ES(P:Program)(m0:Mem)(T:l0)(A:Anchor)(N da:Nat)(s:aA)(o:Oper)(D:List Deferred)(a':Act)(w':World):Prop:=
 ∃r bn,iS P m0 T s.ay da s.m.an o r/\cW bn w' N (s.res o.dst r s.m.n) a'/\cY A bn w' s.bb/\a'.defers=D
theorem Q9(ar:∀c,o.op≠.defer c)(h:cW φ w N s a)(bh:cY A φ w s.bb)(aV:∀t,o.dst=some t->t<N)(mD:da<s.m.n)(bq:s.m.β da=.hole){e:TypeId}{cs:List Value}{l:List aa}
  (ad:(execOp a.eval o).run P w=.ok (.value (.pointer (some ⟨w.heap.size,0,none⟩))) (w.alloc (.cells cs.toArray e))) (ak:bl φ w l cs) (rp:iS P m0 T s.ay da s.m.an o ⟨.ptr da 0,some (da,l),none⟩):
  o.dE r P a w (ES P m0 T A N da s o a.defers) Q:=by
 refine o0 ar ?_;rw[ad];have aN:=jQ.alloc w (.cells cs.toArray e);obtain⟨k,hm⟩:=Z6 h.mem mD bq aN (e:=e) (heap_alloc_new w _) ak;refine⟨_,φ.ho da w.heap.size,rp,?_,?_,put_defers _ _ _⟩
 ·have U:cW (φ.ho da w.heap.size) (w.alloc (.cells cs.toArray e)) N { s with m:=⟨ea s.m.β da (.cells l),s.m.n,s.m.an,s.m.rc⟩ } a:=
   ⟨λt=>aY.keeps k _ _ (h.tmp t),h.size,hm⟩
  have ab:=U.put aV (pv:=.ptr da 0) (v:=.pointer (some ⟨w.heap.size,0,none⟩)) ⟨w.heap.size,by simp[bo.ho],rfl⟩;have aK:s.res o.dst ⟨.ptr da 0,some (da,l),none⟩ s.m.n={ s with m:=⟨ea s.m.β da (.cells l),s.m.n,s.m.an,s.m.rc⟩ }.put o.dst (.ptr da 0):=by cases o.dst<;>simp[aA.res,aA.put]
  rw[aK];exact ab
 ·have:=bh.trans (x9 aN k);simpa using this
theorem Mz{v:aa}(rp:iS P m0 T s.ay da s.m.an o ⟨v,none,none⟩)(h:o.dE r P a w (Good A N a.defers λs'=>s'=s.put o.dst v) Q):o.dE r P a w (ES P m0 T A N da s o a.defers) Q:=by
 refine Oper.k8 ?_ h;rintro a' w' ⟨s',bn,U,ab,al,rfl⟩;exact⟨_,bn,rp,by rw[yD];exact U,by rw[aA.uA]at ab;exact ab,al⟩
theorem Qa{v:aa}(h:cW φ w N s a)(bh:cY A φ w s.bb)(aV:∀t,o.dst=some t->t<N)(aW:∀i b,A.gg.arr i=some b->i<s.bg.a)(g4:p9 s.bg.ys A.gg A.c9)(aI:pw m0 s.m)(ai:bV P m0 s.ay o=some v)
  (rp:iS P m0 T s.ay da s.m.an o ⟨v,none,none⟩):o.dE r P a w (ES P m0 T A N da s o a.defers) Q:=by
 by_cases hb:∃t l p,o.op=.buildSlice t l p
 ·obtain⟨t,len,parts,ar⟩:=hb;have iw:=ai;simp only[bV,ar]at iw;split at iw
  ·rename_i e hu;split at iw
   ·rename_i z bO;split at iw
    ·rename_i ah;obtain⟨hi,rI,eb,Br⟩:=ah;obtain⟨cs,aQ,rfl⟩:=Option.map_eq_some_iff.1 iw;exact Mz rp (Mh ar h bh aV hu bO hi rI eb Br aQ rfl)
    ·cases iw
   ·cases iw
  ·cases iw
 ·exact Mz rp (yn h bh aV aW g4 (H5 aI ai (λt l p e=>hb ⟨t,l,p,e⟩) rfl))
theorem WK(k:Nat)(E:List b9):gV k E []=E:=by cases E<;>simp[gV]
theorem abA(h:cW φ w N s a)(bh:cY A φ w s.bb)(aV:∀t,o.dst=some t->t<N)(aW:∀i b,A.gg.arr i=some b->i<s.bg.a)(g4:p9 s.bg.ys A.gg A.c9)(aI:pw m0 s.m)
  (ae:sR P m0 T s.ay s.m.β da s.m.an o) (gZ:g7 o=true->da<s.m.n/\s.m.β da=.hole) (hle:da<=s.m.n):o.dE r P a w (ES P m0 T A N da s o a.defers) Q:=by
 unfold sR at ae;split at ae
 ·rename_i t aE;obtain⟨z,bO⟩:=ae;obtain⟨U,ab⟩:=gZ (by simp[g7,aE]);have iZ:=bO;obtain⟨i,fx,hi,tq,rfl⟩:=ye bO;exact Q9 (λc e=>by rw[aE]at e;cases e) h bh aV U ab (e:=t) (cs:=fx.cells.toList) (by simp[execOp,aE,Instr.alloc,zeroValue,typeInfo,hi,tq,newVar,newRow]) (C6 φ w _) (by simp only[iS,aE];exact⟨_,iZ,rfl⟩)
 ·rename_i e x aE;obtain⟨U,ab⟩:=gZ (by simp[g7,aE]);exact Q9 (λc e=>by rw[aE]at e;cases e) h bh aV U ab (e:=e) (cs:=(a.eval x).cells.toList) (by simp[execOp,aE,Instr.box,newVar,newRow]) (Al (h.ay x) ae) (by simp only[iS,aE])
 ·rename_i t x y aE;obtain⟨U,ab,al,aJ,id,l,bm,bI,cS,et,gp⟩:=ae;have ao:eQ P s o λs'=>s'=s.hq id (s.ay y).cells:=by
   unfold eQ;rw[aE];refine⟨U,?_⟩;simp only[uK,bm];refine⟨by omega,ab,al,aJ,l,et,by omega,?_⟩;congr 1;simp only[fa,List.take_zero,List.nil_append,Nat.zero_add];rw[List.drop_of_length_le (by omega)];simp
  refine Oper.k8 ?_ (yn (A:=A) h bh aV aW g4 ao);rintro a' w' ⟨s',bn,k1,bf,bP,rfl⟩;refine⟨⟨.undef,some (id,(s.ay y).cells),none⟩,bn,by simp only[iS,aE];exact⟨id,bm,bI,cS,rfl⟩,?_,by simpa using bf,bP⟩;rw[U,P9];exact k1
 ·rename_i c aE;split at ae
  ·rename_i f ah;split at ae
   ·rename_i g caps aQ;obtain⟨U,⟨_,ab⟩⟩:=ae;have ao:eQ P s o λs'=>∃v eR,T g (c.args.toList.map s.ay++caps) s.m.an v eR/\s'={ s with m:={ s.m with an:=eR } }.put o.dst v:=by
     unfold eQ;rw[aE];simp only[ah,aQ];refine⟨U,((ab s.m aI rfl).mono ?_).y⟩;rintro v E m' ⟨rfl,eX,Ta,ek⟩;refine⟨v,m'.an,ek,?_⟩;rw[eX];congr 1;simp only[aA.after,WK,aa.Ed]
    refine Oper.k8 ?_ (yn (A:=A) h bh aV aW g4 ao);rintro a' w' ⟨s',bn,k1,bf,bP,v,eR,ek,rfl⟩;refine⟨⟨v,none,some eR⟩,bn,by simp only[iS,aE,ah,aQ];exact⟨v,eR,ek,rfl⟩,?_,by simpa using bf,bP⟩;rw[Q8];exact k1
   ·exact ae.elim
  ·rename_i ah;obtain⟨v,ai⟩:=ae;refine Qa h bh aV aW g4 aI ai ?_;unfold iS;simp only[aE];exact⟨v,ai,rfl⟩
 ·rename_i U ab al aJ;obtain⟨v,ai⟩:=ae;refine Qa h bh aV aW g4 aI ai ?_;unfold iS;split
  ·rename_i aE;exact absurd aE (U _)
  ·rename_i aE;exact absurd aE (ab _ _)
  ·rename_i aE;exact absurd aE (al _ _ _)
  ·rename_i aE;exact absurd aE (aJ _)
  ·exact⟨v,ai,rfl⟩
end
end
section
open Go Go.RowKit
variable[cQ]
def oz(e:Edge):Bool:=Region.binds .any e
def I8(M:List Nat)(o:Oper):Nat:=o.after.toList.foldl (λm e=>if oz e then m ||| 2^e.on ||| M.getD e.on 0 else m) 0
def Sk:List Oper->List Nat->List Nat
 |[],acc=>acc
 |o::l,acc=>Sk l (acc++[I8 acc o])
def vo(M:List Nat)(i j:Nat):Bool:=(M.getD i 0).testBit j
def ord(M:List Nat)(i j:Nat):Bool:=(decide (j<i)&&vo M i j)||(decide (i<j)&&vo M j i)
def reads(ops:Array Oper)(o:Oper):List Nat:=o.op.operands.toList.filterMap (fun | .tmp t=>some t|_=>none)++(match o.guard with
 |some (j,_)=>match(ops[j]?).bind (·.dst)with
  |some d=>[d]
  |none=>[]
 |none=>[])
def clash(ops:Array Oper)(o o':Oper):Bool:=(match o'.dst with
  |some d=>(reads ops o).contains d||o.dst==some d
  |none=>false)||(oB o&&oB o')||(mU o&&(g7 o'||mU o'))||(mU o'&&g7 o)
def O2(ops:Array Oper):Bool:=ops.toList.all λo=>match o.op with
 |.select _ _=>false
 |.defer _=>false
 |_=>true
def EC(ops:Array Oper)(i:Nat):Bool:=match ops[i]? with
 |some o=>(match o.op with | .move _=>true|_=>false)&&o.guard.isNone&&o.after.toList.all (λe=>!oz e)&&Region.free .any ops (Array.replicate ops.size false) i&&O2 ops
 |none=>false
def JE(ops:Array Oper)(M:List Nat)(cp:Nat):Bool:=
 decide (cp<=ops.size)&&(List.range ops.size).all λi=>match ops[i]? with
  |none=>false
  |some o=>(M.getD i 0==I8 M o)&&o.after.toList.all (λe=>!oz e||decide (e.on<i)) &&
   (if i<cp then(!(g7 o||mU o)||o.guard.isNone)&&(List.range cp).all (λj=>match ops[j]? with
     |none=>false
     |some o'=>i==j||!clash ops o o'||ord M i j)
    else(List.range i).all λj=>vo M i j||(decide (j<cp)&&EC ops j))
def Ra(ops:Array Oper)(cp:Nat):Bool:=JE ops (Sk ops.toList []) cp
section
variable{ops:Array Oper}{M:List Nat}{cp:Nat}{L:Nat->Prop}{i j:Nat}{o o':Oper}
structure ra(ops:Array Oper)(M:List Nat)(cp:Nat):Prop where
 le:cp<=ops.size
 mask:∀i o,ops[i]?=some o->M.getD i 0=I8 M o
 back:∀i o,ops[i]?=some o->∀e∈o.after,oz e=true->e.on<i
 guard:∀i o,ops[i]?=some o->i<cp->g7 o=true\/mU o=true->o.guard=none
 pair:∀i o j o',ops[i]?=some o->ops[j]?=some o'->i<cp->j<cp->i≠j->clash ops o o'=true->ord M i j=true
 tail:∀i o,ops[i]?=some o->cp<=i->∀j,j<i->vo M i j=true\/(j<cp/\EC ops j=true)
theorem Z7(h:JE ops M cp=true):ra ops M cp:=by
 simp only[JE,Bool.and_eq_true,decide_eq_true_eq,List.all_eq_true,List.mem_range]at h;obtain⟨aT,h⟩:=h;have get:∀i o,ops[i]?=some o->_:=λi o hi=>h i (Array.getElem?_eq_some_iff.1 hi).1;refine⟨aT,λi o hi=>?_,λi o hi=>?_,λi o hi BT=>?_,λi o j o' hi aC c1 tx bU ah=>?_,λi o hi BT=>?_⟩
 ·have:=get i o hi;simp only[hi,Bool.and_eq_true,beq_iff_eq]at this;exact this.1.1
 ·have:=get i o hi;simp only[hi,Bool.and_eq_true,List.all_eq_true,Bool.or_eq_true,Bool.not_eq_true',decide_eq_true_eq]at this;intro e he hb;rcases this.1.2 e (by simpa using he)with h|h
  ·rw[h]at hb;cases hb
  ·exact h
 ·have:=get i o hi;simp only[hi,Bool.and_eq_true,if_pos BT,Bool.or_eq_true,Bool.not_eq_true']at this;intro aq;rcases this.2.1 with h|h
  ·rw[Bool.or_eq_false_iff]at h;rcases aq with aq|aq
   ·rw[h.1]at aq;cases aq
   ·rw[h.2]at aq;cases aq
  ·simpa using h
 ·have:=get i o hi;simp only[hi,Bool.and_eq_true,if_pos c1,List.all_eq_true,List.mem_range]at this;have:=this.2.2 j tx;simp only[aC,Bool.or_eq_true,beq_iff_eq,Bool.not_eq_true',ah]at this;rcases this with(h|h)|h
  ·exact absurd h bU
  ·cases h
  ·exact h
 ·have:=get i o hi;simp only[hi,Bool.and_eq_true,if_neg (Nat.not_lt.2 BT),List.all_eq_true,List.mem_range,Bool.or_eq_true,decide_eq_true_eq]at this;exact this.2
def Closed(ops:Array Oper)(L:Nat->Prop):Prop:=∀i o,ops[i]?=some o->L i->∀e∈o.after,oz e=true->L e.on
theorem O3:∀(es:List Edge)(m j:Nat),(es.foldl (λm e=>if oz e then m ||| 2^e.on ||| M.getD e.on 0 else m) m).testBit j=true->m.testBit j=true\/∃e∈es,oz e=true/\(e.on=j\/vo M e.on j=true)
 |[],m,j,h=>.inl h
 |e::es,m,j,h=>by
  rw[List.foldl_cons]at h;rcases O3 es _ j h with h|⟨e',U,ab⟩
  ·split at h
   ·rename_i hb;rw[Nat.testBit_or,Nat.testBit_or,Bool.or_eq_true,Bool.or_eq_true,Nat.testBit_two_pow,decide_eq_true_eq]at h;rcases h with(h|h)|h
    ·exact .inl h
    ·exact .inr ⟨e,by simp,hb,.inl h⟩
    ·exact .inr ⟨e,by simp,hb,.inr h⟩
   ·exact .inl h
  ·exact .inr ⟨e',by simp[U],ab⟩
theorem A1(ae:ra ops M cp)(ah:Closed ops L):∀i o,ops[i]?=some o->(∀e∈o.after,oz e=true->L e.on)->∀j,vo M i j=true->L j:=by
 intro i;induction i using Nat.strongRecOn with
 |_ i az=>
  intro o hi au j aC;unfold vo at aC;rw[ae.mask i o hi]at aC;rcases O3 _ _ _ aC with h|⟨e,U,ab,al⟩
  ·simp at h
  ·have fG:e∈o.after:=by simpa using U
   have dg:=au e fG ab;rcases al with rfl|al
   ·exact dg
   ·have aU:=ae.back i o hi e fG ab;have ao:=(Array.getElem?_eq_some_iff.1 hi).1;have he:ops[e.on]?=some (ops[e.on]'(by omega)):=by simp
    exact az e.on aU _ he (λe' oO hb=>ah _ _ he dg e' oO hb) j al
theorem Hd(ae:ra ops M cp)(ah:Closed ops L)(hi:ops[i]?=some o)(dg:L i)(h:vo M i j=true):L j:=
 A1 ae ah i o hi (λe he hb=>ah i o hi dg e he hb) j h
end
def eO(n0:Nat)(ops:Array Oper):Nat->Nat
 |0=>n0
 |k+1=>eO n0 ops k+(match ops[k]? with|some o=>oa o|none=>0)
def Valid(P:Program)(m0:Mem)(T:l0)(ops:Array Oper)(s:aA)(da:Nat)(o:Oper)(r:hg):Prop:=
 ld ops s o (iS P m0 T s.ay da s.m.an o r) (r=⟨.undef,none,none⟩)
section
variable{P:Program}{m0:Mem}{T:l0}{ops:Array Oper}{M:List Nat}{cp:Nat}{L:Nat->Prop}{i j:Nat}{o o':Oper}{s s':aA}{X Y Gt Gu:Prop}{r:hg}{da n0:Nat}
def sK(ops:Array Oper)(s:aA)(o:Oper):Option Bool:=match o.guard with
 |none=>some true
 |some (j,want)=>match(ops[j]?).bind (·.dst)with
  |some d=>match s.g d with
   |.bool b=>some (decide (b=want))
   |.undef=>some false
   |_=>none
  |none=>some false
theorem oy:ld ops s o X Y↔(sK ops s o=some true/\X)\/(sK ops s o=some false/\Y):=by
 unfold ld sK;split
 ·rename_i aN;simp only[aN];simp
 ·rename_i aN;simp only[aN];split
  ·rename_i aV;simp only[aV];split
   ·rename_i hb;simp only[hb];split<;>rename_i h<;>simp[h]
   ·rename_i hb;simp only[hb];simp
   ·rename_i U ab;split
    ·rename_i hb;exact absurd hb (U _)
    ·rename_i hb;exact absurd hb ab
    ·simp
  ·rename_i aV;simp only[aV];simp
theorem Nk(h:ld ops s o X Y)(bc:ld ops s o Gt Gu):(X/\Gt)\/(Y/\Gu):=by
 rw[oy]at *;rcases h with⟨a,h⟩|⟨a,h⟩<;>rcases bc with⟨b,bc⟩|⟨b,bc⟩
 ·exact .inl ⟨h,bc⟩
 ·rw[a]at b;cases b
 ·rw[a]at b;cases b
 ·exact .inr ⟨h,bc⟩
theorem Hy(h:ld ops s o X Y)(aj:X->Gt)(aF:Y->Gu):ld ops s o Gt Gu:=by
 rw[oy]at *;rcases h with⟨a,h⟩|⟨a,h⟩
 ·exact .inl ⟨a,aj h⟩
 ·exact .inr ⟨a,aF h⟩
theorem YE{d:Nat}{want:Bool}(aN:o.guard=some (j,want))(aV:(ops[j]?).bind (·.dst)=some d):d∈reads ops o:=by
 unfold reads;rw[aN];simp only[aV];simp
theorem guard_congr(ao:∀t∈reads ops o,s.g t=s'.g t)(h:ld ops s o X Y):ld ops s' o X Y:=by
 have:sK ops s o=sK ops s' o:=by
  unfold sK;split
  ·rfl
  ·rename_i j want aN;split
   ·rename_i d aV;rw[ao d (YE aN aV)]
   ·rfl
 rw[oy]at *;rwa[←this]
theorem O4(ao:∀t∈reads ops o,s.g t=s'.g t):∀x∈o.op.operands,s.ay x=s'.ay x:=by
 intro x aj;cases x with
 |tmp t=>
  refine ao t ?_;unfold reads;exact List.mem_append_left _ (List.mem_filterMap.2 ⟨.tmp t,by simpa using aj,rfl⟩)
 |_=>rfl
theorem WL(ao:∀t∈reads ops o,s.g t=s'.g t)(au:oB o=true->s.m.an=s'.m.an)(h:Valid P m0 T ops s da o r):Valid P m0 T ops s' da o r:=
 guard_congr ao (Hy h (λh=>WJ (O4 ao) au h) id)
def Kind(m0:Mem)(da:Nat)(o:Oper)(r:hg):Prop:=
 (∀id cs,r.bx=some (id,cs)->(m0.n<=id/\mU o=true/\id<da)\/(g7 o=true/\id=da))/\(r.an.isSome->oB o=true)
theorem WM{e:Operand->aa}{an:Nat}(h:iS P m0 T e da an o r):Kind m0 da o r:=by
 obtain⟨U,ab⟩:=Z5 h;refine⟨λid cs e=>?_,ab⟩;rcases U id cs e with⟨a,h|⟨b,c⟩⟩|h
 ·exact .inr h
 ·exact .inl ⟨a,b,c⟩
 ·exact .inr h
theorem He(h:Valid P m0 T ops s da o r):Kind m0 da o r:=by
 rcases Nk h h with⟨h,_⟩|⟨h,_⟩
 ·exact WM h
 ·subst h;exact⟨λid cs e=>by simp at e,by simp⟩
theorem H6(aN:o.guard=none)(gZ:g7 o=true)(h:Valid P m0 T ops s da o r):∃cs,r.bx=some (da,cs):=by
 simp only[Valid,ld,aN]at h;unfold g7 at gZ;unfold iS at h;split at h
 ·obtain⟨z,_,rfl⟩:=h;exact⟨z,rfl⟩
 ·subst h;exact⟨_,rfl⟩
 all_goals (rename_i aE;first|(rw[aE]at gZ;cases gZ;done)|skip)
 rename_i U ab al;split at gZ
 ·rename_i aE;exact absurd aE (U _)
 ·rename_i aE;exact absurd aE (ab _ _)
 ·cases gZ
end
end
section
open Go Go.RowKit
variable[cQ]
def left(listed:Array Bool):Nat:=listed.toList.count false
def gd(listed:Array Bool)(i:Nat):Prop:=listed.getD i false=true
theorem yo{listed:Array Bool}{i:Nat}(hi:i<listed.size):listed.getD i true=false↔¬gd listed i:=by
 simp only[gd,Array.getD_eq_getD_getElem?,Array.getElem?_eq_getElem hi,Option.getD_some];cases listed[i]<;>simp
theorem H7{listed:Array Bool}{i:Nat}(hi:i<listed.size)(h:¬gd listed i):left (listed.setIfInBounds i true)+1=left listed:=by
 have aT:listed.toList[i]'(by simpa using hi)=false:=by
  simp only[gd,Array.getD_eq_getD_getElem?,Array.getElem?_eq_getElem hi,Option.getD_some]at h;simpa using h
 have eb:0<listed.toList.count false:=List.count_pos_iff.2 (by rw[←aT];exact List.getElem_mem _);unfold left;rw[Array.toList_setIfInBounds,List.count_set (by simpa using hi),aT];have aK:((false==false)=true):=rfl;have aO:¬((true==false)=true):=by decide
 rw[if_pos aK,if_neg aO];omega
theorem Qb{listed:Array Bool}{i j:Nat}(hi:i<listed.size):gd (listed.setIfInBounds i true) j↔(gd listed j\/j=i):=by
 unfold gd;by_cases h:i=j
 ·subst h;simp[hi]
 ·rw[getD_set_ne false h];constructor
  ·exact .inl
  ·rintro(bc|bc)
   ·exact bc
   ·exact absurd bc.symm h
theorem O5{listed:Array Bool}{i:Nat}(hi:i<listed.size)(h:¬gd listed i):0<left listed:=by
 have:=H7 hi h;omega
section
variable{P:Program}{φ:bo}{w:World}{A:Anchor}{N n:Nat}{s:aA}{a:Act}{Q:Exit->Act->World->Prop}{r:Option Nat}{ops:Array Oper}{M:List Nat}{cp:Nat}
theorem Z8(ae:ra ops M cp){K:aA->Prop}{D:List Deferred}:∀(fuel:Nat)(listed:Array Bool)(a:Act)(w:World)(φ:bo)(s:aA)(k:Nat),listed.size=ops.size->left listed<=fuel->(∀i,gd listed i↔i<k)->cp<=k->k<=ops.size ->
  (ops.toList.drop k).all (nT N)=true->cW φ w N s a->cY A φ w s.bb->Old A s->a.defers=D->h1 P ops (ops.toList.drop k) s K->(∀a' w' s',s'.bg=s.bg->Good A N D (λu=>u=s'/\K u) a' w'->Q .normal a' w') ->
  nR r P ops Q fuel listed a w:=by
 intro fuel;induction fuel with
 |zero=>
  intro listed a w φ s k bX aQ ak BT aq aV ao au aW dQ a9 gI;have il:k=ops.size:=by
   refine Nat.le_antisymm aq (Nat.le_of_not_lt λaU=>?_);have:=O5 (listed:=listed) (i:=k) (by omega) (λh=>by rw[ak]at h;omega);omega
  subst il;have fK:Region.ready .any ops listed=[]:=by
   cases ad:Region.ready .any ops listed with
   |nil=>rfl
   |cons i l=>
    have hm:i∈Region.ready .any ops listed:=by rw[ad];simp
    obtain⟨U,o,ar,_⟩:=mem_ready.1 hm;have hi:=(Array.getElem?_eq_some_iff.1 ar).1;rw[yo (by omega),ak]at U;exact absurd hi U
  refine⟨fK,?_⟩;rw[List.drop_of_length_le (by simp)]at a9;exact gI a w s rfl ⟨s,φ,ao,au,dQ,rfl,a9⟩
 |succ fuel az=>
  intro listed a w φ s k bX aQ ak BT aq aV ao au aW dQ a9 gI;have zd:∀i,i∈Region.ready .any ops listed->i=k:=by
   intro i hm;obtain⟨U,o,ar,ab⟩:=mem_ready.1 hm;have hi:=(Array.getElem?_eq_some_iff.1 ar).1;rw[yo (by omega),ak]at U;refine Nat.le_antisymm (Nat.le_of_not_lt λaU=>?_) (by omega);have ah:Closed ops (gd listed):=λj o' aC dg e he hb=>(ak _).2 (Nat.lt_trans (ae.back j o' aC e he hb) ((ak j).1 dg));have:=A1 ae ah i o ar (λe he hb=>ab e he hb) k ((ae.tail i o ar (by omega) k aU).resolve_right λh=>by omega);rw[ak]at this;omega
  refine⟨λad=>?_,λi hm=>?_⟩
  ·have il:k=ops.size:=by
    refine Nat.le_antisymm aq (Nat.le_of_not_lt λaU=>?_);have:k∈Region.ready .any ops listed:=by refine mem_ready.2 ⟨(yo (by omega)).2 (λh=>by rw[ak]at h;omega),ops[k],by simp[aU],λe he hb=>(ak _).2 (ae.back k _ (by simp[aU]) e he hb)⟩
    rw[ad]at this;cases this
   subst il;rw[List.drop_of_length_le (by simp)]at a9;exact gI a w s rfl ⟨s,φ,ao,au,dQ,rfl,a9⟩
  ·have:=zd i hm;subst this;obtain⟨U,o,ar,ab⟩:=mem_ready.1 hm;have hi:=(Array.getElem?_eq_some_iff.1 ar).1;have wQ:ops.toList.drop i=o::ops.toList.drop (i+1):=by
    have aj:i<ops.toList.length:=by simpa using hi
    rw[List.drop_eq_getElem_cons aj];congr 1;have:=(Array.getElem?_eq_some_iff.1 ar).2;simpa using this
   rw[wQ]at a9 aV;simp only[List.all_cons,Bool.and_eq_true]at aV;have nh:∀t,o.dst=some t->t<N:=λt e=>by
    have:=aV.1;simp only[nT,e,decide_eq_true_eq]at this;exact this
   have mB:¬gd listed i:=λh=>by rw[ak]at h;omega
   have er:∀j,gd (listed.setIfInBounds i true) j↔j<i+1:=λj=>by rw[Qb (by omega),ak];omega
   have TX:left (listed.setIfInBounds i true)<=fuel:=by
    have:=H7 (listed:=listed) (i:=i) (by omega) mB;omega
   simp only[mr,ar];rcases yc ao a9 with⟨hw,fz⟩|⟨hw,g4⟩
   ·rw[if_pos hw];intro τ d;obtain⟨s1,⟨aK,Bu⟩,fz⟩:=fz;obtain⟨ny,kQ,pC⟩:=Bu φ w N a A ao au aW;replace kQ:=kQ.a8 τ d;replace pC:=pC.tu τ d;have qm:Old A s1:=by unfold Old at aW⊢;rw[aK];exact aW
    refine Oper.k8 ?_ (yn (A:=A) kQ pC nh qm.1 qm.2.2 (uC (λs' e h=>(⟨e,h⟩:s'.bg=s1.bg/\_)) fz));rintro a' w' ⟨s',bn,g1,a2,bZ,dR,fp⟩;replace dR:=dR.trans aK;exact az _ a' w' bn s' (i+1) (by simpa using bX) TX er (by omega) hi aV.2 g1 a2 (by unfold Old;rw[dR];exact aW) (bZ.trans dQ) fp (λfA w2 s2 aO h=>gI fA w2 s2 (aO.trans dR) h)
   ·rw[if_neg (by simp[hw])];have g1:cW φ w N (s.put o.dst .undef) (a.put o.dst undef):=ao.put nh rfl;exact az _ _ w φ _ (i+1) (by simpa using bX) TX er (by omega) hi aV.2 g1 (by rw[aA.uA];exact au) (by unfold Old;rw[aA.EA];exact aW) (by rw[put_defers];exact dQ) g4
     (λfA w2 s2 aO h=>gI fA w2 s2 (by rw[aO,aA.EA]) h)
end
section
variable{ops:Array Oper}{n0:Nat}
theorem Dw{j k:Nat}(h:j<=k):eO n0 ops j<=eO n0 ops k:=by
 induction k with
 |zero=>
  have:j=0:=by omega
  subst this;exact Nat.le_refl _
 |succ k az=>
  by_cases e:j=k+1
  ·subst e;exact Nat.le_refl _
  ·have:=az (by omega);simp only[eO];omega
theorem Eg(k:Nat):n0<=eO n0 ops k:=Dw (j:=0) (Nat.zero_le k)
theorem Eh{j k:Nat}{o:Oper}(aC:ops[j]?=some o)(hm:g7 o=true)(h:j<k):eO n0 ops j<eO n0 ops k:=by
 have:=Dw (n0:=n0) (ops:=ops) (j:=j+1) (k:=k) h;simp only[eO,aC,oa,hm,if_true]at this;omega
theorem Hz{id:Nat}(aT:n0<=id):∀k,id<eO n0 ops k->∃j o,j<k/\ops[j]?=some o/\g7 o=true/\eO n0 ops j=id
 |0,h=>by simp only[eO]at h;omega
 |k+1,h=>by
  by_cases aq:id<eO n0 ops k
  ·obtain⟨j,o,U,ab⟩:=Hz aT k aq;exact⟨j,o,by omega,ab⟩
  ·simp only[eO]at h;split at h
   ·rename_i o ar;unfold oa at h;split at h
    ·rename_i hm;exact⟨k,o,by omega,ar,hm,by omega⟩
    ·omega
   ·omega
end
end
section
open Go Go.RowKit
variable[cQ]
def hN(ops:Array Oper)(res:Nat->hg)(j:Nat):s6->Option vG:=match ops[j]? with
 |some o=>(res j).out o.dst
 |none=>λ_=>none
def ph(s:aA)(eu:Nat):aA:={ s with m:=⟨λi=>if s.m.n<=i/\i<eu then .hole else s.m.β i,eu,s.m.an,s.m.rc⟩ }
section
variable{P:Program}{T:l0}{ops:Array Oper}{M:List Nat}{cp:Nat}{L cL:Nat->Prop}{i j k:Nat}{o o':Oper}{cc s s':aA}{res km:Nat->hg}{K:aA->Prop}
theorem yp(ar:ops[j]?=some o):hN ops res j=(res j).out o.dst:=by simp[hN,ar]
theorem Oa{t:Nat}(ar:ops[j]?=some o)(h:(hN ops res j (.slot t)).isSome):o.dst=some t:=by simp_all[yp,hg.out]
theorem H8(ar:ops[j]?=some o)(h:(hN ops res j .cnt).isSome):(res j).an.isSome:=by simp_all[yp,hg.out]
theorem DV{id:Nat}(ar:ops[j]?=some o)(h:(hN ops res j (.box id)).isSome):∃cs,(res j).bx=some (id,cs):=by
 rw[yp ar]at h;grind [hg.out]
theorem HA(ae:ra ops M cp)(hi:ops[i]?=some o)(c1:i<cp)(ah:Closed ops cL)(hb:∀e∈o.after,oz e=true->cL e.on)(vp:¬cL i)(jw:∀j,cL j->j<cp)
  {mL U3:s6->vG} {l:s6} (bc:lC cL (hN ops res) U3 s'.loc) (h:lC (·<i) (hN ops km) mL s.loc) (he:∀j,cL j->km j=res j)
  (iu:∀j o',ops[j]?=some o'->j≠i->(cL j/\(hN ops res j l).isSome)\/(j<i/\(hN ops km j l).isSome)->clash ops o o'=true)
  (aT:mL l=U3 l\/∃j,cL j/\(hN ops res j l).isSome):s.loc l=s'.loc l:=by
 have s7:∀j,j<cp->∃o',ops[j]?=some o':=λj aC=>⟨ops[j]'(by have:=ae.le;omega),by simp⟩;refine O1 h bc (λj aC ao=>?_) (λj aC ao=>?_) (λj aC dg=>?_) aT
 ·obtain⟨o',eC⟩:=s7 j (by omega);have:=ae.pair i o j o' hi eC c1 (by omega) (by omega) (iu j o' eC (by omega) (.inr ⟨aC,ao⟩));grind [ord,A1]
 ·have bU:j≠i:=λe=>vp (e▸aC);obtain⟨o',eC⟩:=s7 j (jw j aC);have:=ae.pair i o j o' hi eC c1 (jw j aC) (Ne.symm bU) (iu j o' eC bU (.inl ⟨aC,ao⟩));grind [ord,Hd]
 simp_all[hN]
theorem Nl{t:Nat}(h:t∈reads ops o\/o.dst=some t)(aV:o'.dst=some t):clash ops o o'=true:=by grind [clash]
theorem Nm(h:oB o=true)(bc:oB o'=true):clash ops o o'=true:=by grind [clash]
theorem C7(h:mU o=true)(bc:mU o'=true\/g7 o'=true):clash ops o o'=true:=by grind [clash]
theorem O6(h:g7 o=true)(bc:mU o'=true):clash ops o o'=true:=by grind [clash]
theorem Ob(ae:ra ops M cp)(hi:ops[i]?=some o)(c1:i<cp)(ah:Closed ops cL)(hb:∀e∈o.after,oz e=true->cL e.on)(vp:¬cL i)(jw:∀j,cL j->j<cp){eu:Nat}
  (bc:lC cL (hN ops res) (ph cc eu).loc s'.loc) (h:lC (·<i) (hN ops km) cc.loc s.loc) (he:∀j,cL j->km j=res j)
  (gx:∀j o,cL j->ops[j]?=some o->Kind cc.m (eO cc.m.n ops j) o (res j)/\(g7 o=true->∃cs,(res j).bx=some (eO cc.m.n ops j,cs)))
  (aq:∀j o,j<i->ops[j]?=some o->Kind cc.m (eO cc.m.n ops j) o (km j)):
  (∀t∈reads ops o,s.g t=s'.g t)/\(oB o=true->s.m.an=s'.m.an)/\(mU o=true->∀id,cc.m.n<=id->id<eO cc.m.n ops i->s.m.β id=s'.m.β id):=by
 refine⟨λt a1=>?_,λBd=>?_,λbh id U ab=>?_⟩
 ·have:=HA (l:=.slot t) ae hi c1 ah hb vp jw bc h he (λj o' eC _ ao=>Nl (.inl a1) (by grind [Oa])) (.inl rfl);grind [aA.loc]
 ·have:=HA (l:=.cnt) ae hi c1 ah hb vp jw bc h he (λj o' eC _ ao=>Nm Bd (by
   rcases ao with⟨dg,ao⟩|⟨dg,ao⟩
   ·exact(gx j o' dg eC).1.2 (H8 eC ao)
   ·exact(aq j o' dg eC).2 (H8 eC ao))) (.inl rfl)
  grind [aA.loc]
 ·have ak3:∀j o' (r:hg),Kind cc.m (eO cc.m.n ops j) o' r->(∃cs,r.bx=some (id,cs))->mU o'=true\/g7 o'=true:=λj o' r aq ⟨cs,hcs⟩=>by
   rcases aq.1 id cs hcs with h|h;all_goals grind
  have:=HA (l:=.box id) ae hi c1 ah hb vp jw bc h he (λj o' eC _ ao=>C7 bh (by grind [DV])) (.inr ?_)
  ·grind [aA.loc]
  ·obtain⟨j,fX,aC,fS,hm,cr⟩:=Hz U i ab;have xb:=ae.pair i o j fX hi fS c1 (by omega) (by omega) (C7 bh (.inr hm));simp[ord]at xb;have dg:cL j:=by grind [A1]
   obtain⟨cs,hcs⟩:=(gx j fX dg fS).2 hm;refine⟨j,dg,?_⟩;simp_all[yp,hg.out]
def Fh(P:Program)(T:l0)(ops:Array Oper)(cc:aA)(eu:Nat)(L:Nat->Prop)(res:Nat->hg)(j:Nat):Prop:=
 ∃o,ops[j]?=some o/\∃(cL:Nat->Prop)(s':aA),(∀k,cL k->L k)/\Closed ops cL/\(∀e∈o.after,oz e=true->cL e.on)/\¬cL j/\lC cL (hN ops res) (ph cc eu).loc s'.loc/\Valid P cc.m T ops s' (eO cc.m.n ops j) o (res j)
def Rb(P:Program)(T:l0)(ops:Array Oper)(cp:Nat)(cc:aA)(L:Nat->Prop)(res:Nat->hg)(K:aA->Prop)(k:Nat)(km:Nat->hg)(s:aA):Prop:=
 (∀j,L j->km j=res j)/\lC (·<k) (hN ops km) cc.loc s.loc/\s.m.n=eO cc.m.n ops k/\s.bg=cc.bg/\s.bb=cc.bb/\s.m.rc=cc.m.rc/\kO P cc.m T ops ((ops.toList.take cp).drop k) s K /\
  ∀j o,j<k->ops[j]?=some o->Kind cc.m (eO cc.m.n ops j) o (km j)/\(g7 o=true->∃cs,(km j).bx=some (eO cc.m.n ops j,cs))
theorem An(ae:ra ops M cp){eu:Nat}(c1:j<cp)(h:Fh P T ops cc eu L res j)(ar:ops[j]?=some o):
  Kind cc.m (eO cc.m.n ops j) o (res j)/\(g7 o=true->∃cs,(res j).bx=some (eO cc.m.n ops j,cs)):=by
 obtain⟨o',eC,cL,s',_,_,_,_,_,ai⟩:=h;have e:o'=o:=by grind
 subst e;exact⟨He ai,λhm=>H6 (ae.guard j o' ar c1 (.inl hm)) hm ai⟩
theorem aek{out:Nat->s6->Option vG}{mL σ:s6->vG}{f:s6->Option vG}{rn:Nat->s6->Option vG}(h:lC (·<k) out mL σ)(he:∀j,j<k->rn j=out j)(aq:rn k=f):lC (·<k+1) rn mL (app f σ):=by
 have:=Q7 (o:=f) h (i:=k) (Nat.lt_irrefl k) (λj aC aU=>by omega);grind [we]
theorem path(ae:ra ops M cp){eu:Nat}(jw:∀j,L j->j<cp)(bq:∀j,L j->Fh P T ops cc eu L res j)(hw:kO P cc.m T ops (ops.toList.take cp) cc K):
  ∀k,k<=cp->∃km s,Rb P T ops cp cc L res K k km s:=by
 intro k;induction k with
 |zero=>exact λ_=>⟨res,cc,λ_ _=>rfl,we (O0 (out:=hN ops res)) (λj=>⟨λh=>h.elim,λh=>absurd h (Nat.not_lt_zero j)⟩) (λj h=>False.elim h),rfl,rfl,rfl,rfl,hw,λj o h=>by omega⟩
 |succ k az=>
  intro aq;obtain⟨km,s,U,ab,al,aJ,bm,fb,bI,cS⟩:=az (by omega);have bX:k<ops.size:=by have:=ae.le;omega
  have ar:ops[k]?=some ops[k]:=by simp[bX]
  generalize ops[k]=o at ar;have wQ:(ops.toList.take cp).drop k=o::(ops.toList.take cp).drop (k+1):=by grind [List.drop_eq_getElem_cons]
  rw[wQ]at bI;have mD:eO cc.m.n ops (k+1)=eO cc.m.n ops k+oa o:=by grind [eO]
  have akQ:g7 o=true->o.guard=none:=λhm=>ae.guard k o ar (by omega) (.inl hm);have step:∀r,Valid P cc.m T ops s (eO cc.m.n ops k) o r->(L k->r=res k)->∃km s,Rb P T ops cp cc L res K (k+1) km s:=by
   intro r ai ad;have dg:kO P cc.m T ops ((ops.toList.take cp).drop (k+1)) (s.res o.dst r (eO cc.m.n ops (k+1))) K:=by
    rcases Nk bI ai with⟨fz,ew⟩|⟨g4,rfl⟩
    ·have:=(IA fz).2 r (by grind);grind
    ·have gZ:oa o=0:=by grind [oa,H6]
     have e:=yD s o.dst .undef;grind
   refine⟨λj=>if j=k then r else km j,_,λj aC=>?_,?_,?_,?_,?_,?_,dg,λj o' aC eC=>?_⟩
   ·grind
   ·rw[P7];refine aek ab (λj aC=>?_) (by grind [yp]);grind [hN]
   ·rfl
   ·simp[aA.res,aJ]
   ·simp[aA.res,bm]
   all_goals grind [aA.res,He,H6]
  by_cases KN:L k
  ·obtain⟨o',eC,cL,s',g1,a2,bZ,dR,fp,j6⟩:=bq k KN;have e:o'=o:=by grind
   subst e;obtain⟨eD,fA,_⟩:=Ob ae ar (by omega) a2 bZ dR (λj aC=>jw j (g1 j aC)) fp ab (λj aC=>U j (g1 j aC)) (λj o aC fS=>An ae (jw j (g1 j aC)) (bq j (g1 j aC)) fS) (λj o aC fS=>(cS j o aC fS).1);grind [WL]
  ·rw[kO,oy]at bI;rcases bI with⟨aN,fz⟩|⟨aN,g4⟩
   ·obtain⟨r,ad⟩:=abz (IA fz).1;exact step r (oy.2 (.inl ⟨aN,by grind⟩)) (λh=>absurd h KN)
   ·exact step ⟨.undef,none,none⟩ (oy.2 (.inr ⟨aN,rfl⟩)) (λh=>absurd h KN)
end
section
variable{P:Program}{T:l0}{ops:Array Oper}{M:List Nat}{cp:Nat}{cc:aA}{K:aA->Prop}{φ:bo}{w:World}{A:Anchor}{N n:Nat}{a:Act}{Q:Exit->Act->World->Prop}{cE:Option Nat}
theorem YF{cE:Option Nat}(o:Oper)(ao:∀cs b,o.op≠.select cs b)(aV:∀c,o.op≠.defer c)(a:Act)(dst:Option Tmp)(v:Value)(h:∀d,dst=some d->d∉o.looksAt ops):
  o.semAt cE (a.put dst v).eval=o.semAt cE a.eval:=by
 rw[Oper.semAt_eq _ _ _ aV,Oper.semAt_eq _ _ _ aV];exact execOp_put o ao a dst v h
theorem Xt{j:Nat}{jE fX:Oper}{v:Value}(aC:ops[j]?=some fX)(ahd:jE.apart ops fX=true)
  (ahe:∀cs b,jE.op≠.select cs b) (ahf:∀cs b,fX.op≠.select cs b) (ahg:∀c,fX.op≠.defer c)
  {K:Act->World->Prop} {a:Act} {w:World}
  (aF:Yields P ops jE v a) (h:mr cE P ops Q j K (a.put jE.dst v) w):
  mr cE P ops Q j (λa' w'=>Yields P ops jE v a'/\K (a'.put jE.dst v) w') a w:=by
 obtain⟨U,ab,al⟩:=Oper.apart_spec ahd;have eP:∀(a:Act),Yields P ops jE v a->∀u,Yields P ops jE v (a.put fX.dst u):=λa aF u=>
  aF.of_same (execOp_put jE ahe a fX.dst u al) (wanted_put jE a fX.dst u al)
 unfold mr at *;simp only[aC]at *;rw[wanted_put fX a jE.dst v U]at h;split
 ·rename_i hw;rw[if_pos hw]at h;intro τ d;have h:=h τ d;unfold Oper.dE at *;rw[YF fX ahf ahg a jE.dst v U]at h;generalize(fX.semAt cE a.eval).run P (a8 w τ d)=r at *;cases r with
  |ok x w'=>
   cases x<;>simp only[Oper.wP]at h⊢;all_goals grind [Act.put_comm]
  |halt x w'=>assumption
 grind [Act.put_comm]
theorem VN{i:Nat}{jE:Oper}{v:Value}(hi:ops[i]?=some jE)(Bv:∀(j:Nat) (o:Oper),ops[j]?=some o->(∀cs b,o.op≠.select cs b)/\∀c,o.op≠.defer c)
  (KO:∀a w τ d,Q .normal a w->Q .normal a (a8 w τ d)) (nh:∀c,jE.op≠.defer c):
  ∀(fuel:Nat)(listed:Array Bool)(a:Act)(w:World),
   (∀j fX,ops[j]?=some fX->j≠i->listed.getD j true=false->(∀e∈fX.after,Region.binds .any e=true->e.on≠i)->jE.apart ops fX=true) ->
   i∈Region.ready .any ops listed->Yields P ops jE v a ->
   nR cE P ops Q fuel (listed.setIfInBounds i true) (a.put jE.dst v) w->nR cE P ops Q (fuel+1) listed a w:=by
 have now:∀{a:Act}{w:World}{fuel:Nat}{l:Array Bool},Yields P ops jE v a->nR cE P ops Q fuel l (a.put jE.dst v) w->mr cE P ops Q i (nR cE P ops Q fuel l) a w:=by
  intro a w fuel l aF h;unfold mr;simp only[hi];rcases aF with⟨hw,ai⟩|⟨hw,rfl⟩
  ·rw[if_pos hw];intro τ d;unfold Oper.dE;rw[Oper.semAt_eq _ _ _ nh,ai (a8 w τ d)];exact Oc KO _ _ _ _ τ d h
  grind
 intro fuel;induction fuel with
 |zero=>
  intro listed a w _ ad aF H;refine⟨λh=>(by grind),λj aC=>?_⟩;by_cases kT:j=i
  ·grind
  ·have:=ready_mono aC kT;rw[H.1]at this;cases this
 |succ fuel az=>
  intro listed a w ER ad aF H;refine⟨λh=>(by grind),λj aC=>?_⟩;by_cases kT:j=i
  ·grind
  ·have U:=H.2 j (ready_mono aC kT);obtain⟨afy,fX,fS,lh⟩:=mem_ready.1 aC;have afz:∀e∈fX.after,Region.binds .any e=true->e.on≠i:=λe he hb heq=>by grind [mem_ready]
   have ab:=Xt fS (ER j fX fS kT afy afz) (Bv i jE hi).1 (Bv j fX fS).1 (Bv j fX fS).2 aF U;have adh:∀k ok,ops[k]?=some ok->k≠i->(listed.setIfInBounds j true).getD k true=false ->
     (∀e∈ok.after,Region.binds .any e=true->e.on≠i)->jE.apart ops ok=true:=λk ok aq tt KP fu=>by
    refine ER k ok aq tt ?_ fu;by_cases ev:j=k
    ·grind
    ·rw[getD_set_ne true ev]at KP;exact KP
   refine Nn (λa' w' al=>az (listed.setIfInBounds j true) a' w' adh (ready_mono ad (Ne.symm kT)) al.1 ?_) ab;grind [Array.setIfInBounds_comm]
theorem Qc(ae:ra ops M cp)(aV:ops.toList.all (nT N)=true){D:List Deferred}(hw:kO P cc.m T ops (ops.toList.take cp) cc λs=>h1 P ops (ops.toList.drop cp) s K)(aW:Old A cc)
  (gI:∀a' w' s',s'.bg=cc.bg->Good A N D (λu=>u=s'/\K u) a' w'->Q .normal a' w') (fuel:Nat) (listed:Array Bool) (a:Act) (w:World) (φ:bo) (res:Nat->hg) (s:aA) (bX:listed.size=ops.size) (aQ:left listed<=fuel)
  (jw:∀i,gd listed i->i<cp) (lh:∀i,i<cp->gd listed i) (bq:∀j,gd listed j->Fh P T ops cc (eO cc.m.n ops cp) (gd listed) res j) (nj:lC (gd listed) (hN ops res) (ph cc (eO cc.m.n ops cp)).loc s.loc)
  (aI:s.m.n=eO cc.m.n ops cp) (aT:s.bg=cc.bg) (he:s.bb=cc.bb) (fb:s.m.rc=cc.m.rc) (ao:cW φ w N s a) (au:cY A φ w cc.bb) (dQ:a.defers=D):nR cE P ops Q fuel listed a w:=by
 obtain⟨km,ajf,gr,p2,p3,p4,CI,TY,vH,LJ⟩:=path ae jw bq hw cp (Nat.le_refl _);have hle:=ae.le;have Tb:∀i,gd listed i↔i<cp:=λi=>⟨jw i,lh i⟩;have e:s=ajf:=by
  refine adg (funext λl=>?_) (aI.trans p3.symm) (aT.trans p4.symm) (he.trans CI.symm) (fb.trans TY.symm);have afA:lC (·<cp) (hN ops km) (ph cc (eO cc.m.n ops cp)).loc s.loc:=we nj Tb (λj aC=>by grind [hN]);refine O1 afA p2 (λj aC _=>aC) (λj aC _=>aC) (λj _ _=>rfl) ?_;cases l with
  |slot t=>exact .inl rfl
  |cnt=>exact .inl rfl
  |box id=>
   by_cases cr:cc.m.n<=id/\id<eO cc.m.n ops cp
   ·obtain⟨j,fX,aC,fS,hm,akR⟩:=Hz cr.1 cp cr.2;obtain⟨cs,hcs⟩:=(LJ j fX aC fS).2 hm;refine .inr ⟨j,aC,?_⟩;simp_all[yp,hg.out]
   grind [aA.loc,ph]
 have a9:h1 P ops (ops.toList.drop cp) s K:=by
  rw[List.drop_of_length_le (by simp;omega)]at vH;rw[e];exact vH
 refine Z8 ae fuel listed a w φ s cp bX aQ Tb (Nat.le_refl _) hle ?_ ao (by grind) (by grind [Old]) dQ a9 (λa' w' s' e' h=>gI a' w' s' (e'.trans aT) h);grind
theorem abB(ae:ra ops M cp)(aV:ops.toList.all (nT N)=true){D:List Deferred}(hw:kO P cc.m T ops (ops.toList.take cp) cc λs=>h1 P ops (ops.toList.drop cp) s K)(aW:Old A cc)
  (gI:∀a' w' s',s'.bg=cc.bg->Good A N D (λu=>u=s'/\K u) a' w'->Q .normal a' w') (KO:∀a w τ d,Q .normal a w->Q .normal a (a8 w τ d)):∀(fuel:Nat)(listed:Array Bool)(a:Act)(w:World)(φ:bo)(res:Nat->hg)(s:aA),listed.size=ops.size->left listed<=fuel ->
  (∀i,gd listed i->i<cp)->Closed ops (gd listed)->(∀j,gd listed j->Fh P T ops cc (eO cc.m.n ops cp) (gd listed) res j)->lC (gd listed) (hN ops res) (ph cc (eO cc.m.n ops cp)).loc s.loc ->
  s.m.n=eO cc.m.n ops cp->s.bg=cc.bg->s.bb=cc.bb->s.m.rc=cc.m.rc->cW φ w N s a->cY A φ w cc.bb->a.defers=D ->
  nR cE P ops Q fuel listed a w:=by
 intro fuel;induction fuel with
 |zero=>
  intro listed a w φ res s bX aQ jw ah bq nj aI aT he fb ao au dQ;have lh:∀i,i<cp->gd listed i:=λi hi=>Classical.byContradiction λh=>by
   have:=O5 (listed:=listed) (i:=i) (by have:=ae.le;omega) h;omega
  exact Qc ae aV hw aW gI 0 listed a w φ res s bX aQ jw lh bq nj aI aT he fb ao au dQ
 |succ fuel az=>
  intro listed a w φ res s bX aQ jw ah bq nj aI aT he fb ao au dQ;by_cases lh:∀i,i<cp->gd listed i
  ·exact Qc ae aV hw aW gI (fuel+1) listed a w φ res s bX aQ jw lh bq nj aI aT he fb ao au dQ
  ·have hex:∃i,i<cp/\¬gd listed i:=by grind
   obtain⟨i0,⟨jX,J7⟩,afB⟩:=GX hex;have hle:=ae.le;have step:∀i o,ops[i]?=some o->i<cp->¬gd listed i->(∀e∈o.after,oz e=true->gd listed e.on)->∀r bn a' w',Valid P cc.m T ops s (eO cc.m.n ops i) o r->cW bn w' N (s.res o.dst r s.m.n) a'->cY A bn w' cc.bb->a'.defers=D->nR cE P ops Q fuel (listed.setIfInBounds i true) a' w':=by
    intro i o ar c1 U ab r bn a' w' ai g1 a2 bZ;have hi:=(Array.getElem?_eq_some_iff.1 ar).1;have mB:∀j,gd (listed.setIfInBounds i true) j↔(gd listed j\/j=i):=λj=>Qb (by omega);refine az _ a' w' bn (λj=>if j=i then r else res j) (s.res o.dst r s.m.n) (by grind) ?_ (λj aC=>?_) (λj fX aC dg e he hb=>?_) (λj aC=>?_) ?_ (by assumption) (by simp[aA.res,aT]) (by simp[aA.res,he]) (by assumption) g1 a2 bZ
    ·grind [H7]
    ·grind
    ·rcases(mB j).1 dg with h|rfl
     ·exact(mB _).2 (.inl (ah j fX aC h e he hb))
     grind
    ·rcases(mB j).1 aC with h|rfl
     ·have bU:j≠i:=λe=>U (e▸h);obtain⟨o',eC,cL,s',dS,c2,c3,c4,ot,CJ⟩:=bq j h;refine⟨o',eC,cL,s',λk aq=>(mB k).2 (.inl (dS k aq)),c2,c3,c4,we ot (λ_=>Iff.rfl) (λk aq=>?_),by simp only[bU,if_false];exact CJ⟩;have:k≠i:=λe=>U (e▸dS k aq);simp only[hN,this,if_false]
     ·refine⟨o,ar,gd listed,s,λk aq=>(mB k).2 (.inl aq),ah,λe he hb=>ab e he hb,U,we nj (λ_=>Iff.rfl) (λk aq=>?_),by simp only[if_true];exact ai⟩;have:k≠j:=λe=>U (e▸aq);simp only[hN,this,if_false]
    ·rw[P7];have:=Q7 (o:=r.out o.dst) nj U (λj aC aU l ak=>?_)
     ·refine we this (λj=>((mB j)).symm) (λj aC=>?_);by_cases e:j=i
      ·subst e;simp[hN,ar]
      ·simp only[hN,e,if_false]
     ·cases aj:hN ops res j l with
      |none=>rfl
      |some v=>
       exfalso;have tx:=jw j aC;have fS:ops[j]?=some (ops[j]'(by omega)):=by simp
       generalize ops[j]'(by omega)=fX at fS;have KQ:(hN ops res j l).isSome:=by rw[aj];rfl
       obtain⟨hU,ak4⟩:=An ae tx (bq j aC) fS;have tV:=He ai;have I9:clash ops o fX=true\/False:=by
        cases l with
        |slot t=>
         have gE:=Oa fS KQ;have jY:o.dst=some t:=by
          simp only[hg.out]at ak;split at ak
          ·assumption
          ·cases ak
         exact .inl (Nl (.inr jY) gE)
        |cnt=>exact .inl (Nm (tV.2 (by simpa[hg.out]using ak)) (hU.2 (H8 fS KQ)))
        |box id=>
         obtain⟨cs,hcs⟩:=DV fS KQ;have ad:∃cs,r.bx=some (id,cs):=by
          simp only[hg.out]at ak;split at ak
          ·rename_i eG cs' hb;split at ak
           ·rename_i e;subst e;exact⟨cs',hb⟩
           ·cases ak
          ·cases ak
         obtain⟨cs',ad⟩:=ad;rcases tV.1 id cs' ad with⟨_,k1,_⟩|⟨k1,bf⟩<;>rcases hU.1 id cs hcs with⟨_,bP,_⟩|⟨bP,cX⟩
         ·exact .inl (C7 k1 (.inl bP))
         ·exact .inl (C7 k1 (.inr bP))
         ·exact .inl (O6 k1 bP)
         ·have:=Eh (n0:=cc.m.n) ar k1 aU;exact .inr (by omega)
       rcases I9 with I9|h
       ·have xb:=ae.pair i o j fX ar fS c1 tx (by omega) I9;simp only[ord,Bool.or_eq_true,Bool.and_eq_true,decide_eq_true_eq]at xb;rcases xb with⟨h,_⟩|⟨_,h⟩
        ·omega
        ·exact U (Hd ae ah fS aC h)
       ·exact h
   by_cases Rc:∃i,i<cp/\EC ops i=true/\¬gd listed i
   ·obtain⟨i,c1,ej,U⟩:=Rc;unfold EC at ej;split at ej
    ·rename_i o ar;simp only[Bool.and_eq_true,Option.isNone_iff_eq_none,List.all_eq_true,Bool.not_eq_true']at ej;obtain⟨⟨⟨⟨aK,aO⟩,bS⟩,b8⟩,en⟩:=ej;split at aK
     ·rename_i x aE;have hi:=(Array.getElem?_eq_some_iff.1 ar).1;have ab:∀e∈o.after,oz e=true->gd listed e.on:=λe he hb=>by
       have:=bS e (by simpa using he);rw[this]at hb;cases hb
      have Bv:∀(j:Nat)(o:Oper),ops[j]?=some o->(∀cs b,o.op≠.select cs b)/\∀c,o.op≠.defer c:=λj fX aC=>by
       unfold O2 at en;have:=List.all_eq_true.1 en fX (by have:=(Array.getElem?_eq_some_iff.1 aC).2;rw[←this];simp);refine⟨λcs b e=>?_,λc e=>?_⟩<;>rw[e]at this<;>cases this
      have nh:∀t,o.dst=some t->t<N:=λt e=>by
       have:=List.all_eq_true.1 aV o (by have:=(Array.getElem?_eq_some_iff.1 ar).2;rw[←this];simp);simp only[nT,e,decide_eq_true_eq]at this;exact this
      refine VN (v:=a.eval x) ar Bv KO (λc e=>by rw[aE]at e;cases e) fuel listed a w (λj fX aC bU KP fu=>Region.free_spec ar b8 j fX aC bU (by
        have:=(Array.getElem?_eq_some_iff.1 aC).1;simp[this]) fu) (mem_ready.2 ⟨(yo (by omega)).2 U,o,ar,λe he hb=>ab e he hb⟩)
       (.inl ⟨by simp[Region.wanted,aO],λw=>by simp[execOp,aE]⟩) ?_
      refine step i o ar c1 U ab ⟨s.ay x,none,none⟩ φ _ w (oy.2 (.inl ⟨by simp[sK,aO],?_⟩)) (by rw[yD];exact ao.put nh (ao.ay x)) au (by rw[put_defers];exact dQ);simp only[iS,aE];exact⟨_,by simp[bV,aE],rfl⟩
     ·cases aK
    ·cases ej
   have Qd:i0∈Region.ready .any ops listed:=by
    refine mem_ready.2 ⟨(yo (by omega)).2 J7,ops[i0]'(by omega),by simp,λe he hb=>?_⟩;have aU:=ae.back i0 _ (by simp) e he hb;exact Classical.byContradiction λfu=>by
     have:=afB e.on ⟨by omega,fu⟩;omega
   refine⟨λad=>(by rw[ad]at Qd;cases Qd),λi hm=>?_⟩;obtain⟨U,o,ar,ab⟩:=mem_ready.1 hm;have hi:=(Array.getElem?_eq_some_iff.1 ar).1;rw[yo (by omega)]at U;have c1:i<cp:=by
    refine Nat.lt_of_not_le λh3=>J7 ?_;exact A1 ae ah i o ar (λe he hb=>ab e he hb) i0 ((ae.tail i o ar h3 i0 (by omega)).resolve_right λh=>Rc ⟨i0,h.1,h.2,J7⟩)
   obtain⟨km,amz,gr,p2,p3,p4,CI,TY,vH,LJ⟩:=path ae jw bq hw i (by omega);have wQ:(ops.toList.take cp).drop i=o::(ops.toList.take cp).drop (i+1):=by
    have aj:i<(ops.toList.take cp).length:=by simp;omega
    rw[List.drop_eq_getElem_cons aj];congr 1;have:=(Array.getElem?_eq_some_iff.1 ar).2;simpa using this
   rw[wQ,kO]at vH;obtain⟨fj,gB,k2⟩:=Ob ae ar c1 ah (λe he hb=>ab e he hb) U jw nj p2 (λj aC=>gr j aC) (λj o aC fS=>An ae (jw j aC) (bq j aC) fS) (λj o aC fS=>(LJ j o aC fS).1);have aN:=guard_congr fj vH;have nh:∀t,o.dst=some t->t<N:=λt e=>by
    have:=List.all_eq_true.1 aV o (by have:=(Array.getElem?_eq_some_iff.1 ar).2;rw[←this];simp);simp only[nT,e,decide_eq_true_eq]at this;exact this
   simp only[mr,ar];rcases yc ao aN with⟨BU,fz⟩|⟨BU,g4⟩
   ·rw[if_pos BU];have KR:sK ops s o=some true:=by
     rcases oy.1 aN with⟨h,_⟩|⟨h,_⟩
     ·exact h
     ·exfalso;rcases yc (X:=False) (Y:=True) ao (oy.2 (.inr ⟨h,trivial⟩))with⟨_,h⟩|⟨h,_⟩
      ·exact h
      ·rw[BU]at h;cases h
    have nY:=(IA fz).1;rw[p3]at nY;have ael:=WI (O4 fj) k2 gB nY;have aem:pw cc.m s.m:=by
     refine⟨by rw[aI];exact Eg cp,λid cr=>?_⟩;rcases nj (.box id)with⟨j,v,dS,c2,c3,c4⟩|⟨dS,c2⟩
     ·exfalso;have tx:=jw j dS;have fS:ops[j]?=some (ops[j]'(by omega)):=by simp
      generalize ops[j]'(by omega)=fX at fS;obtain⟨hU,_⟩:=An ae tx (bq j dS) fS;obtain⟨cs,hcs⟩:=DV fS (by rw[c2];rfl);have:=Eg (n0:=cc.m.n) (ops:=ops) j;rcases hU.1 id cs hcs with⟨k,_⟩|⟨_,k⟩<;>omega
     ·have:¬(cc.m.n<=id/\id<eO cc.m.n ops cp):=by omega
      simpa[aA.loc,ph,this]using c2
    have gZ:g7 o=true->eO cc.m.n ops i<s.m.n/\s.m.β (eO cc.m.n ops i)=.hole:=by
     intro hm;have aU:=Eh (n0:=cc.m.n) ar hm c1;refine⟨by rw[aI];exact aU,?_⟩;rcases nj (.box (eO cc.m.n ops i))with⟨j,v,dS,c2,c3,c4⟩|⟨dS,c2⟩
     ·exfalso;have tx:=jw j dS;have kT:j≠i:=λe=>U (e▸dS);have fS:ops[j]?=some (ops[j]'(by omega)):=by simp
      generalize ops[j]'(by omega)=fX at fS;obtain⟨hU,_⟩:=An ae tx (bq j dS) fS;obtain⟨cs,hcs⟩:=DV fS (by rw[c2];rfl);rcases hU.1 _ cs hcs with⟨_,k1,bf⟩|⟨k1,bf⟩
      ·have xb:=ae.pair i o j fX ar fS c1 tx (Ne.symm kT) (O6 hm k1);simp only[ord,Bool.or_eq_true,Bool.and_eq_true,decide_eq_true_eq]at xb;rcases xb with⟨h,_⟩|⟨_,h⟩
       ·have:=Dw (n0:=cc.m.n) (ops:=ops) (Nat.le_of_lt h);omega
       ·exact U (Hd ae ah fS dS h)
      ·rcases Nat.lt_or_gt_of_ne kT with h|h
       ·have:=Eh (n0:=cc.m.n) fS k1 h;omega
       ·have:=Eh (n0:=cc.m.n) ar hm h;omega
     ·have:=Eg (n0:=cc.m.n) (ops:=ops) i;have bc:cc.m.n<=eO cc.m.n ops i/\eO cc.m.n ops i<eO cc.m.n ops cp:=⟨this,aU⟩;simpa[aA.loc,ph,bc]using c2
    intro τ d;refine Oper.k8 ?_ (abA (A:=A) (ao.a8 τ d) (cY.tu (by rw[he];exact au) τ d) nh (by rw[aT];exact aW.1) (by rw[aT];exact aW.2.2) aem ael gZ (by rw[aI];exact Dw (by omega)));rintro a' w' ⟨r,bn,g1,a2,bZ,dR⟩;exact step i o ar c1 U (λe he hb=>ab e he hb) r bn a' w' (oy.2 (.inl ⟨KR,g1⟩)) a2 (by rw[←he];exact bZ) (dR.trans dQ)
   ·rw[if_neg (by simp[BU])];have KR:sK ops s o=some false:=by
     rcases oy.1 aN with⟨h,_⟩|⟨h,_⟩
     ·exfalso;rcases yc (X:=True) (Y:=False) ao (oy.2 (.inl ⟨h,trivial⟩))with⟨h,_⟩|⟨_,h⟩
      ·rw[BU]at h;cases h
      ·exact h
     ·exact h
    exact step i o ar c1 U (λe he hb=>ab e he hb) ⟨.undef,none,none⟩ φ _ w (oy.2 (.inr ⟨KR,rfl⟩)) (by rw[yD];exact ao.put nh rfl) au (by rw[put_defers];exact dQ)
theorem H9{id:Nat}{s:aA}{Q:eJ->aA->Prop}(hm:P.follows .mixedOrders=true)(cp:Nat)(dH:Ra ops cp=true)(T:l0)
  (h:kO P s.m T ops (ops.toList.take cp) s λs'=>h1 P ops (ops.toList.drop cp) s' (Q .normal)):ff P (.region id ops true) s Q:=by
 intro A φ w N n r a aV ao au aW e3;have jv:ops.toList.all (nT N)=true:=DR aV;have ae:=Z7 dH;refine Mj hm ?_;have n9:∀i,¬gd (Array.replicate ops.size false) i:=λi h=>by
  simp[gd]at h;grind
 refine abB (A:=⟨A.gg,A.c9,φ,w⟩) ae jv h aW (D:=a.defers) ?_ (λa w τ d ⟨ex,s',bn,he,k1,bf,bP,kA,h⟩=>⟨ex,s',bn,he,k1.a8 τ d,bf.tu τ d,bP.rest (sD bn w τ d).toRest,kA,h⟩) ops.size _ a _ φ (λ_=>⟨.undef,none,none⟩) (ph s (eO s.m.n ops cp)) (by simp) (by simp[left]) (λi h=>absurd h (n9 i))
  (λi o _ h=>absurd h (n9 i)) (λj h=>absurd h (n9 j)) (we (O0 (out:=λ_ _=>none)) (λj=>⟨λh=>False.elim h,λh=>n9 j h⟩) (λj h=>False.elim h)) rfl rfl rfl rfl ?_ ⟨au.st,Rest.refl _ _⟩ rfl
 ·rintro a' w' s' e ⟨s2,bn,g1,a2,bZ,rfl,fp⟩;exact⟨.normal,s2,bn,rfl,g1,⟨a2.st,au.a8.trans a2.a8⟩,by rw[bZ];exact e3.rest a2.a8,by grind [Old],fp⟩
 ·refine⟨ao.tmp,ao.size,λi hi=>?_,λi hi=>?_,ao.mem.arr,ao.mem.jo,ao.mem.hp,ao.mem.sep,ao.mem.gw⟩
  ·by_cases c1:s.m.n<=i
   ·refine .inl ⟨?_,ao.mem.dt i c1⟩;grind [ph]
   ·rcases ao.mem.box i (by omega)with h|⟨b,cs,e,U,ab,al⟩;all_goals grind [ph]
  ·exact ao.mem.dt i (by grind [Eg,ph])
def ze(P:Program)(ops:Array Oper):Nat->Array Bool->aA->(aA->Prop)->Prop
 |0,l,s,K=>Region.ready .any ops l=[]/\K s
 |n+1,l,s,K=>(Region.ready .any ops l=[]->K s)/\∀i∈Region.ready .any ops l,∀o,ops[i]?=some o->h1 P ops [o] s λs'=>ze P ops n (l.setIfInBounds i true) s' K
theorem YG{r:Option Nat}{K:aA->Prop}{D:List Deferred}(aV:ops.toList.all (nT N)=true):∀(fuel:Nat)(listed:Array Bool)(a:Act)(w:World)(φ:bo)(s:aA),
  cW φ w N s a->cY A φ w s.bb->Old A s->a.defers=D->ze P ops fuel listed s K->(∀a' w' s',s'.bg=s.bg->Good A N D (λu=>u=s'/\K u) a' w'->Q .normal a' w') ->
  nR r P ops Q fuel listed a w:=by
 intro fuel;induction fuel with
 |zero=>
  intro listed a w φ s ao au aW dQ a9 gI;exact⟨a9.1,gI a w s rfl ⟨s,φ,ao,au,dQ,rfl,a9.2⟩⟩
 |succ fuel az=>
  intro listed a w φ s ao au aW dQ a9 gI;refine⟨λad=>gI a w s rfl ⟨s,φ,ao,au,dQ,rfl,a9.1 ad⟩,λi hm=>?_⟩;obtain⟨U,o,ar,ab⟩:=mem_ready.1 hm;have a9:=a9.2 i hm o ar;have nh:∀t,o.dst=some t->t<N:=λt e=>by grind [nT]
  simp only[h1]at a9;simp only[mr,ar];rcases yc ao a9 with⟨hw,fz⟩|⟨hw,g4⟩
  ·rw[if_pos hw];intro τ d;obtain⟨s1,⟨aK,Bu⟩,fz⟩:=fz;obtain⟨ny,kQ,pC⟩:=Bu φ w N a A ao au aW;replace kQ:=kQ.a8 τ d;replace pC:=pC.tu τ d;have qm:Old A s1:=by grind [Old]
   refine Oper.k8 ?_ (yn (A:=A) kQ pC nh qm.1 qm.2.2 (uC (λs' e h=>(⟨e,h⟩:s'.bg=s1.bg/\_)) fz));rintro a' w' ⟨s',bn,g1,a2,bZ,dR,fp⟩;grind [Old]
  ·have g1:cW φ w N (s.put o.dst .undef) (a.put o.dst undef):=ao.put nh rfl;grind [aA.uA,Old,aA.EA,put_defers]
theorem abC{id:Nat}{s:aA}{Q:eJ->aA->Prop}(hm:P.follows .mixedOrders=true)(h:ze P ops ops.size (Array.replicate ops.size false) s (Q .normal)):ff P (.region id ops true) s Q:=by
 intro A φ w N n r a aV ao au aW e3;have jv:ops.toList.all (nT N)=true:=DR aV;refine Mj hm ?_;refine YG (A:=⟨A.gg,A.c9,φ,w⟩) (D:=a.defers) jv ops.size _ a _ φ s ao ⟨au.st,Rest.refl _ _⟩ aW rfl h ?_;rintro a' w' s' e ⟨s2,bn,g1,a2,bZ,rfl,fp⟩;exact⟨.normal,s2,bn,rfl,g1,⟨a2.st,au.a8.trans a2.a8⟩,by rw[bZ];exact e3.rest a2.a8,by grind [Old],fp⟩
end
end
end Go.Proofs.YtlminnpaeaganaaGreat
