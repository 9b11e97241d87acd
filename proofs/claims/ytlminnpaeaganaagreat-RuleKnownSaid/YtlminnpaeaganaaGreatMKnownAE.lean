/- Part of the proof of RuleKnown. No condition. -/
import Derived.RangeFuncLeaves
import Derived.RangeFuncRecord
import Derived.OrdersIn
import Derived.Test.YtlminnpaeaganaaGreatMKnownAD
namespace Go.Proofs.YtlminnpaeaganaaGreat
set_option maxRecDepth 100000
set_option linter.all false
section
open Go Go.RowKit
variable[cQ]
section
variable{P:Program}{φ:bo}{w:World}{D:Nat}{o:Obj}
def nM(w:World)(D:Nat):Prop:=∃x,w.heap[D]?=some x/\(∀a b c,x≠.cells a b c)/\(∀k,w.cell? ⟨D,k,none⟩=none)/\((∃l,x=.loop l)\/∃d,x=.deferred d)
theorem GM{x:Option (List Deferred)}(h:w.heap[D]?=some (.deferred x)):nM w D:=⟨_,h,λ_ _ _ e=>(by cases e),λk=>by simp[World.cell?,h],.inr ⟨_,rfl⟩⟩
theorem Mx{x:Loop}(h:w.heap[D]?=some (.loop x)):nM w D:=⟨_,h,λ_ _ _ e=>(by cases e),λk=>by simp[World.cell?,h],.inl ⟨_,rfl⟩⟩
theorem nM.ne'{b:Nat}{o:Obj}(h:nM w D)(k:w.heap[b]?=some o)(U:∀l,o≠.loop l)(ab:∀d,o≠.deferred d):b≠D:=by
 obtain⟨x,g1,_,_,g⟩:=h;grind
theorem nM.ahb{b:Nat}(h:nM w D)(k:kz w b):b≠D:=by rcases k with⟨_,_,k⟩|⟨_,_,k⟩|⟨_,_,_,_,k⟩<;>exact h.ne' k (by simp) (by simp)
theorem nM.ne{b:Nat}{cs e f}(h:nM w D)(k:w.heap[b]?=some (.cells cs e f)):b≠D:=by
 obtain⟨x,U,ab,_⟩:=h;grind
theorem YC(dQ:nM w D){b k:Nat}{v:Value}(h:w.cell? ⟨b,k,none⟩=some v):(w.putObj D o).cell? ⟨b,k,none⟩=some v:=by
 by_cases e:b=D
 ·obtain⟨_,_,_,al,_⟩:=dQ;grind
 grind [AQ,World.putObj_heap_other]
theorem Ni(dQ:nM w D){id:Option Nat}{b sz off cap:Nat}(h:place φ w id b sz off cap):place φ (w.putObj D o) id b sz off cap:=by
 cases id with
 |none=>exact⟨h.1,by simpa using h.2⟩
 |some i=>
  obtain⟨au,cur,e,hb,ah⟩:=h;have bU:b≠D:=dQ.ne hb;exact⟨au,cur,e,(World.putObj_heap_other bU).trans hb,ah⟩
mutual
theorem aY.shut(dQ:nM w D):∀(p:aa)(v:Value),aY φ w p v->aY φ (w.putObj D o) p v
 |.int _ _,v,h=>by simpa only[aY]using h
 |.bool _,v,h=>by simpa only[aY]using h
 |.str _,v,h=>by simpa only[aY]using h
 |.undef,v,h=>by simpa only[aY]using h
 |.bad,v,h=>by simp only[aY]
 |.ca,v,h=>by simpa only[aY]using h
 |.eL,v,h=>by simpa only[aY]using h
 |.bC,v,h=>by simpa only[aY]using h
 |.dead _,v,h | .cq _,v,h=>by simpa only[aY]using h
 |.ptr i o,v,h=>by simpa only[aY]using h
 |.aV i o z,v,h=>by simpa only[aY]using h
 |.sl id sz off len cs,v,h=>by
  simp only[aY]at h⊢;obtain⟨ak,a,cap,ai,ah,h⟩:=h;refine⟨ak,a,cap,ai,ah,?_⟩;rcases h with h|⟨b,au,ae,ad⟩
  ·exact .inl h
  ·exact .inr ⟨b,au,Ni dQ ae,b7.shut dQ b cs off ad⟩
 |.bJ id off cs,v,h=>by
  simp only[aY]at h⊢;obtain⟨b,ai,ae,ad⟩:=h;exact⟨b,ai,Ni dQ ae,b7.shut dQ b cs off ad⟩
 |.fn f bf,v,h=>by
  simp only[aY]at h⊢;obtain⟨af,ai,ad⟩:=h;exact⟨af,ai,bl.shut dQ bf af ad⟩
 |.agg cs,v,h=>by
  simp only[aY]at h⊢;obtain⟨af,ai,ad⟩:=h;exact⟨af,ai,bl.shut dQ cs af ad⟩
 |.bD cs,v,h=>by
  simp only[aY]at h⊢;obtain⟨af,ai,ad⟩:=h;exact⟨af,ai,bl.shut dQ cs af ad⟩
 |.mp it id sz cs,v,h=>by
  simp only[aY]at h⊢;exact h.move (λb o ae bq _ U ab=>⟨ae,(World.putObj_heap_other (dQ.ne' bq U ab)).trans bq⟩) λb o ae bq _ U ab=>⟨ae,(World.putObj_heap_other (dQ.ne' bq U ab)).trans bq⟩
theorem bl.shut(dQ:nM w D):∀(a7:List aa)(af:List Value),bl φ w a7 af->bl φ (w.putObj D o) a7 af
 |[],af,h=>by simp only[bl]at h⊢;exact h
 |p::a7,af,h=>by
  simp only[bl]at h⊢;obtain⟨v,cB,e,aT,U⟩:=h;exact⟨v,cB,e,aY.shut dQ p v aT,bl.shut dQ a7 cB U⟩
theorem b7.shut(dQ:nM w D)(b:Nat):∀(a7:List aa)(off:Nat),b7 φ w b a7 off->b7 φ (w.putObj D o) b a7 off
 |[],_,_=>by simp only[b7]
 |p::a7,off,h=>by
  simp only[b7]at h⊢;obtain⟨⟨c,ah,aT⟩,U⟩:=h;exact⟨⟨c,YC dQ ah,aY.shut dQ p c aT⟩,b7.shut dQ b a7 (off+1) U⟩
end
theorem N9{m:Mem}(dQ:nM w D)(ak:∀l o,(l,o)∈m.rc->l≠D)(h:c0 φ m w):c0 φ m (w.putObj D o):=by
 have bU:∀(b:Nat) cs e,w.heap[b]?=some (Obj.cells cs e (0,0))->(w.putObj D o).heap[b]?=some (Obj.cells cs e (0,0)):=by
  intro b cs e hb;have:b≠D:=dQ.ne hb;grind [World.putObj_heap_other]
 refine⟨λi aX=>?_,h.dt,λi b hb=>?_,h.jo,h.hp,h.sep,λl o' er=>(World.putObj_heap_other (ak l o' er)).trans (h.gw l o' er)⟩
 ·rcases h.box i aX with g|⟨b,cs,e,U,ab,al⟩
  ·grind
  refine .inr ⟨b,cs,e,U,bU b cs e ab,?_⟩;cases ah:m.β i with
  |cells l=>rw[ah]at al;exact bl.shut dQ l _ al
  |inv I=>
   rw[ah]at al;obtain⟨l,k1,k2,bP,cX⟩:=al;exact⟨l,k1,k2,bP,bl.shut dQ l _ cX⟩
  |hole=>rw[ah]at al;trivial
 ·obtain⟨U,ab⟩:=h.arr i b hb;exact⟨U,ab.of_eq (World.putObj_heap_other (dQ.ahb ab))⟩
theorem My{A:Anchor}{N:Nat}{fn:Func}{R:Ending->World->Prop}{s:aA}{a:Act}:∀(ds:List Deferred)(φ:bo)(w:World),cW φ w N s a->cY A φ w s.bb->Marks φ w A.c9 ds ->
  (∀w',cW φ w' N s a->Step A.gg A.c9 φ w' s.bb->yC P fn a.tmps R [] w')->yC P fn a.tmps R ds w
 |[],φ,w,ao,au,_,gI=>gI w ao au.st
 |d::ds,φ,w,ao,au,⟨⟨D,e,U,ab,al,aJ⟩,hm⟩,gI=>by
  subst e;refine⟨D,rfl,λτ d=>⟨_,run_takeDeferred (w:=a8 w τ d) ab,?_⟩⟩;replace ao:=ao.a8 τ d;replace au:=au.tu τ d;replace hm:Marks φ (a8 w τ d) A.c9 ds:=hm.rest (sD φ w τ d).toRest;replace ab:(a8 w τ d).heap[D]?=some (.deferred (some [])):=ab;generalize a8 w τ d=w at *;have tv:cW φ (w.putObj D (.deferred none)) N s a:=⟨λt=>aY.shut (GM ab) _ _ (ao.tmp t),ao.size,N9 (GM ab) (λl o ak e=>by have:=ao.mem.gw l o ak;grind) ao.mem⟩;have bh:Step A.gg A.c9 φ (w.putObj D (.deferred none)) s.bb:=⟨λq c aH=>aY.shut (GM ab) _ _ (au.st.tr q c aH),au.st.os,au.st.output,by grind [World.putObj_size],
   λb hb ar ak=>by
    obtain⟨k1,k2⟩:=au.st.rest b hb ar ak;grind [World.putObj_heap_other]⟩
  refine My (A:=⟨A.gg,A.c9,φ,w.putObj D (.deferred none)⟩) ds φ _ tv ⟨bh,Rest.refl _ _⟩ ?_ (λw' k1 k2=>gI w' k1 k2);have q7:∀(l:List Deferred),Marks φ w A.c9 l->(∀dq∈l,dq≠{ target:=.collected D,args:=#[] })->Marks φ (w.putObj D (.deferred none)) A.c9 l:=by
   intro l;induction l with
   |nil=>exact λ_ _=>trivial
   |cons d l az=>
    rintro⟨⟨D',e,k1,k2,bP,cX⟩,fi⟩ bU;have ahc:D'≠D:=by grind
    exact⟨⟨D',e,k1,(World.putObj_heap_other ahc).trans k2,bP,cX⟩,az fi (λdq jv=>bU dq (by simp[jv]))⟩
  grind
end
mutual
def aa.anon(n an:Nat):aa->aa
 |.ptr i o=>if i<n then .ptr i o else .bad
 |.aV i o z=>if i<n then .aV i o z else .bad
 |.sl (some i) sz off len cs=>.sl (if i<an then some i else none) sz off len (kK n an cs)
 |.sl none sz off len cs=>.sl none sz off len (kK n an cs)
 |.bJ (some i) off cs=>.bJ (if i<an then some i else none) off (kK n an cs)
 |.bJ none off cs=>.bJ none off (kK n an cs)
 |.fn f cs=>.fn f (kK n an cs)
 |.agg cs=>.agg (kK n an cs)
 |.bD cs=>.bD (kK n an cs)
 |.int k m=>.int k m
 |.bool b=>.bool b
 |.str s=>.str s
 |.undef=>.undef
 |.bad=>.bad
 |.ca=>.ca
 |.eL=>.eL
 |.bC=>.bC
 |.dead k=>.dead k
 |.cq k=>.cq k
 |.mp it none sz cs=>.mp it none sz cs
 |.mp it (some i) sz cs=>.mp it (if i<an then some i else none) sz cs
def kK(n an:Nat):List aa->List aa
 |[]=>[]
 |p::a7=>p.anon n an::kK n an a7
end
theorem DU(n an:Nat)(l:List aa):kK n an l=l.map (aa.anon n an):=by
 induction l with
 |nil=>rfl
 |cons p a7 az=>simp[kK,az]
section
variable{φ:bo}{w:World}{m:Mem}{n an:Nat}
theorem Nj(hm:c0 φ m w){i b sz off cap:Nat}(h:place φ w (some i) b sz off cap):place (φ.cut n an) w (if i<an then some i else none) b sz off cap:=by
 by_cases aX:i<an
 ·grind [v8]
 ·rw[if_neg aX];refine⟨λar=>?_,jN hm h.1⟩;rcases ar with⟨j,aC⟩|⟨j,aC⟩<;>simp only[bo.cut]at aC<;>split at aC<;>first|cases aC|skip
  ·exact hm.sep j i b aC h.1
  ·have:=hm.hp j i b aC h.1;omega
mutual
theorem aY.anon(hm:c0 φ m w):∀(q:aa)(c:Value),aY φ w q c->aY (φ.cut n an) w (q.anon n an) c
 |.int _ _,c,h | .bool _,c,h | .str _,c,h | .undef,c,h | .bad,c,h | .ca,c,h | .eL,c,h | .bC,c,h | .dead _,c,h | .cq _,c,h=>by simp only[aY,aa.anon]at h⊢<;>exact h
 |.ptr i o,c,h=>by
  simp only[aa.anon];split
  ·rename_i aX;simp only[aY]at h⊢;obtain⟨b,U,ab⟩:=h;exact⟨b,by simp[bo.cut,aX,U],ab⟩
  ·simp only[aY]
 |.aV i o z,c,h=>by
  simp only[aa.anon];split
  ·rename_i aX;simp only[aY]at h⊢;obtain⟨b,U,ab⟩:=h;exact⟨b,by simp[bo.cut,aX,U],ab⟩
  ·simp only[aY]
 |.sl none sz off len cs,c,h=>by
  simp only[aY,aa.anon]at h⊢;obtain⟨ak,a,cap,ai,ah,h⟩:=h;refine⟨by rw[DU,List.length_map];exact ak,a,cap,ai,ah,?_⟩;rcases h with h|⟨b,bL,ae,ad⟩
  ·exact .inl h
  ·exact .inr ⟨b,bL,v8 ae (λi e=>by cases e),b7.anon hm b cs off ad⟩
 |.sl (some i) sz off len cs,c,h=>by
  simp only[aY,aa.anon]at h⊢;obtain⟨ak,a,cap,ai,ah,h⟩:=h;refine⟨by rw[DU,List.length_map];exact ak,a,cap,ai,ah,?_⟩;rcases h with h|⟨b,bL,ae,ad⟩
  ·exact absurd h.1 (by simp)
  ·exact .inr ⟨b,bL,Nj hm ae,b7.anon hm b cs off ad⟩
 |.bJ none off cs,c,h=>by
  simp only[aY,aa.anon]at h⊢;obtain⟨b,bL,ae,ad⟩:=h;exact⟨b,bL,v8 ae (λi e=>by cases e),b7.anon hm b cs off ad⟩
 |.bJ (some i) off cs,c,h=>by
  simp only[aY,aa.anon]at h⊢;obtain⟨b,bL,ae,ad⟩:=h;exact⟨b,bL,Nj hm ae,b7.anon hm b cs off ad⟩
 |.fn f cs,c,h=>by
  simp only[aY,aa.anon]at h⊢;obtain⟨af,U,ab⟩:=h;exact⟨af,U,bl.anon hm cs af ab⟩
 |.agg cs,c,h=>by
  simp only[aY,aa.anon]at h⊢;obtain⟨af,U,ab⟩:=h;exact⟨af,U,bl.anon hm cs af ab⟩
 |.bD cs,c,h=>by
  simp only[aY,aa.anon]at h⊢;obtain⟨af,U,ab⟩:=h;exact⟨af,U,bl.anon hm cs af ab⟩
 |.mp it none sz cs,c,h=>by
  simp only[aY,aa.anon]at h⊢;exact h.move (λb o ae bq _ _ _=>⟨λk=>ae (pZ k),bq⟩) λb o ae bq _ _ _=>⟨λk=>ae (pZ k),bq⟩
 |.mp it (some i) sz cs,c,h=>by
  simp only[aY,aa.anon]at h⊢;refine h.move (λb o ae bq _ _ _=>⟨?_,bq⟩) λb o ae bq _ _ _=>⟨λk=>ae (pZ k),bq⟩;simp only[o9]at ae;by_cases aX:i<an
  ·simp[aX,o9,bo.cut,ae]
  ·simp only[aX,if_false,o9];rintro(⟨k,aq⟩|⟨k,aq⟩)<;>simp only[bo.cut]at aq<;>split at aq<;>first|cases aq|skip
   ·exact hm.sep k i b aq ae
   ·rename_i aU;have:=hm.hp k i b aq ae;omega
theorem bl.anon(hm:c0 φ m w):∀(l:List aa)(af:List Value),bl φ w l af->bl (φ.cut n an) w (kK n an l) af
 |[],af,h=>by simp only[bl,kK]at h⊢;exact h
 |p::a7,af,h=>by
  simp only[bl,kK]at h⊢;obtain⟨v,cB,e,aT,U⟩:=h;exact⟨v,cB,e,aY.anon hm p v aT,bl.anon hm a7 cB U⟩
theorem b7.anon(hm:c0 φ m w)(b:Nat):∀(l:List aa)(off:Nat),b7 φ w b l off->b7 (φ.cut n an) w b (kK n an l) off
 |[],_,_=>by simp only[b7,kK]
 |p::a7,off,h=>by
  simp only[b7,kK]at h⊢;obtain⟨⟨c,ah,aT⟩,U⟩:=h;exact⟨⟨c,ah,aY.anon hm p c aT⟩,b7.anon hm b a7 (off+1) U⟩
end
mutual
theorem Xs:∀(q:aa),(∀e,q.bW e=q)->q.anon n an=q.cH n
 |.int _ _,_ | .bool _,_ | .str _,_ | .undef,_ | .bad,_ | .ca,_ | .eL,_ | .bC,_ | .dead _,_ | .cq _,_ | .ptr _ _,_ | .aV _ _ _,_=>by simp only[aa.anon,aa.cH]
 |.sl none sz off len cs,h=>by
  simp only[aa.anon,aa.cH];rw[ug cs (λe=>by have:=h e;simp only[aa.bW]at this;injection this)]
 |.sl (some i) sz off len cs,h=>by
  have:=h (.kill i);simp only[aa.bW,if_true]at this;cases this
 |.bJ none off cs,h=>by
  simp only[aa.anon,aa.cH];rw[ug cs (λe=>by have:=h e;simp only[aa.bW]at this;injection this)]
 |.bJ (some i) off cs,h=>by
  have:=h (.kill i);simp only[aa.bW,if_true]at this;cases this
 |.fn f cs,h=>by
  simp only[aa.anon,aa.cH];rw[ug cs (λe=>by have:=h e;simp only[aa.bW]at this;injection this)]
 |.agg cs,h=>by
  simp only[aa.anon,aa.cH];rw[ug cs (λe=>by have:=h e;simp only[aa.bW]at this;injection this)]
 |.bD cs,h=>by
  simp only[aa.anon,aa.cH];rw[ug cs (λe=>by have:=h e;simp only[aa.bW]at this;injection this)]
 |.mp it none sz cs,h=>by simp only[aa.anon,aa.cH]
 |.mp it (some i) sz cs,h=>by
  have:=h (.kill i);simp only[aa.bW,if_true]at this;cases this
theorem ug:∀(l:List aa),(∀e,eF e l=l)->kK n an l=iR n l
 |[],_=>by simp only[kK,iR]
 |p::a7,h=>by
  simp only[kK,iR];rw[Xs p (λe=>by have:=h e;simp only[eF]at this;injection this),ug a7 (λe=>by have:=h e;simp only[eF]at this;injection this)]
end
end
def leaves(s:aA)(pv kS:aa)(m m':Mem):Prop:=(m'=s.m/\kS=pv) \/
 (s.bb=[]/\m.n<=m'.n/\m.an<=m'.an/\m'.n<=s.m.n/\m'.rc=s.m.rc/\kS=pv.anon m'.n m'.an /\
  ∀i,i<m'.n->(i<m.n/\m'.β i=m.β i/\s.m.β i=m.β i)\/∃l,s.m.β i=.cells l/\m'.β i=.cells (kK m'.n m'.an l))
mutual
theorem aby{n an eu eR:Nat}(aI:n<=eu)(au:an<=eR):∀(q:aa),q.cT n an->q.cT eu eR
 |.int _ _,_ | .bool _,_ | .str _,_ | .undef,_ | .bad,_ | .ca,_ | .eL,_ | .bC,_ | .dead _,_ | .cq _,_=>by simp only[aa.cT]
 |.ptr i _,h=>by simp only[aa.cT]at h⊢;omega
 |.aV i _ _,h=>by simp only[aa.cT]at h⊢;omega
 |.sl none _ _ _ cs,h=>by simp only[aa.cT]at h⊢;exact wc aI au cs h
 |.sl (some i) _ _ _ cs,h=>by simp only[aa.cT]at h⊢;exact⟨by omega,wc aI au cs h.2⟩
 |.bJ none _ cs,h=>by simp only[aa.cT]at h⊢;exact wc aI au cs h
 |.bJ (some i) _ cs,h=>by simp only[aa.cT]at h⊢;exact⟨by omega,wc aI au cs h.2⟩
 |.fn _ cs,h | .agg cs,h | .bD cs,h=>by simp only[aa.cT]at h⊢;exact wc aI au cs h
 |.mp _ none _ _,h=>by simp only[aa.cT]
 |.mp _ (some i) _ _,h=>by simp only[aa.cT]at h⊢;omega
theorem wc{n an eu eR:Nat}(aI:n<=eu)(au:an<=eR):∀(l:List aa),e5 n an l->e5 eu eR l
 |[],_=>by simp only[e5]
 |p::a7,h=>by simp only[e5]at h⊢;exact⟨aby aI au p h.1,wc aI au a7 h.2⟩
end
theorem Mi{P:Program}{ys:List eN}{f:FuncId}{fn:Func}{c:Code}{args:List aa}{m:Mem}{Q:aa->List b9->Mem->Prop}
  (aQ:P.funcs[f]?=some fn) (hb:fn.body=some c) (gq:args.length<=fn.ntmps) (aV:hr fn.ntmps c=true) (fM:jU P c=false)
  (h:ff P c (wE ys args m) λe s'=>(e=.normal\/e=.ret)/\∃pv,pt P s' fn.results.toList=some pv/\∃kS m',leaves s' pv kS m m'/\Q kS s'.bb m'):qR P ys f args m Q:=by
 intro φ af w hm ai tw;refine Vw aQ hb fM ?_;have hlen:af.length=args.length:=(mg ai).symm;have ao:cW φ w fn.ntmps (wE ys args m) { tmps:=af.toArray++Array.replicate (fn.ntmps-af.toArray.size) undef,defers:=[] }:=by
  refine⟨λt=>?_,by grind,hm⟩;simp[wE];grind [o1,aY,undef]
 have aW:Old ⟨φ,w,φ,w⟩ (wE ys args m):=⟨λi b aX=>(hm.arr i b aX).1,λi b aX=>Nat.lt_of_not_le λhle=>(by rw[hm.dt i hle]at aX;cases aX),tw⟩;refine k8 (h ⟨φ,w,φ,w⟩ φ w fn.ntmps 0 none _ (ZX aV) ao ⟨Step.refl φ w,Rest.refl φ w⟩ aW trivial) ?_;rintro e a' w' ⟨ex,s',bn,he,k1,k2,bP,kA,hex,pv,gO,kS,m',ak,aH⟩;have key:yC P fn a'.tmps (λe w'=>∃v pv E m' bn,e=.returned v/\aY bn w' pv v/\c0 bn m' w'/\Step φ w bn w' E/\Q pv E m') a'.defers w':=by
  refine My a'.defers bn w' k1 k2 bP λw2 s2 t2=>?_;intro τ d;replace s2:=s2.a8 τ d;replace t2:Step φ w bn (a8 w2 τ d) s'.bb:=by
   have:=t2.trans (sD bn w2 τ d);grind
  generalize a8 w2 τ d=w2 at *;obtain⟨v,ad,ae⟩:=WH (P:=P) s2 gO;refine⟨v,w2,ad,?_⟩;rcases ak with⟨rfl,rfl⟩|⟨U,ab,al,aJ,fb,rfl,cS⟩
  ·exact⟨v,kS,s'.bb,s'.m,bn,rfl,ae,s2.mem,t2,aH⟩
  ·refine⟨v,_,s'.bb,m',bn.cut m'.n m'.an,rfl,aY.anon s2.mem _ _ ae,H4 s2.mem fb aJ (λi aX g=>?_) λi af aX ad=>?_,?_,aH⟩
   ·grind
   ·rcases cS i aX with⟨e1,aK,aO⟩|⟨l,aK,aO⟩
    ·rw[aK];rw[aO]at ad;cases ah:m.β i with
     |cells l=>
      rw[ah]at ad;obtain⟨b,cs,bS,g1,g2,g3⟩:=hm.cells e1 (by grind);rw[ah]at g3;have lp:e5 m.n m.an l:=ui aW.2.1 aW.1 l _ g3;exact bl.cut l af ad (wc ab al l lp)
     |inv I=>
      rw[ah]at ad;obtain⟨l,g1,g2,g3,g4⟩:=ad;refine⟨l,g1,g2,g3,?_⟩;have:=bl.anon (n:=m'.n) (an:=m'.an) s2.mem l af g4;grind [ug]
     |hole=>rw[ah]at ad;trivial
    ·rw[aK]at ad;rw[aO];exact bl.anon s2.mem l af ad
   ·rw[U]at t2⊢;exact DT (λ_ h=>by cases h) t2 (λi b hb=>Nat.lt_of_lt_of_le (aW.2.1 i b hb) ab) (λi b hb=>Nat.lt_of_lt_of_le (aW.1 i b hb) al)
 rcases hex with rfl|rfl
 ·cases e<;>simp[eJ.of]at he<;>first|trivial|exact key
 ·cases e<;>simp[eJ.of]at he<;>first|trivial|exact key
theorem GQ{P:Program}{f:FuncId}{fn:Func}{c:Code}{args:List aa}{m:Mem}{Q:aa->List b9->Mem->Prop}
  (aQ:P.funcs[f]?=some fn) (hb:fn.body=some c) (gq:args.length<=fn.ntmps) (aV:hr fn.ntmps c=true) (fM:jU P c=false)
  (h:ff P c (entry args m) λe s'=>(e=.normal\/e=.ret)/\∃pv,pt P s' fn.results.toList=some pv/\∃kS m',leaves s' pv kS m m'/\Q kS s'.bb m'):gL P f args m Q:=
 λφ af w hm ai=>Mi (ys:=[]) aQ hb gq aV fM h φ af w hm ai (λy aF=>(by cases aF))
def akP(m:Mem)(s:aA):Prop:=s.bb=[]/\m.n<=s.m.n/\m.an<=s.m.an/\m.rc=s.m.rc/\∀i,i<m.n->s.m.β i=m.β i
def ak2(P:Program)(f:FuncId)(args:List aa)(m:Mem)(v:aa):Prop:=gL P f args m λbg E m'=>bg=v/\E=[]/\m'=m
end
section
open Go Go.RowKit
variable[cQ]
section
variable{Λ V:Type}{L cL:Nat->Prop}{out rn:Nat->Λ->Option V}{mL TW σ Gs:Λ->V}{i:Nat}{o:Λ->Option V}
def lC(L:Nat->Prop)(out:Nat->Λ->Option V)(mL σ:Λ->V):Prop:=
 ∀l,(∃j v,L j/\out j l=some v/\(∀j5,L j5->(out j5 l).isSome->j5<=j)/\σ l=v)\/((∀j,L j->out j l=none)/\σ l=mL l)
def app(o:Λ->Option V)(σ:Λ->V):Λ->V:=λl=>(o l).getD (σ l)
theorem O0:lC (λ_=>False) out mL mL:=λ_=>.inr ⟨λ_ h=>h.elim,rfl⟩
theorem we(h:lC L out mL σ)(dg:∀j,L j↔cL j)(ar:∀j,L j->out j=rn j):lC cL rn mL σ:=by
 intro l;rcases h l with⟨j,v,U,ab,al,aJ⟩|⟨U,ab⟩;all_goals grind
theorem Q7(h:lC L out mL σ)(aX:¬L i)(Sj:∀j,L j->i<j->∀l,(o l).isSome->out j l=none):
  lC (λj=>L j\/j=i) (λj=>if j=i then o else out j) mL (app o σ):=by
 intro l;cases ar:o l with
 |some v=>grind [app]
 |none=>
  rcases h l with⟨j,v,U,ab,al,aJ⟩|⟨U,ab⟩;all_goals grind [app]
theorem O1{l:Λ}(h:lC L out mL σ)(bc:lC cL rn TW Gs)(U:∀j,L j->(out j l).isSome->cL j)(ab:∀j,cL j->(rn j l).isSome->L j)
  (ar:∀j,L j->cL j->out j l=rn j l) (aT:mL l=TW l\/∃j,cL j/\(rn j l).isSome):σ l=Gs l:=by
 rcases h l with⟨j,v,eD,a2,a3,a4⟩|⟨eD,a2⟩
 ·rcases bc l with⟨k,u,fj,gB,dI,LI⟩|⟨fj,gB⟩;all_goals grind
 ·rcases bc l with⟨k,u,fj,gB,dI,LI⟩|⟨fj,gB⟩;all_goals grind
end
inductive s6 where
 |slot (t:Nat)
 |box (i:Nat)
 |cnt
inductive vG where
 |pv (p:aa)
 |bx (c:di)
 |nat (n:Nat)
structure hg where
 v:aa
 bx:Option (Nat×List aa)
 an:Option Nat
def hg.out(d:Option Tmp)(r:hg):s6->Option vG
 |.slot t=>if d=some t then some (.pv r.v)else none
 |.box i=>match r.bx with
  |some (id,cs)=>if id=i then some (.bx (.cells cs))else none
  |none=>none
 |.cnt=>r.an.map .nat
def aA.loc(s:aA):s6->vG
 |.slot t=>.pv (s.g t)
 |.box i=>.bx (s.m.β i)
 |.cnt=>.nat s.m.an
def aA.res(s:aA)(d:Option Tmp)(r:hg)(eu:Nat):aA:=
 { (s.put d r.v)with m:=⟨match r.bx with|some (id,cs)=>ea s.m.β id (.cells cs)|none=>s.m.β,eu,r.an.getD s.m.an,s.m.rc⟩ }
theorem P7(s:aA)(d:Option Tmp)(r:hg)(eu:Nat):(s.res d r eu).loc=app (r.out d) s.loc:=by
 funext l;cases l with
 |slot t=>
  cases d with
  |none=>rfl
  |some d=>grind [aA.loc,aA.res,app,hg.out,aA.put]
 |box i=>
  obtain⟨v,bx,an⟩:=r;cases bx with
  |none=>rfl
  |some p=>
   obtain⟨id,cs⟩:=p;by_cases h:id=i
   ·simp_all[aA.loc,aA.res,app,hg.out]
   ·have:¬i=id:=λe=>h e.symm;simp[aA.loc,aA.res,app,hg.out,ea,h,this]
 |cnt=>simp_all[aA.loc,aA.res,app,hg.out]
theorem adg{s s':aA}(h:s.loc=s'.loc)(aI:s.m.n=s'.m.n)(aT:s.a0=s'.a0)(he:s.bb=s'.bb)(ad:s.m.rc=s'.m.rc):s=s':=by
 have U:s.g=s'.g:=funext λt=>by have:=congrFun h (.slot t);grind [aA.loc]
 have ab:s.m.β=s'.m.β:=funext λt=>by have:=congrFun h (.box t);grind [aA.loc]
 have al:s.m.an=s'.m.an:=by have:=congrFun h .cnt;grind [aA.loc]
 obtain⟨g,⟨β,n,an,rc⟩,a0,bb⟩:=s;simp_all
abbrev l0:=FuncId->List aa->Nat->aa->Nat->Prop
def pw(m0 m:Mem):Prop:=m0.n<=m.n/\∀i,i<m0.n->m.β i=m0.β i
def j6(o:Oper):Bool:=match o.op with
 |.alloc _ | .box _ _=>true
 |_=>false
def mU(o:Oper):Bool:=match o.op with
 |.store _ _ _=>true
 |_=>false
def oB(o:Oper):Bool:=match o.op with
 |.call c=>match c.callee with
  |.value _=>true
  |_=>false
 |_=>false
def bV(P:Program)(m0:Mem)(e:Operand->aa)(o:Oper):Option aa:=match o.op with
 |.move x | .assign x=>some (e x)
 |.pick c x y=>match e c with
  |.bool t=>some (if t then e x else e y)
  |_=>none
 |.binOp op t x y _=>eB P op t (e x) (e y)
 |.unOp op _ x=>rH op (e x)
 |.convert src dst x=>q5 P src dst (e x)
 |.nilCheck x=>match e x with
  |.ptr i off=>some (.ptr i off)
  |.fn f bf=>some (.fn f bf)
  |_=>none
 |.extract x i=>match e x with
  |.bD af=>af[i]?
  |_=>none
 |.fieldAddr t x f=>pd P t (e x) f
 |.field t x f=>yB P t (e x) f
 |.indexAddr t x i=>pT P t (e x) (e i)
 |.index t x i=>uJ P t (e x) (e i)
 |.load t x=>h0 P m0 t (e x)
 |.build t parts=>sI P t (parts.toList.map λp=>(p.1,e p.2))
 |.buildSlice t len parts=>match P.underlying t with
  |some (.slice el)=>match ki P el with
   |some z=>if(P.info? el).isSome/\z.length=P.cellsOf el/\0<z.length/\len*P.cellsOf el<=16777216 then
     (kJ (λi=>some (i*P.cellsOf el,P.cellsOf el)) (e8 z len) (parts.toList.map λp=>(p.1,e p.2))).map λcs=>.sl none (P.cellsOf el) 0 len cs
    else none
   |none=>none
  |_=>none
 |.slice t x cw aX none=>p1 P t (e x) (cw.map e) (aX.map e)
 |.makeFunc (.func f) first bf=>if first=#[]then some (.fn f (bf.toList.map e))else none
 |.call c=>match c.callee with
  |.builtin .len=>match c.argTypes[0]?,c.args.toList with
   |some t,[x]=>ht P t (e x)
   |_,_=>none
  |.builtin .min=>s4 (c.args.toList.map e)
  |.builtin .max=>u3 (c.args.toList.map e)
  |_=>none
 |_=>none
def EB(P:Program)(m0:Mem)(T:l0)(g:FuncId)(args:List aa)(an:Nat):Prop:=
 (∃v eR,T g args an v eR)/\∀m,pw m0 m->m.an=an->gL P g args m λv E m'=>E=[]/\m'={ m with an:=m'.an }/\m.an<=m'.an/\T g args an v m'.an
def sR(P:Program)(m0:Mem)(T:l0)(e:Operand->aa)(β:Nat->di)(da an:Nat)(o:Oper):Prop:=match o.op with
 |.alloc t=>∃z,ki P t=some z
 |.box _ x=>(e x).known=true
 |.store t x y=>o.dst=none/\(P.info? t).isSome/\(e y).cells.length=P.cellsOf t/\(e y).cells.all aa.one=true/\∃id l,e x=.ptr id 0/\m0.n<=id/\id<da/\β id=.cells l/\l.length=(e y).cells.length
 |.call c=>match c.callee with
  |.value f=>match e f with
   |.fn g bf=>(∃fn,P.funcs[g]?=some fn/\fn.name ≠ "runtime.NumGoroutine" /\ fn.body.isSome)/\EB P m0 T g (c.args.toList.map e++bf) an
   |_=>False
  |_=>∃v,bV P m0 e o=some v
 |_=>∃v,bV P m0 e o=some v
def iS(P:Program)(m0:Mem)(T:l0)(e:Operand->aa)(da an:Nat)(o:Oper)(r:hg):Prop:=match o.op with
 |.alloc t=>∃z,ki P t=some z/\r=⟨.ptr da 0,some (da,z),none⟩
 |.box _ x=>r=⟨.ptr da 0,some (da,(e x).cells),none⟩
 |.store _ x y=>∃id,e x=.ptr id 0/\m0.n<=id/\id<da/\r=⟨.undef,some (id,(e y).cells),none⟩
 |.call c=>match c.callee with
  |.value f=>match e f with
   |.fn g bf=>∃v eR,T g (c.args.toList.map e++bf) an v eR/\r=⟨v,none,some eR⟩
   |_=>False
  |_=>∃v,bV P m0 e o=some v/\r=⟨v,none,none⟩
 |_=>∃v,bV P m0 e o=some v/\r=⟨v,none,none⟩
def mY(P:Program)(m0:Mem)(T:l0)(s:aA)(o:Oper)(K:aA->Prop):Prop:=match o.op with
 |.alloc t=>∃z,ki P t=some z/\K (s.gu o.dst z)
 |.box _ x=>(s.ay x).known=true/\K (s.gu o.dst (s.ay x).cells)
 |.store t x y=>o.dst=none/\(P.info? t).isSome/\(s.ay y).cells.length=P.cellsOf t/\(s.ay y).cells.all aa.one=true/\∃id l,s.ay x=.ptr id 0/\m0.n<=id/\id<s.m.n/\s.m.β id=.cells l/\l.length=(s.ay y).cells.length /\
   K (s.hq id (s.ay y).cells)
 |.call c=>match c.callee with
  |.value f=>match s.ay f with
   |.fn g bf=>(∃fn,P.funcs[g]?=some fn/\fn.name ≠ "runtime.NumGoroutine" /\ fn.body.isSome)/\EB P m0 T g (c.args.toList.map s.ay++bf) s.m.an /\
     ∀v eR,T g (c.args.toList.map s.ay++bf) s.m.an v eR->K ({ s with m:={ s.m with an:=eR } }.put o.dst v)
   |_=>False
  |_=>∃v,bV P m0 s.ay o=some v/\K (s.put o.dst v)
 |_=>∃v,bV P m0 s.ay o=some v/\K (s.put o.dst v)
def kO(P:Program)(m0:Mem)(T:l0)(ops:Array Oper):List Oper->aA->(aA->Prop)->Prop
 |[],s,K=>K s
 |o::rest,s,K=>ld ops s o (mY P m0 T s o λs'=>kO P m0 T ops rest s' K) (kO P m0 T ops rest (s.put o.dst .undef) K)
section
variable{P:Program}{m0:Mem}{T:l0}{s:aA}{o:Oper}{K:aA->Prop}{e e':Operand->aa}{β U2:Nat->di}{da an eR:Nat}{r:hg}
theorem abz(h:sR P m0 T e β da an o):∃r,iS P m0 T e da an o r:=by
 unfold sR at h;unfold iS;split at h
 ·grind
 ·grind
 ·obtain⟨_,_,_,_,id,l,U,ab,al,_,_⟩:=h;simp_all
 ·split at h
  ·split at h
   ·obtain⟨_,⟨v,eR,ek⟩,_⟩:=h;grind
   grind
  grind
 grind
def oa(o:Oper):Nat:=if j6 o then 1 else 0
theorem yD(s:aA)(d:Option Tmp)(v:aa):s.res d ⟨v,none,none⟩ s.m.n=s.put d v:=by cases d<;>simp[aA.res,aA.put]
theorem P8(s:aA)(d:Option Tmp)(z:List aa):s.res d ⟨.ptr s.m.n 0,some (s.m.n,z),none⟩ (s.m.n+1)=s.gu d z:=by cases d<;>simp[aA.res,aA.put,aA.gu]
theorem P9(s:aA)(id:Nat)(z:List aa):s.res none ⟨.undef,some (id,z),none⟩ s.m.n=s.hq id z:=by rfl
theorem Q8(s:aA)(d:Option Tmp)(v:aa)(eR:Nat):s.res d ⟨v,none,some eR⟩ s.m.n={ s with m:={ s.m with an:=eR } }.put d v:=by cases d<;>simp[aA.res,aA.put]
theorem IA(h:mY P m0 T s o K):sR P m0 T s.ay s.m.β s.m.n s.m.an o/\∀r,iS P m0 T s.ay s.m.n s.m.an o r->K (s.res o.dst r (s.m.n+oa o)):=by
 unfold mY at h;unfold sR iS;split at h
 ·obtain⟨z,bO,eP⟩:=h;simp_all[oa,j6,P8]
 ·simp_all[oa,j6,P8]
 ·obtain⟨U,ab,al,aJ,id,l,bm,bI,cS,et,gp,eP⟩:=h;simp_all[oa,j6,P9]
 ·rename_i c aE;have gZ:oa o=0:=by simp[oa,j6,aE]
  split at h
  ·split at h;all_goals simp_all[Q8]
  ·obtain⟨v,ai,eP⟩:=h;simp_all[yD]
 ·have gZ:oa o=0:=by grind [oa,j6]
  obtain⟨v,ai,eP⟩:=h;simp_all[yD]
theorem Dv{l:List Operand}(he:∀x∈l,e x=e' x):l.map e=l.map e':=List.map_congr_left he
theorem MP{l:List (Nat×Operand)}(he:∀x∈l.map (·.2),e x=e' x):(l.map λp=>(p.1,e p.2))=l.map λp=>(p.1,e' p.2):=
 List.map_congr_left λp ae=>by grind
theorem MQ(he:∀x∈o.op.operands,e x=e' x):bV P m0 e o=bV P m0 e' o:=by
 obtain⟨dst,op,type,pos,after,guard⟩:=o;cases op with
 |call c=>
  obtain⟨callee,args,argTypes⟩:=c;simp only[bV];have au:args.toList.map e=args.toList.map e':=Dv λx aj=>he x (by grind [Op.operands,Call.operands]);grind
 |slice t x cw aX qC=>
  cases qC with
  |some y=>rfl
  |none=>
   have U:e x=e' x:=he x (by simp[Op.operands]);have ab:cw.map e=cw.map e':=by cases cw<;>simp;grind [Op.operands]
   have al:aX.map e=aX.map e':=by cases aX<;>simp;grind [Op.operands]
   grind [bV]
 |makeFunc f first bf=>
  have au:bf.toList.map e=bf.toList.map e':=Dv λx aj=>he x (by grind [Op.operands]);cases f<;>simp only[bV,au]
 |build t parts=>
  have au:=MP (e:=e) (e':=e') (l:=parts.toList) λx aj=>he x (by grind [Op.operands]);grind [bV]
 |buildSlice t len parts=>
  have au:=MP (e:=e) (e':=e') (l:=parts.toList) λx aj=>he x (by grind [Op.operands]);grind [bV]
 |_=>simp only[Op.operands]at he<;>simp_all[bV]
theorem WI(he:∀x∈o.op.operands,e x=e' x)(fW:mU o=true->∀id,m0.n<=id->id<da->β id=U2 id)(au:oB o=true->an=eR)(h:sR P m0 T e β da an o):sR P m0 T e' U2 da eR o:=by
 have ae:=MQ (P:=P) (m0:=m0) he;unfold sR at *;split at h
 ·exact h
 ·grind [Op.operands]
 ·grind [Op.operands,mU]
 ·all_goals grind [Op.operands,Call.operands,Dv,oB]
 grind
theorem WJ(he:∀x∈o.op.operands,e x=e' x)(au:oB o=true->an=eR)(h:iS P m0 T e da an o r):iS P m0 T e' da eR o r:=by
 have ae:=MQ (P:=P) (m0:=m0) he;unfold iS at *;split at h
 ·exact h
 ·grind [Op.operands]
 ·grind [Op.operands]
 ·all_goals grind [Op.operands,Call.operands,Dv,oB]
 grind
theorem Z5(h:iS P m0 T e da an o r):(∀id cs,r.bx=some (id,cs)->m0.n<=id/\((j6 o=true/\id=da)\/(mU o=true/\id<da))\/(j6 o=true/\id=da))/\(r.an.isSome->oB o=true):=by
 unfold iS at h;all_goals grind [j6,mU,oB]
end
end
section
open Go Go.RowKit
variable[cQ]
section
variable{P:Program}{φ:bo}{w:World}{A:Anchor}{N n:Nat}{s:aA}{a:Act}{K:aA->Prop}{Q:Exit->Act->World->Prop}{r:Option Nat}{m m0:Mem}{T:l0}{o:Oper}{da:Nat}
theorem YD{t:TypeId}{x v:aa}(aI:pw m0 m)(h:h0 P m0 t x=some v):h0 P m t x=some v:=by
 have ao:∀cs,nW m0 x=some cs->nW m x=some cs:=by
  intro cs ao;unfold nW at ao⊢;split at ao
  ·rename_i id off;split at ao
   ·rename_i cr;have U:=aI.1;rw[if_pos (by omega),aI.2 id cr];exact ao
   ·cases ao
  ·exact ao
  ·cases ao
 unfold h0 at h⊢;split at h
 ·rename_i cs U ab;rw[ao _ U,ab];exact h
 ·rename_i c cs U ab;rw[ao _ U,ab];exact h
 ·cases h
theorem H5{v:aa}(aI:pw m0 s.m)(ai:bV P m0 s.ay o=some v)(hb:∀t l p,o.op≠.buildSlice t l p)(eP:K (s.put o.dst v)):eQ P s o K:=by
 unfold bV at ai;unfold eQ;split at ai<;>rename_i aE;all_goals first|(cases ai;done)|skip
 all_goals (try rw[aE])
 ·injection ai with ai;subst ai;exact eP
 ·injection ai with ai;subst ai;exact eP
 ·split at ai
  ·rename_i t a1;injection ai with ai;subst ai;exact⟨t,a1,eP⟩
  ·cases ai
 ·exact⟨v,ai,eP⟩
 ·exact⟨v,ai,eP⟩
 ·exact⟨v,ai,eP⟩
 ·split at ai
  ·rename_i aj;injection ai with ai;subst ai;simp only[aj];exact eP
  ·rename_i aj;injection ai with ai;subst ai;simp only[aj];exact eP
  ·cases ai
 ·split at ai
  ·rename_i aj;simp only[aj];exact⟨v,ai,eP⟩
  ·cases ai
 ·exact⟨v,ai,eP⟩
 ·exact⟨v,ai,eP⟩
 ·exact⟨v,ai,eP⟩
 ·exact⟨v,ai,eP⟩
 ·exact⟨v,YD aI ai,eP⟩
 ·exact⟨v,ai,eP⟩
 ·exact absurd aE (hb _ _ _)
 ·exact⟨v,ai,eP⟩
 ·split at ai
  ·rename_i aQ;injection ai with ai;subst ai;exact⟨aQ,eP⟩
  ·cases ai
 ·split at ai
  ·rename_i ah;simp only[ah];split at ai
   ·rename_i U ab;simp only[U,ab];exact⟨v,ai,eP⟩
   ·cases ai
  ·rename_i ah;simp only[ah];exact⟨v,ai,eP⟩
  ·rename_i ah;simp only[ah];exact⟨v,ai,eP⟩
  ·cases ai
theorem Z6(hm:c0 φ m w)(mD:da<m.n)(bq:m.β da=.hole){w':World}(aN:jQ w w'){l:List aa}{cs:List Value}{e:TypeId}(gM:w'.heap[w.heap.size]?=some (.cells cs.toArray e (0,0)))(ak:bl φ w l cs):
  kk φ w (φ.ho da w.heap.size) w'/\c0 (φ.ho da w.heap.size) ⟨ea m.β da (.cells l),m.n,m.an,m.rc⟩ w':=by
 have ER:φ.box da=none:=by
  rcases hm.box da mD with h|⟨b,cs,e,_,_,h⟩
  ·exact h.2
  ·rw[bq]at h;exact h.elim
 have k:kk φ w (φ.ho da w.heap.size) w':=by
  refine yg aN hm (λi b h=>?_) (λi b h=>h) (λb h=>MM h);simp only[bo.ho];split
  ·rename_i aX;subst aX;rw[ER]at h;cases h
  ·exact h
 refine⟨k,⟨λi aX=>?_,λi aX=>?_,λi b h=>?_,λi j b U ab=>?_,λi j b U ab=>hm.hp i j b U ab,λi j b U ab=>?_,Ay (m:=m) aN hm⟩⟩
 ·by_cases c1:i=da
  ·subst c1;exact .inr ⟨w.heap.size,cs.toArray,e,by simp[bo.ho],gM,by simp only[ea,if_true];exact bl.keeps k l cs ak⟩
  ·rcases hm.box i aX with⟨U,ab⟩|⟨b,cur,e',hb,bq,ad⟩
   ·exact .inl ⟨by simpa[ea,c1]using U,by simpa[bo.ho,c1]using ab⟩
   exact .inr ⟨b,cur,e',by simp[bo.ho,c1,hb],(aN.old b (mo hm hb)).trans bq,by simpa[ea,c1]using v7 k ad⟩
 ·simp only at aX;simp only[bo.ho];rw[if_neg (by omega)];exact hm.dt i aX
 ·obtain⟨U,ab⟩:=hm.arr i b h;exact⟨U,ab.of_eq (aN.old b (jN hm h))⟩
 ·simp only[bo.ho]at U ab;split at U<;>split at ab
  ·omega
  ·have hb:=Option.some.inj U;subst hb;exact absurd (mo hm ab) (by omega)
  ·have hb:=Option.some.inj ab;subst hb;exact absurd (mo hm U) (by omega)
  ·exact hm.jo i j b U ab
 ·simp only[bo.ho]at U;split at U
  ·have hb:=Option.some.inj U;subst hb;exact absurd (jN hm ab) (by omega)
  ·exact hm.sep i j b U ab
def ES(P:Program)(m0:Mem)(T:l0)(A:Anchor)(N da:Nat)(s:aA)(o:Oper)(D:List Deferred)(a':Act)(w':World):Prop:=
 ∃r bn,iS P m0 T s.ay da s.m.an o r/\cW bn w' N (s.res o.dst r s.m.n) a'/\cY A bn w' s.bb/\a'.defers=D
theorem Q9(ar:∀c,o.op≠.defer c)(h:cW φ w N s a)(bh:cY A φ w s.bb)(aV:∀t,o.dst=some t->t<N)(mD:da<s.m.n)(bq:s.m.β da=.hole){e:TypeId}{cs:List Value}{l:List aa}
  (ad:(execOp a.eval o).run P w=.ok (.value (.pointer (some ⟨w.heap.size,0,none⟩))) (w.alloc (.cells cs.toArray e))) (ak:bl φ w l cs) (rp:iS P m0 T s.ay da s.m.an o ⟨.ptr da 0,some (da,l),none⟩):
  o.dE r P a w (ES P m0 T A N da s o a.defers) Q:=by
 refine o0 ar ?_;rw[ad];have aN:=jQ.alloc w (.cells cs.toArray e);obtain⟨k,hm⟩:=Z6 h.mem mD bq aN (e:=e) (heap_alloc_new w _) ak;refine⟨_,φ.ho da w.heap.size,rp,?_,?_,put_defers _ _ _⟩
 ·have U:cW (φ.ho da w.heap.size) (w.alloc (.cells cs.toArray e)) N { s with m:=⟨ea s.m.β da (.cells l),s.m.n,s.m.an,s.m.rc⟩ } a:=
   ⟨λt=>aY.keeps k _ _ (h.tmp t),h.size,hm⟩
  have ab:=U.put aV (pv:=.ptr da 0) (v:=.pointer (some ⟨w.heap.size,0,none⟩)) ⟨w.heap.size,by simp[bo.ho],rfl⟩;have aK:s.res o.dst ⟨.ptr da 0,some (da,l),none⟩ s.m.n={ s with m:=⟨ea s.m.β da (.cells l),s.m.n,s.m.an,s.m.rc⟩ }.put o.dst (.ptr da 0):=by cases o.dst<;>simp[aA.res,aA.put]
  rw[aK];exact ab
 ·have:=bh.trans (x9 aN k);simpa using this
theorem Mz{v:aa}(rp:iS P m0 T s.ay da s.m.an o ⟨v,none,none⟩)(h:o.dE r P a w (Good A N a.defers λs'=>s'=s.put o.dst v) Q):o.dE r P a w (ES P m0 T A N da s o a.defers) Q:=by
 refine Oper.k8 ?_ h;rintro a' w' ⟨s',bn,U,ab,al,rfl⟩;exact⟨_,bn,rp,by rw[yD];exact U,by rw[aA.uA]at ab;exact ab,al⟩
theorem Qa{v:aa}(h:cW φ w N s a)(bh:cY A φ w s.bb)(aV:∀t,o.dst=some t->t<N)(aW:∀i b,A.gg.arr i=some b->i<s.a0.a)(fA:p9 s.a0.ys A.gg A.c9)(aI:pw m0 s.m)(ai:bV P m0 s.ay o=some v)
  (rp:iS P m0 T s.ay da s.m.an o ⟨v,none,none⟩):o.dE r P a w (ES P m0 T A N da s o a.defers) Q:=by
 by_cases hb:∃t l p,o.op=.buildSlice t l p
 ·obtain⟨t,len,parts,ar⟩:=hb;have iw:=ai;simp only[bV,ar]at iw;split at iw
  ·rename_i e hu;split at iw
   ·rename_i z bO;split at iw
    ·rename_i ah;obtain⟨aX,rI,eb,Br⟩:=ah;obtain⟨cs,aQ,rfl⟩:=Option.map_eq_some_iff.1 iw;exact Mz rp (Mh ar h bh aV hu bO aX rI eb Br aQ rfl)
    ·cases iw
   ·cases iw
  ·cases iw
 ·exact Mz rp (yn h bh aV aW fA (H5 aI ai (λt l p e=>hb ⟨t,l,p,e⟩) rfl))
theorem WK(k:Nat)(E:List b9):gV k E []=E:=by cases E<;>simp[gV]
theorem abA(h:cW φ w N s a)(bh:cY A φ w s.bb)(aV:∀t,o.dst=some t->t<N)(aW:∀i b,A.gg.arr i=some b->i<s.a0.a)(fA:p9 s.a0.ys A.gg A.c9)(aI:pw m0 s.m)
  (ae:sR P m0 T s.ay s.m.β da s.m.an o) (gZ:j6 o=true->da<s.m.n/\s.m.β da=.hole) (hle:da<=s.m.n):o.dE r P a w (ES P m0 T A N da s o a.defers) Q:=by
 unfold sR at ae;split at ae
 ·rename_i t aE;obtain⟨z,bO⟩:=ae;obtain⟨U,ab⟩:=gZ (by simp[j6,aE]);have iZ:=bO;obtain⟨i,fx,aX,tq,rfl⟩:=ye bO;exact Q9 (λc e=>by rw[aE]at e;cases e) h bh aV U ab (e:=t) (cs:=fx.cells.toList) (by simp[execOp,aE,Instr.alloc,zeroValue,typeInfo,aX,tq,newVar,newRow]) (C6 φ w _) (by simp only[iS,aE];exact⟨_,iZ,rfl⟩)
 ·rename_i e x aE;obtain⟨U,ab⟩:=gZ (by simp[j6,aE]);exact Q9 (λc e=>by rw[aE]at e;cases e) h bh aV U ab (e:=e) (cs:=(a.eval x).cells.toList) (by simp[execOp,aE,Instr.box,newVar,newRow]) (Al (h.ay x) ae) (by simp only[iS,aE])
 ·rename_i t x y aE;obtain⟨U,ab,al,aJ,id,l,bm,bI,cS,et,gp⟩:=ae;have ao:eQ P s o λs'=>s'=s.hq id (s.ay y).cells:=by
   unfold eQ;rw[aE];refine⟨U,?_⟩;simp only[uK,bm];refine⟨by omega,ab,al,aJ,l,et,by omega,?_⟩;congr 1;simp only[fa,List.take_zero,List.nil_append,Nat.zero_add];rw[List.drop_of_length_le (by omega)];simp
  refine Oper.k8 ?_ (yn (A:=A) h bh aV aW fA ao);rintro a' w' ⟨s',bn,k1,k2,bP,rfl⟩;refine⟨⟨.undef,some (id,(s.ay y).cells),none⟩,bn,by simp only[iS,aE];exact⟨id,bm,bI,cS,rfl⟩,?_,by simpa using k2,bP⟩;rw[U,P9];exact k1
 ·rename_i c aE;split at ae
  ·rename_i f ah;split at ae
   ·rename_i g bf aQ;obtain⟨U,⟨_,ab⟩⟩:=ae;have ao:eQ P s o λs'=>∃v eR,T g (c.args.toList.map s.ay++bf) s.m.an v eR/\s'={ s with m:={ s.m with an:=eR } }.put o.dst v:=by
     unfold eQ;rw[aE];simp only[ah,aQ];refine⟨U,((ab s.m aI rfl).mono ?_).y⟩;rintro v E m' ⟨rfl,eX,Ta,ek⟩;refine⟨v,m'.an,ek,?_⟩;rw[eX];congr 1;simp only[aA.after,WK,aa.Ed]
    refine Oper.k8 ?_ (yn (A:=A) h bh aV aW fA ao);rintro a' w' ⟨s',bn,k1,k2,bP,v,eR,ek,rfl⟩;refine⟨⟨v,none,some eR⟩,bn,by simp only[iS,aE,ah,aQ];exact⟨v,eR,ek,rfl⟩,?_,by simpa using k2,bP⟩;rw[Q8];exact k1
   ·exact ae.elim
  ·rename_i ah;obtain⟨v,ai⟩:=ae;refine Qa h bh aV aW fA aI ai ?_;unfold iS;simp only[aE];exact⟨v,ai,rfl⟩
 ·rename_i U ab al aJ;obtain⟨v,ai⟩:=ae;refine Qa h bh aV aW fA aI ai ?_;unfold iS;split
  ·rename_i aE;exact absurd aE (U _)
  ·rename_i aE;exact absurd aE (ab _ _)
  ·rename_i aE;exact absurd aE (al _ _ _)
  ·rename_i aE;exact absurd aE (aJ _)
  ·exact⟨v,ai,rfl⟩
end
end
section
open Go Go.RowKit
variable[cQ]
def oz(e:Edge):Bool:=Region.binds .any e
def I8(M:List Nat)(o:Oper):Nat:=o.after.toList.foldl (λm e=>if oz e then m ||| 2^e.on ||| M.getD e.on 0 else m) 0
def Sk:List Oper->List Nat->List Nat
 |[],acc=>acc
 |o::l,acc=>Sk l (acc++[I8 acc o])
def vo(M:List Nat)(i j:Nat):Bool:=(M.getD i 0).testBit j
def ord(M:List Nat)(i j:Nat):Bool:=(decide (j<i)&&vo M i j)||(decide (i<j)&&vo M j i)
def reads(ops:Array Oper)(o:Oper):List Nat:=o.op.operands.toList.filterMap (fun | .tmp t=>some t|_=>none)++(match o.guard with
 |some (j,_)=>match(ops[j]?).bind (·.dst)with
  |some d=>[d]
  |none=>[]
 |none=>[])
def clash(ops:Array Oper)(o o':Oper):Bool:=(match o'.dst with
  |some d=>(reads ops o).contains d||o.dst==some d
  |none=>false)||(oB o&&oB o')||(mU o&&(j6 o'||mU o'))||(mU o'&&j6 o)
def O2(ops:Array Oper):Bool:=ops.toList.all λo=>match o.op with
 |.select _ _=>false
 |.defer _=>false
 |_=>true
def EC(ops:Array Oper)(i:Nat):Bool:=match ops[i]? with
 |some o=>(match o.op with | .move _=>true|_=>false)&&o.guard.isNone&&o.after.toList.all (λe=>!oz e)&&Region.free .any ops (Array.replicate ops.size false) i&&O2 ops
 |none=>false
def JE(ops:Array Oper)(M:List Nat)(cp:Nat):Bool:=
 decide (cp<=ops.size)&&(List.range ops.size).all λi=>match ops[i]? with
  |none=>false
  |some o=>(M.getD i 0==I8 M o)&&o.after.toList.all (λe=>!oz e||decide (e.on<i)) &&
   (if i<cp then(!(j6 o||mU o)||o.guard.isNone)&&(List.range cp).all (λj=>match ops[j]? with
     |none=>false
     |some o'=>i==j||!clash ops o o'||ord M i j)
    else(List.range i).all λj=>vo M i j||(decide (j<cp)&&EC ops j))
def Ra(ops:Array Oper)(cp:Nat):Bool:=JE ops (Sk ops.toList []) cp
section
variable{ops:Array Oper}{M:List Nat}{cp:Nat}{L:Nat->Prop}{i j:Nat}{o o':Oper}
structure ra(ops:Array Oper)(M:List Nat)(cp:Nat):Prop where
 le:cp<=ops.size
 mask:∀i o,ops[i]?=some o->M.getD i 0=I8 M o
 back:∀i o,ops[i]?=some o->∀e∈o.after,oz e=true->e.on<i
 guard:∀i o,ops[i]?=some o->i<cp->j6 o=true\/mU o=true->o.guard=none
 pair:∀i o j o',ops[i]?=some o->ops[j]?=some o'->i<cp->j<cp->i≠j->clash ops o o'=true->ord M i j=true
 tail:∀i o,ops[i]?=some o->cp<=i->∀j,j<i->vo M i j=true\/(j<cp/\EC ops j=true)
theorem Z7(h:JE ops M cp=true):ra ops M cp:=by
 simp only[JE,Bool.and_eq_true,decide_eq_true_eq,List.all_eq_true,List.mem_range]at h;obtain⟨aT,h⟩:=h;have get:∀i o,ops[i]?=some o->_:=λi o aX=>h i (Array.getElem?_eq_some_iff.1 aX).1;refine⟨aT,λi o aX=>?_,λi o aX=>?_,λi o aX BT=>?_,λi o j o' aX aC c1 tx bU ah=>?_,λi o aX BT=>?_⟩
 ·have:=get i o aX;simp only[aX,Bool.and_eq_true,beq_iff_eq]at this;exact this.1.1
 ·have:=get i o aX;simp only[aX,Bool.and_eq_true,List.all_eq_true,Bool.or_eq_true,Bool.not_eq_true',decide_eq_true_eq]at this;intro e he hb;rcases this.1.2 e (by simpa using he)with h|h
  ·rw[h]at hb;cases hb
  ·exact h
 ·have:=get i o aX;simp only[aX,Bool.and_eq_true,if_pos BT,Bool.or_eq_true,Bool.not_eq_true']at this;intro aq;rcases this.2.1 with h|h
  ·rw[Bool.or_eq_false_iff]at h;rcases aq with aq|aq
   ·rw[h.1]at aq;cases aq
   ·rw[h.2]at aq;cases aq
  ·simpa using h
 ·have:=get i o aX;simp only[aX,Bool.and_eq_true,if_pos c1,List.all_eq_true,List.mem_range]at this;have:=this.2.2 j tx;simp only[aC,Bool.or_eq_true,beq_iff_eq,Bool.not_eq_true',ah]at this;rcases this with(h|h)|h
  ·exact absurd h bU
  ·cases h
  ·exact h
 ·have:=get i o aX;simp only[aX,Bool.and_eq_true,if_neg (Nat.not_lt.2 BT),List.all_eq_true,List.mem_range,Bool.or_eq_true,decide_eq_true_eq]at this;exact this.2
def Closed(ops:Array Oper)(L:Nat->Prop):Prop:=∀i o,ops[i]?=some o->L i->∀e∈o.after,oz e=true->L e.on
theorem O3:∀(es:List Edge)(m j:Nat),(es.foldl (λm e=>if oz e then m ||| 2^e.on ||| M.getD e.on 0 else m) m).testBit j=true->m.testBit j=true\/∃e∈es,oz e=true/\(e.on=j\/vo M e.on j=true)
 |[],m,j,h=>.inl h
 |e::es,m,j,h=>by
  rw[List.foldl_cons]at h;rcases O3 es _ j h with h|⟨e',U,ab⟩
  ·split at h
   ·rename_i hb;rw[Nat.testBit_or,Nat.testBit_or,Bool.or_eq_true,Bool.or_eq_true,Nat.testBit_two_pow,decide_eq_true_eq]at h;rcases h with(h|h)|h
    ·exact .inl h
    ·exact .inr ⟨e,by simp,hb,.inl h⟩
    ·exact .inr ⟨e,by simp,hb,.inr h⟩
   ·exact .inl h
  ·exact .inr ⟨e',by simp[U],ab⟩
theorem A1(ae:ra ops M cp)(ah:Closed ops L):∀i o,ops[i]?=some o->(∀e∈o.after,oz e=true->L e.on)->∀j,vo M i j=true->L j:=by
 intro i;induction i using Nat.strongRecOn with
 |_ i az=>
  intro o aX au j aC;unfold vo at aC;rw[ae.mask i o aX]at aC;rcases O3 _ _ _ aC with h|⟨e,U,ab,al⟩
  ·simp at h
  ·have fG:e∈o.after:=by simpa using U
   have dg:=au e fG ab;rcases al with rfl|al
   ·exact dg
   ·have aU:=ae.back i o aX e fG ab;have ao:=(Array.getElem?_eq_some_iff.1 aX).1;have he:ops[e.on]?=some (ops[e.on]'(by omega)):=by simp
    exact az e.on aU _ he (λe' oO hb=>ah _ _ he dg e' oO hb) j al
theorem Hd(ae:ra ops M cp)(ah:Closed ops L)(aX:ops[i]?=some o)(dg:L i)(h:vo M i j=true):L j:=
 A1 ae ah i o aX (λe he hb=>ah i o aX dg e he hb) j h
end
def eO(n0:Nat)(ops:Array Oper):Nat->Nat
 |0=>n0
 |k+1=>eO n0 ops k+(match ops[k]? with|some o=>oa o|none=>0)
def Valid(P:Program)(m0:Mem)(T:l0)(ops:Array Oper)(s:aA)(da:Nat)(o:Oper)(r:hg):Prop:=
 ld ops s o (iS P m0 T s.ay da s.m.an o r) (r=⟨.undef,none,none⟩)
section
variable{P:Program}{m0:Mem}{T:l0}{ops:Array Oper}{M:List Nat}{cp:Nat}{L:Nat->Prop}{i j:Nat}{o o':Oper}{s s':aA}{X Y Gt Gu:Prop}{r:hg}{da n0:Nat}
def sK(ops:Array Oper)(s:aA)(o:Oper):Option Bool:=match o.guard with
 |none=>some true
 |some (j,want)=>match(ops[j]?).bind (·.dst)with
  |some d=>match s.g d with
   |.bool b=>some (decide (b=want))
   |.undef=>some false
   |_=>none
  |none=>some false
theorem oy:ld ops s o X Y↔(sK ops s o=some true/\X)\/(sK ops s o=some false/\Y):=by
 unfold ld sK;split
 ·rename_i aN;simp only[aN];simp
 ·rename_i aN;simp only[aN];split
  ·rename_i aV;simp only[aV];split
   ·rename_i hb;simp only[hb];split<;>rename_i h<;>simp[h]
   ·rename_i hb;simp only[hb];simp
   ·rename_i U ab;split
    ·rename_i hb;exact absurd hb (U _)
    ·rename_i hb;exact absurd hb ab
    ·simp
  ·rename_i aV;simp only[aV];simp
theorem Nk(h:ld ops s o X Y)(bc:ld ops s o Gt Gu):(X/\Gt)\/(Y/\Gu):=by
 rw[oy]at *;rcases h with⟨a,h⟩|⟨a,h⟩<;>rcases bc with⟨b,bc⟩|⟨b,bc⟩
 ·exact .inl ⟨h,bc⟩
 ·rw[a]at b;cases b
 ·rw[a]at b;cases b
 ·exact .inr ⟨h,bc⟩
theorem Hy(h:ld ops s o X Y)(aj:X->Gt)(aF:Y->Gu):ld ops s o Gt Gu:=by
 rw[oy]at *;rcases h with⟨a,h⟩|⟨a,h⟩
 ·exact .inl ⟨a,aj h⟩
 ·exact .inr ⟨a,aF h⟩
theorem YE{d:Nat}{want:Bool}(aN:o.guard=some (j,want))(aV:(ops[j]?).bind (·.dst)=some d):d∈reads ops o:=by
 unfold reads;rw[aN];simp only[aV];simp
theorem guard_congr(ao:∀t∈reads ops o,s.g t=s'.g t)(h:ld ops s o X Y):ld ops s' o X Y:=by
 have:sK ops s o=sK ops s' o:=by
  unfold sK;split
  ·rfl
  ·rename_i j want aN;split
   ·rename_i d aV;rw[ao d (YE aN aV)]
   ·rfl
 rw[oy]at *;rwa[←this]
theorem O4(ao:∀t∈reads ops o,s.g t=s'.g t):∀x∈o.op.operands,s.ay x=s'.ay x:=by
 intro x aj;cases x with
 |tmp t=>
  refine ao t ?_;unfold reads;exact List.mem_append_left _ (List.mem_filterMap.2 ⟨.tmp t,by simpa using aj,rfl⟩)
 |_=>rfl
theorem WL(ao:∀t∈reads ops o,s.g t=s'.g t)(au:oB o=true->s.m.an=s'.m.an)(h:Valid P m0 T ops s da o r):Valid P m0 T ops s' da o r:=
 guard_congr ao (Hy h (λh=>WJ (O4 ao) au h) id)
def Kind(m0:Mem)(da:Nat)(o:Oper)(r:hg):Prop:=
 (∀id cs,r.bx=some (id,cs)->(m0.n<=id/\mU o=true/\id<da)\/(j6 o=true/\id=da))/\(r.an.isSome->oB o=true)
theorem WM{e:Operand->aa}{an:Nat}(h:iS P m0 T e da an o r):Kind m0 da o r:=by
 obtain⟨U,ab⟩:=Z5 h;refine⟨λid cs e=>?_,ab⟩;rcases U id cs e with⟨a,h|⟨b,c⟩⟩|h
 ·exact .inr h
 ·exact .inl ⟨a,b,c⟩
 ·exact .inr h
theorem He(h:Valid P m0 T ops s da o r):Kind m0 da o r:=by
 rcases Nk h h with⟨h,_⟩|⟨h,_⟩
 ·exact WM h
 ·subst h;exact⟨λid cs e=>by simp at e,by simp⟩
theorem H6(aN:o.guard=none)(gZ:j6 o=true)(h:Valid P m0 T ops s da o r):∃cs,r.bx=some (da,cs):=by
 simp only[Valid,ld,aN]at h;unfold j6 at gZ;unfold iS at h;split at h
 ·obtain⟨z,_,rfl⟩:=h;exact⟨z,rfl⟩
 ·subst h;exact⟨_,rfl⟩
 all_goals (rename_i aE;first|(rw[aE]at gZ;cases gZ;done)|skip)
 rename_i U ab al;split at gZ
 ·rename_i aE;exact absurd aE (U _)
 ·rename_i aE;exact absurd aE (ab _ _)
 ·cases gZ
end
end
section
open Go Go.RowKit
variable[cQ]
def left(listed:Array Bool):Nat:=listed.toList.count false
def gd(listed:Array Bool)(i:Nat):Prop:=listed.getD i false=true
theorem yo{listed:Array Bool}{i:Nat}(aX:i<listed.size):listed.getD i true=false↔¬gd listed i:=by
 simp only[gd,Array.getD_eq_getD_getElem?,Array.getElem?_eq_getElem aX,Option.getD_some];cases listed[i]<;>simp
theorem H7{listed:Array Bool}{i:Nat}(aX:i<listed.size)(h:¬gd listed i):left (listed.setIfInBounds i true)+1=left listed:=by
 have aT:listed.toList[i]'(by simpa using aX)=false:=by
  simp only[gd,Array.getD_eq_getD_getElem?,Array.getElem?_eq_getElem aX,Option.getD_some]at h;simpa using h
 have eb:0<listed.toList.count false:=List.count_pos_iff.2 (by rw[←aT];exact List.getElem_mem _);unfold left;rw[Array.toList_setIfInBounds,List.count_set (by simpa using aX),aT];have aK:((false==false)=true):=rfl;have aO:¬((true==false)=true):=by decide
 rw[if_pos aK,if_neg aO];omega
theorem Qb{listed:Array Bool}{i j:Nat}(aX:i<listed.size):gd (listed.setIfInBounds i true) j↔(gd listed j\/j=i):=by
 unfold gd;by_cases h:i=j
 ·subst h;simp[aX]
 ·rw[getD_set_ne false h];constructor
  ·exact .inl
  ·rintro(bc|bc)
   ·exact bc
   ·exact absurd bc.symm h
theorem O5{listed:Array Bool}{i:Nat}(aX:i<listed.size)(h:¬gd listed i):0<left listed:=by
 have:=H7 aX h;omega
section
variable{P:Program}{φ:bo}{w:World}{A:Anchor}{N n:Nat}{s:aA}{a:Act}{Q:Exit->Act->World->Prop}{r:Option Nat}{ops:Array Oper}{M:List Nat}{cp:Nat}
theorem Z8(ae:ra ops M cp){K:aA->Prop}{D:List Deferred}:∀(fuel:Nat)(listed:Array Bool)(a:Act)(w:World)(φ:bo)(s:aA)(k:Nat),listed.size=ops.size->left listed<=fuel->(∀i,gd listed i↔i<k)->cp<=k->k<=ops.size ->
  (ops.toList.drop k).all (nT N)=true->cW φ w N s a->cY A φ w s.bb->Old A s->a.defers=D->h1 P ops (ops.toList.drop k) s K->(∀a' w' s',s'.a0=s.a0->Good A N D (λu=>u=s'/\K u) a' w'->Q .normal a' w') ->
  nR r P ops Q fuel listed a w:=by
 intro fuel;induction fuel with
 |zero=>
  intro listed a w φ s k bX aQ ak BT aq aV ao au aW dQ eP gI;have il:k=ops.size:=by
   refine Nat.le_antisymm aq (Nat.le_of_not_lt λaU=>?_);have:=O5 (listed:=listed) (i:=k) (by omega) (λh=>by rw[ak]at h;omega);omega
  subst il;have fK:Region.ready .any ops listed=[]:=by
   cases ad:Region.ready .any ops listed with
   |nil=>rfl
   |cons i l=>
    have hm:i∈Region.ready .any ops listed:=by rw[ad];simp
    obtain⟨U,o,ar,_⟩:=mem_ready.1 hm;have aX:=(Array.getElem?_eq_some_iff.1 ar).1;rw[yo (by omega),ak]at U;exact absurd aX U
  refine⟨fK,?_⟩;rw[List.drop_of_length_le (by simp)]at eP;exact gI a w s rfl ⟨s,φ,ao,au,dQ,rfl,eP⟩
 |succ fuel az=>
  intro listed a w φ s k bX aQ ak BT aq aV ao au aW dQ eP gI;have zd:∀i,i∈Region.ready .any ops listed->i=k:=by
   intro i hm;obtain⟨U,o,ar,ab⟩:=mem_ready.1 hm;have aX:=(Array.getElem?_eq_some_iff.1 ar).1;rw[yo (by omega),ak]at U;refine Nat.le_antisymm (Nat.le_of_not_lt λaU=>?_) (by omega);have ah:Closed ops (gd listed):=λj o' aC dg e he hb=>(ak _).2 (Nat.lt_trans (ae.back j o' aC e he hb) ((ak j).1 dg));have:=A1 ae ah i o ar (λe he hb=>ab e he hb) k ((ae.tail i o ar (by omega) k aU).resolve_right λh=>by omega);rw[ak]at this;omega
  refine⟨λad=>?_,λi hm=>?_⟩
  ·have il:k=ops.size:=by
    refine Nat.le_antisymm aq (Nat.le_of_not_lt λaU=>?_);have:k∈Region.ready .any ops listed:=by refine mem_ready.2 ⟨(yo (by omega)).2 (λh=>by rw[ak]at h;omega),ops[k],by simp[aU],λe he hb=>(ak _).2 (ae.back k _ (by simp[aU]) e he hb)⟩
    rw[ad]at this;cases this
   subst il;rw[List.drop_of_length_le (by simp)]at eP;exact gI a w s rfl ⟨s,φ,ao,au,dQ,rfl,eP⟩
  ·have:=zd i hm;subst this;obtain⟨U,o,ar,ab⟩:=mem_ready.1 hm;have aX:=(Array.getElem?_eq_some_iff.1 ar).1;have wQ:ops.toList.drop i=o::ops.toList.drop (i+1):=by
    have aj:i<ops.toList.length:=by simpa using aX
    rw[List.drop_eq_getElem_cons aj];congr 1;have:=(Array.getElem?_eq_some_iff.1 ar).2;simpa using this
   rw[wQ]at eP aV;simp only[List.all_cons,Bool.and_eq_true]at aV;have nh:∀t,o.dst=some t->t<N:=λt e=>by
    have:=aV.1;simp only[nT,e,decide_eq_true_eq]at this;exact this
   have mB:¬gd listed i:=λh=>by rw[ak]at h;omega
   have er:∀j,gd (listed.setIfInBounds i true) j↔j<i+1:=λj=>by rw[Qb (by omega),ak];omega
   have TX:left (listed.setIfInBounds i true)<=fuel:=by
    have:=H7 (listed:=listed) (i:=i) (by omega) mB;omega
   simp only[mr,ar];rcases yc ao eP with⟨hw,fz⟩|⟨hw,fA⟩
   ·rw[if_pos hw];intro τ d;obtain⟨s1,⟨aK,Bu⟩,fz⟩:=fz;obtain⟨ny,kQ,pC⟩:=Bu φ w N a A ao au aW;replace kQ:=kQ.a8 τ d;replace pC:=pC.tu τ d;have qm:Old A s1:=by unfold Old at aW⊢;rw[aK];exact aW
    refine Oper.k8 ?_ (yn (A:=A) kQ pC nh qm.1 qm.2.2 (uC (λs' e h=>(⟨e,h⟩:s'.a0=s1.a0/\_)) fz));rintro a' w' ⟨s',bn,g1,g2,g3,g4,g5⟩;replace g4:=g4.trans aK;exact az _ a' w' bn s' (i+1) (by simpa using bX) TX er (by omega) aX aV.2 g1 g2 (by unfold Old;rw[g4];exact aW) (g3.trans dQ) g5 (λa2 w2 s2 aO h=>gI a2 w2 s2 (aO.trans g4) h)
   ·rw[if_neg (by simp[hw])];have g1:cW φ w N (s.put o.dst .undef) (a.put o.dst undef):=ao.put nh rfl;exact az _ _ w φ _ (i+1) (by simpa using bX) TX er (by omega) aX aV.2 g1 (by rw[aA.uA];exact au) (by unfold Old;rw[aA.EA];exact aW) (by rw[put_defers];exact dQ) fA
     (λa2 w2 s2 aO h=>gI a2 w2 s2 (by rw[aO,aA.EA]) h)
end
section
variable{ops:Array Oper}{n0:Nat}
theorem Dw{j k:Nat}(h:j<=k):eO n0 ops j<=eO n0 ops k:=by
 induction k with
 |zero=>
  have:j=0:=by omega
  subst this;exact Nat.le_refl _
 |succ k az=>
  by_cases e:j=k+1
  ·subst e;exact Nat.le_refl _
  ·have:=az (by omega);simp only[eO];omega
theorem Eg(k:Nat):n0<=eO n0 ops k:=Dw (j:=0) (Nat.zero_le k)
theorem Eh{j k:Nat}{o:Oper}(aC:ops[j]?=some o)(hm:j6 o=true)(h:j<k):eO n0 ops j<eO n0 ops k:=by
 have:=Dw (n0:=n0) (ops:=ops) (j:=j+1) (k:=k) h;simp only[eO,aC,oa,hm,if_true]at this;omega
theorem Hz{id:Nat}(aT:n0<=id):∀k,id<eO n0 ops k->∃j o,j<k/\ops[j]?=some o/\j6 o=true/\eO n0 ops j=id
 |0,h=>by simp only[eO]at h;omega
 |k+1,h=>by
  by_cases aq:id<eO n0 ops k
  ·obtain⟨j,o,U,ab⟩:=Hz aT k aq;exact⟨j,o,by omega,ab⟩
  ·simp only[eO]at h;split at h
   ·rename_i o ar;unfold oa at h;split at h
    ·rename_i hm;exact⟨k,o,by omega,ar,hm,by omega⟩
    ·omega
   ·omega
end
end
end Go.Proofs.YtlminnpaeaganaaGreat
