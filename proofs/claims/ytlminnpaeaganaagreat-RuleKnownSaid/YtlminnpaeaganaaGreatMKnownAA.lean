/- Part of the proof of RuleKnown. No condition. -/
import Derived.WalkKit
import Derived.CallsIn
import Derived.Still
import Derived.Maps.RangeRun
import Derived.Maps.Keyed
import Derived.DeepKeys4
import Derived.RangeFuncIn
import Derived.RangeFuncRecord
import Derived.OrdersIn
import Derived.Conc.Own
import Derived.RangeFuncLeaves
namespace Go.Proofs.YtlminnpaeaganaaGreat
set_option maxRecDepth 100000
set_option linter.all false
section
open Go Go.RowKit
inductive aa where
 |int (k:IntKind) (n:Int)
 |bool (b:Bool)
 |str (s:ByteArray)
 |undef
 |bad
 |ca
 |eL
 |bC
 |dead (len:Nat)
 |cq (l:Nat)
 |ptr (id off:Nat)
 |aV (id sz len:Nat)
 |sl (id:Option Nat) (sz off len:Nat) (cs:List aa)
 |bJ (id:Option Nat) (off:Nat) (cs:List aa)
 |fn (f:FuncId) (bf:List aa)
 |agg (cs:List aa)
 |bD (af:List aa)
 |mp (it:Bool) (id:Option Nat) (sz:Nat) (cs:List aa)
 deriving Inhabited
inductive b9 where
 |wr (id p:Nat) (v:aa)
 |kill (id:Nat)
def b9.id:b9->Nat
 |.wr i _ _=>i
 |.kill i=>i
def setAt(cs:List aa)(off p:Nat)(v:aa):List aa:=if off<=p then cs.set (p-off) v else cs
mutual
def aa.bW(e:b9):aa->aa
 |.sl (some i) sz off len cs=>match e with
  |.kill j=>if i=j then .dead len else .sl (some i) sz off len (eF e cs)
  |.wr j p v=>if i=j then .sl (some i) sz off len (setAt (eF e cs) off p v)else .sl (some i) sz off len (eF e cs)
 |.sl none sz off len cs=>.sl none sz off len (eF e cs)
 |.bJ (some i) off cs=>match e with
  |.kill j=>if i=j then .bad else .bJ (some i) off (eF e cs)
  |.wr j p v=>if i=j then .bJ (some i) off (setAt (eF e cs) off p v)else .bJ (some i) off (eF e cs)
 |.bJ none off cs=>.bJ none off (eF e cs)
 |.fn f bf=>.fn f (eF e bf)
 |.agg cs=>.agg (eF e cs)
 |.bD cs=>.bD (eF e cs)
 |.int k n=>.int k n
 |.bool b=>.bool b
 |.str s=>.str s
 |.undef=>.undef
 |.bad=>.bad
 |.ca=>.ca
 |.eL=>.eL
 |.bC=>.bC
 |.dead n=>.dead n
 |.cq k=>.cq k
 |.ptr i o=>.ptr i o
 |.aV i o z=>.aV i o z
 |.mp it none sz cs=>.mp it none sz cs
 |.mp it (some i) sz cs=>match e with
  |.kill j=>if i=j then .bad else .mp it (some i) sz cs
  |.wr j p v=>if i=j then(match v with
   |.agg cs'=>if p=sz then .mp it (some i) sz cs' else .bad
   |_=>.bad)else .mp it (some i) sz cs
def eF(e:b9):List aa->List aa
 |[]=>[]
 |p::a7=>p.bW e::eF e a7
end
theorem pV(e:b9)(l:List aa):eF e l=l.map (aa.bW e):=by
 induction l with
 |nil=>rfl
 |cons p a7 az=>simp[eF,az]
def aa.sub:List b9->aa->aa
 |[],p=>p
 |e::es,p=>aa.sub es (p.bW e)
@[simp]theorem aa.Ed(p:aa):aa.sub [] p=p:=rfl
theorem aa.Xe(a b:List b9)(p:aa):aa.sub (a++b) p=aa.sub b (aa.sub a p):=by
 induction a generalizing p with
 |nil=>rfl
 |cons e es az=>exact az _
mutual
def aa.cT(n an:Nat):aa->Prop
 |.ptr i _=>i<n
 |.aV i _ _=>i<n
 |.sl (some i) _ _ _ cs=>i<an/\e5 n an cs
 |.sl none _ _ _ cs=>e5 n an cs
 |.bJ (some i) _ cs=>i<an/\e5 n an cs
 |.bJ none _ cs=>e5 n an cs
 |.fn _ cs | .agg cs | .bD cs=>e5 n an cs
 |.mp _ (some i) _ _=>i<an
 |.mp _ none _ _=>True
 |.int _ _ | .bool _ | .str _ | .undef | .bad | .ca | .eL | .bC | .dead _ | .cq _=>True
def e5(n an:Nat):List aa->Prop
 |[]=>True
 |p::a7=>p.cT n an/\e5 n an a7
end
theorem abo(n an:Nat)(l:List aa):e5 n an l↔∀p∈l,p.cT n an:=by
 induction l with
 |nil=>simp[e5]
 |cons p a7 az=>simp[e5,az]
mutual
def aa.cH(n:Nat):aa->aa
 |.ptr i o=>if i<n then .ptr i o else .bad
 |.aV i o z=>if i<n then .aV i o z else .bad
 |.sl id sz off len cs=>.sl id sz off len (iR n cs)
 |.bJ id off cs=>.bJ id off (iR n cs)
 |.fn f cs=>.fn f (iR n cs)
 |.agg cs=>.agg (iR n cs)
 |.bD cs=>.bD (iR n cs)
 |.int k m=>.int k m
 |.bool b=>.bool b
 |.str s=>.str s
 |.undef=>.undef
 |.bad=>.bad
 |.ca=>.ca
 |.eL=>.eL
 |.bC=>.bC
 |.dead k=>.dead k
 |.cq k=>.cq k
 |.mp it id sz cs=>.mp it id sz cs
def iR(n:Nat):List aa->List aa
 |[]=>[]
 |p::a7=>p.cH n::iR n a7
end
theorem o3(n:Nat)(l:List aa):iR n l=l.map (aa.cH n):=by
 induction l with
 |nil=>rfl
 |cons p a7 az=>simp[iR,az]
structure bo where
 box:Nat->Option Nat
 arr:Nat->Option Nat
def bo.own(φ:bo)(b:Nat):Prop:=(∃i,φ.box i=some b)\/(∃i,φ.arr i=some b)
def place(φ:bo)(w:World)(id:Option Nat)(b sz off cap:Nat):Prop:=
 match id with
 |none=>¬φ.own b/\b<w.heap.size
 |some i=>φ.arr i=some b/\∃cur e,w.heap[b]?=some (.cells cur e (0,0))/\off+cap*sz<=cur.size
def dD(it:Bool)(b:Nat):Value:=if it then .pointer (some ⟨b,0,none⟩)else .map (some b)
def pr:aa->Option Value
 |.int k n=>some (.int k n)
 |.bool b=>some (.bool b)
 |_=>none
def lN:List aa->Option (List Value)
 |[]=>some []
 |p::a7=>match pr p,lN a7 with
  |some v,some af=>some (v::af)
  |_,_=>none
def jM(cs:List aa):Option Value:=(lN cs).map λaf=>.agg af.toArray
def lQ(sz:Nat):List aa->List MapEntry->Prop
 |cs,[]=>cs=[]
 |cs,e::es=>∃k r,cs=k++r/\k.length=sz/\jM k=some e.key/\lQ sz r es
def Ee(es:Array MapEntry)(eS:Nat):Prop:=(∀x∈es.toList,x.born<eS)/\(es.toList.map (·.born)).Nodup
def aed(sz:Nat)(cs:List aa)(es:Array MapEntry)(seen:Array Nat):Prop:=
 ∃mI rem,cs=mI++rem/\mI.length=sz/\lQ sz rem (leftOf es seen).toList/\((seen=#[]/\jM mI=none)\/∃(e:MapEntry)(cc:Array Nat),e∈es.toList/\seen=cc.push e.born/\jM mI=some e.key)
def o9(φ:bo)(_w:World)(id:Option Nat)(b:Nat):Prop:=
 match id with
 |none=>¬φ.own b
 |some i=>φ.arr i=some b
def wM(φ:bo)(w:World)(it:Bool)(id:Option Nat)(sz:Nat)(cs:List aa)(v:Value):Prop:=
 ∃b,v=dD it b/\o9 φ w id b/\match it with
  |false=>∃es eS,w.heap[b]?=some (.map es eS)/\Ee es eS/\lQ sz cs es.toList
  |true=>∃ky eS seen es,w.heap[b]?=some (.mapIter (some ky) eS seen eS)/\¬φ.own ky/\w.heap[ky]?=some (.map es eS)/\Ee es eS/\aed sz cs es seen
theorem jK{w:World}{b:Nat}{o:Obj}(h:w.heap[b]?=some o):b<w.heap.size:=(Array.getElem?_eq_some_iff.1 h).1
theorem wM.move{φ bn:bo}{w w':World}{it:Bool}{id eG:Option Nat}{sz:Nat}{cs:List aa}{v:Value}(h:wM φ w it id sz cs v)
  (cr:∀b o,o9 φ w id b->w.heap[b]?=some o->(∀cur e f,o≠.cells cur e f)->(∀l,o≠.loop l)->(∀d,o≠.deferred d)->o9 bn w' eG b/\w'.heap[b]?=some o)
  (ad:∀b o,¬φ.own b->w.heap[b]?=some o->(∀cur e f,o≠.cells cur e f)->(∀l,o≠.loop l)->(∀d,o≠.deferred d)->¬bn.own b/\w'.heap[b]?=some o):wM bn w' it eG sz cs v:=by
 obtain⟨b,ai,ae,h⟩:=h;cases it with
 |false=>
  obtain⟨es,eS,U,ab⟩:=h;obtain⟨g1,g2⟩:=cr b _ ae U (by simp) (by simp) (by simp);exact⟨b,ai,g1,es,eS,g2,ab⟩
 |true=>
  obtain⟨ky,eS,seen,es,U,ab,al,aJ⟩:=h;obtain⟨g1,g2⟩:=cr b _ ae U (by simp) (by simp) (by simp);obtain⟨k1,k2⟩:=ad ky _ ab al (by simp) (by simp) (by simp);exact⟨b,ai,g1,ky,eS,seen,es,g2,k1,k2,aJ⟩
mutual
def aY(φ:bo)(w:World):aa->Value->Prop
 |.int k n,v=>v=.int k n
 |.bool b,v=>v=.bool b
 |.str s,v=>v=.string s
 |.undef,v=>v=.tuple #[]
 |.bad,_=>True
 |.ca,v=>v=.pointer none
 |.eL,v=>v=.nilFunc
 |.bC,v=>v=.slice none 0 0
 |.dead len,v=>∃a cap,v=.slice a len cap
 |.cq l,v=>v=.func (.yield l) #[] #[]
 |.ptr i o,v=>∃b,φ.box i=some b/\v=.pointer (some ⟨b,o,none⟩)
 |.aV i _ len,v=>∃b,φ.box i=some b/\∃cap,v=.slice (some ⟨b,0,none⟩) len cap/\len<=cap
 |.sl id sz off len cs,v=>cs.length=len*sz/\∃a cap,v=.slice a len cap/\len<=cap /\
   ((id=none/\len=0/\a.isSome)\/∃b,a=some ⟨b,off,none⟩/\place φ w id b sz off cap/\b7 φ w b cs off)
 |.bJ id off cs,v=>∃b,v=.pointer (some ⟨b,off,none⟩)/\place φ w id b 0 0 0/\b7 φ w b cs off
 |.fn f bf,v=>∃af:List Value,v=.func (.func f) #[] af.toArray/\bl φ w bf af
 |.agg cs,v=>∃af:List Value,v=.agg af.toArray/\bl φ w cs af
 |.bD cs,v=>∃af:List Value,v=.tuple af.toArray/\bl φ w cs af
 |.mp it id sz cs,v=>wM φ w it id sz cs v
def bl(φ:bo)(w:World):List aa->List Value->Prop
 |[],af=>af=[]
 |p::a7,af=>∃v cB,af=v::cB/\aY φ w p v/\bl φ w a7 cB
def b7(φ:bo)(w:World)(b:Nat):List aa->Nat->Prop
 |[],_=>True
 |p::a7,off=>(∃c,w.cell? ⟨b,off,none⟩=some c/\aY φ w p c)/\b7 φ w b a7 (off+1)
end
theorem r5{φ:bo}{w:World}{b:Nat}:∀{cs:List aa}{off:Nat},
  b7 φ w b cs off↔∀j p,cs[j]?=some p->∃c,w.cell? ⟨b,off+j,none⟩=some c/\aY φ w p c
 |[],off=>by simp[b7]
 |p::a7,off=>by
  rw[b7,r5 (cs:=a7)];constructor
  ·grind
  ·intro h;refine⟨by simpa using h 0 p (by simp),λj q aC=>?_⟩;obtain⟨c,ah,ai⟩:=h (j+1) q (by grind);grind
theorem sy{φ:bo}{w:World}:∀{a7:List aa}{af:List Value},
  bl φ w a7 af↔a7.length=af.length/\∀(j:Nat) p v,a7[j]?=some p->af[j]?=some v->aY φ w p v
 |[],af=>by grind [bl]
 |p::a7,[]=>by simp[bl]
 |p::a7,v::af=>by
  simp[bl];constructor
  ·rintro⟨bg,cB,⟨rfl,rfl⟩,aT,U⟩;rw[sy]at U;grind
  ·rintro⟨ak,h⟩;refine⟨v,af,⟨rfl,rfl⟩,h 0 p v (by simp) (by simp),sy.2 ⟨by grind,λj q u aC hu=>h (j+1) q u (by grind) (by grind)⟩⟩
theorem mg{φ:bo}{w:World}{a7:List aa}{af:List Value}(h:bl φ w a7 af):a7.length=af.length:=(sy.1 h).1
theorem o1{φ:bo}{w:World}{a7:List aa}{af:List Value}(h:bl φ w a7 af){j:Nat}{p:aa}(aC:a7[j]?=some p):∃v,af[j]?=some v/\aY φ w p v:=by
 obtain⟨ak,aN⟩:=sy.1 h;have aU:j<af.length:=by grind
 exact⟨af[j],by simp[aU],aN j p _ aC (by simp[aU])⟩
theorem Ad{φ:bo}{w:World}{a7 bz:List aa}{af us:List Value}(h:bl φ w a7 af)(k:bl φ w bz us):bl φ w (a7++bz) (af++us):=by
 induction a7 generalizing af with
 |nil=>grind [bl]
 |cons p a7 az=>
  obtain⟨v,cB,rfl,aT,U⟩:=h;exact⟨v,cB++us,rfl,aT,az U⟩
structure kk(φ:bo)(w:World)(bn:bo)(w':World):Prop where
 box:∀i b,φ.box i=some b->bn.box i=some b
 arr:∀i b,φ.arr i=some b->bn.arr i=some b
 rG:∀b,b<w.heap.size->¬φ.own b->¬bn.own b
 size:w.heap.size<=w'.heap.size
 iI:∀i b,φ.arr i=some b->w'.heap[b]?=w.heap[b]?
 rest:∀b,b<w.heap.size->¬φ.own b->w'.heap[b]?=w.heap[b]?
theorem AQ{w w':World}{b o:Nat}(h:w'.heap[b]?=w.heap[b]?):w'.cell? ⟨b,o,none⟩=w.cell? ⟨b,o,none⟩:=World.cell?_of_block (w:=w) (a:=⟨b,o,none⟩) h
theorem MK{φ bn:bo}{w w':World}(k:kk φ w bn w'){id:Option Nat}{b sz off cap:Nat}(h:place φ w id b sz off cap):
  place bn w' id b sz off cap/\w'.heap[b]?=w.heap[b]?:=by
 cases id with
 |none=>exact⟨⟨k.rG b h.2 h.1,Nat.lt_of_lt_of_le h.2 k.size⟩,k.rest b h.2 h.1⟩
 |some i=>
  obtain⟨au,cur,e,hb,ah⟩:=h;have ao:=k.iI i b au;exact⟨⟨k.arr i b au,cur,e,ao.trans hb,ah⟩,ao⟩
mutual
theorem aY.keeps{φ bn:bo}{w w':World}(k:kk φ w bn w'):∀(p:aa)(v:Value),aY φ w p v->aY bn w' p v
 |.int _ _,v,h=>by simpa only[aY]using h
 |.bool _,v,h=>by simpa only[aY]using h
 |.str _,v,h=>by simpa only[aY]using h
 |.undef,v,h=>by simpa only[aY]using h
 |.bad,v,h=>by simp only[aY]
 |.ca,v,h=>by simpa only[aY]using h
 |.eL,v,h=>by simpa only[aY]using h
 |.bC,v,h=>by simpa only[aY]using h
 |.dead _,v,h | .cq _,v,h=>by simpa only[aY]using h
 |.ptr i o,v,h=>by
  simp only[aY]at h⊢;obtain⟨b,hb,ai⟩:=h;exact⟨b,k.box i b hb,ai⟩
 |.aV i o z,v,h=>by
  simp only[aY]at h⊢;obtain⟨b,hb,ai⟩:=h;exact⟨b,k.box i b hb,ai⟩
 |.sl id sz off len cs,v,h=>by
  simp only[aY]at h⊢;obtain⟨ak,a,cap,ai,ah,h⟩:=h;refine⟨ak,a,cap,ai,ah,?_⟩;rcases h with h|⟨b,au,ae,ad⟩
  ·exact .inl h
  ·obtain⟨p5,ao⟩:=MK k ae;exact .inr ⟨b,au,p5,b7.keeps k b ao cs off ad⟩
 |.bJ id off cs,v,h=>by
  simp only[aY]at h⊢;obtain⟨b,ai,ae,ad⟩:=h;obtain⟨p5,ao⟩:=MK k ae;exact⟨b,ai,p5,b7.keeps k b ao cs off ad⟩
 |.fn f bf,v,h=>by
  simp only[aY]at h⊢;obtain⟨af,ai,ad⟩:=h;exact⟨af,ai,bl.keeps k bf af ad⟩
 |.agg cs,v,h=>by
  simp only[aY]at h⊢;obtain⟨af,ai,ad⟩:=h;exact⟨af,ai,bl.keeps k cs af ad⟩
 |.bD cs,v,h=>by
  simp only[aY]at h⊢;obtain⟨af,ai,ad⟩:=h;exact⟨af,ai,bl.keeps k cs af ad⟩
 |.mp it id sz cs,v,h=>by
  simp only[aY]at h⊢;exact h.move (λb o ae hb _ _ _=>by
   cases id with
   |none=>exact⟨k.rG b (jK hb) ae,(k.rest b (jK hb) ae).trans hb⟩
   |some i=>exact⟨k.arr i b ae,(k.iI i b ae).trans hb⟩) λb o ae hb _ _ _=>⟨k.rG b (jK hb) ae,(k.rest b (jK hb) ae).trans hb⟩
theorem bl.keeps{φ bn:bo}{w w':World}(k:kk φ w bn w'):∀(a7:List aa)(af:List Value),bl φ w a7 af->bl bn w' a7 af
 |[],af,h=>by simp only[bl]at h⊢;exact h
 |p::a7,af,h=>by
  simp only[bl]at h⊢;obtain⟨v,cB,e,aT,U⟩:=h;exact⟨v,cB,e,aY.keeps k p v aT,bl.keeps k a7 cB U⟩
theorem b7.keeps{φ bn:bo}{w w':World}(k:kk φ w bn w')(b:Nat)(hb:w'.heap[b]?=w.heap[b]?):∀(a7:List aa)(off:Nat),b7 φ w b a7 off->b7 bn w' b a7 off
 |[],_,_=>by simp only[b7]
 |p::a7,off,h=>by
  simp only[b7]at h⊢;obtain⟨⟨c,ah,aT⟩,U⟩:=h;exact⟨⟨c,(AQ hb).trans ah,aY.keeps k p c aT⟩,b7.keeps k b hb a7 (off+1) U⟩
end
structure sB(j:Nat)(φ:bo)(w:World)(bn:bo)(w':World):Prop where
 box:∀i b,φ.box i=some b->bn.box i=some b
 arr:∀i b,i≠j->φ.arr i=some b->bn.arr i=some b
 rG:∀b,b<w.heap.size->¬φ.own b->¬bn.own b
 size:w.heap.size<=w'.heap.size
 iI:∀i b,i≠j->φ.arr i=some b->w'.heap[b]?=w.heap[b]?
 rest:∀b,b<w.heap.size->¬φ.own b->w'.heap[b]?=w.heap[b]?
theorem Ds{φ bn:bo}{w w':World}{j:Nat}(k:sB j φ w bn w'){id:Option Nat}(aC:id≠some j){b sz off cap:Nat}(h:place φ w id b sz off cap):
  place bn w' id b sz off cap/\w'.heap[b]?=w.heap[b]?:=by
 cases id with
 |none=>exact⟨⟨k.rG b h.2 h.1,Nat.lt_of_lt_of_le h.2 k.size⟩,k.rest b h.2 h.1⟩
 |some i=>
  have dL:i≠j:=λe=>aC (by rw[e]);obtain⟨au,cur,e,hb,ah⟩:=h;have ao:=k.iI i b dL au;exact⟨⟨k.arr i b dL au,cur,e,ao.trans hb,ah⟩,ao⟩
theorem vT(e:b9)(cs:List aa):(eF e cs).length=cs.length:=by rw[pV];simp
theorem Wd(cs:List aa)(off p:Nat)(v:aa):(setAt cs off p v).length=cs.length:=by grind [setAt]
mutual
theorem aY.kill{φ bn:bo}{w w':World}{j:Nat}(k:sB j φ w bn w'):∀(p:aa)(v:Value),aY φ w p v->aY bn w' (p.bW (.kill j)) v
 |.int _ _,v,h=>by simpa only[aY,aa.bW]using h
 |.bool _,v,h=>by simpa only[aY,aa.bW]using h
 |.str _,v,h=>by simpa only[aY,aa.bW]using h
 |.undef,v,h=>by simpa only[aY,aa.bW]using h
 |.bad,v,h=>by simp only[aY,aa.bW]
 |.ca,v,h=>by simpa only[aY,aa.bW]using h
 |.eL,v,h=>by simpa only[aY,aa.bW]using h
 |.bC,v,h=>by simpa only[aY,aa.bW]using h
 |.dead _,v,h | .cq _,v,h=>by simpa only[aY,aa.bW]using h
 |.ptr i o,v,h=>by
  simp only[aY,aa.bW]at h⊢;obtain⟨b,hb,ai⟩:=h;exact⟨b,k.box i b hb,ai⟩
 |.aV i o z,v,h=>by
  simp only[aY,aa.bW]at h⊢;obtain⟨b,hb,ai⟩:=h;exact⟨b,k.box i b hb,ai⟩
 |.sl none sz off len cs,v,h=>by
  simp only[aY,aa.bW,vT]at h⊢;obtain⟨ak,a,cap,ai,ah,h⟩:=h;refine⟨ak,a,cap,ai,ah,?_⟩;rcases h with h|⟨b,au,ae,ad⟩
  ·exact .inl h
  ·obtain⟨p5,ao⟩:=Ds k (by simp) ae;exact .inr ⟨b,au,p5,b7.kill k b ao cs off ad⟩
 |.sl (some i) sz off len cs,v,h=>by
  simp only[aa.bW];split
  ·simp only[aY]at h⊢;obtain⟨_,a,cap,ai,_,_⟩:=h;exact⟨a,cap,ai⟩
  ·rename_i dL;simp only[aY,vT]at h⊢;obtain⟨ak,a,cap,ai,ah,h⟩:=h;refine⟨ak,a,cap,ai,ah,?_⟩;rcases h with h|⟨b,au,ae,ad⟩
   ·exact .inl h
   ·obtain⟨p5,ao⟩:=Ds k (by simpa using dL) ae;exact .inr ⟨b,au,p5,b7.kill k b ao cs off ad⟩
 |.bJ none off cs,v,h=>by
  simp only[aY,aa.bW]at h⊢;obtain⟨b,ai,ae,ad⟩:=h;obtain⟨p5,ao⟩:=Ds k (by simp) ae;exact⟨b,ai,p5,b7.kill k b ao cs off ad⟩
 |.bJ (some i) off cs,v,h=>by
  simp only[aa.bW];split
  ·simp only[aY]
  ·rename_i dL;simp only[aY]at h⊢;obtain⟨b,ai,ae,ad⟩:=h;obtain⟨p5,ao⟩:=Ds k (by simpa using dL) ae;exact⟨b,ai,p5,b7.kill k b ao cs off ad⟩
 |.fn f bf,v,h=>by
  simp only[aY,aa.bW]at h⊢;obtain⟨af,ai,ad⟩:=h;exact⟨af,ai,bl.kill k bf af ad⟩
 |.agg cs,v,h=>by
  simp only[aY,aa.bW]at h⊢;obtain⟨af,ai,ad⟩:=h;exact⟨af,ai,bl.kill k cs af ad⟩
 |.bD cs,v,h=>by
  simp only[aY,aa.bW]at h⊢;obtain⟨af,ai,ad⟩:=h;exact⟨af,ai,bl.kill k cs af ad⟩
 |.mp it none sz cs,v,h=>by
  simp only[aY,aa.bW]at h⊢;exact h.move (λb o ae hb _ _ _=>⟨k.rG b (jK hb) ae,(k.rest b (jK hb) ae).trans hb⟩) λb o ae hb _ _ _=>⟨k.rG b (jK hb) ae,(k.rest b (jK hb) ae).trans hb⟩
 |.mp it (some i) sz cs,v,h=>by
  by_cases dL:i=j
  ·simp only[aa.bW,dL,if_true,aY]
  ·simp only[aa.bW,dL,if_false];simp only[aY]at h⊢;exact h.move (λb o ae hb _ _ _=>⟨k.arr i b dL ae,(k.iI i b dL ae).trans hb⟩) λb o ae hb _ _ _=>⟨k.rG b (jK hb) ae,(k.rest b (jK hb) ae).trans hb⟩
theorem bl.kill{φ bn:bo}{w w':World}{j:Nat}(k:sB j φ w bn w'):∀(a7:List aa)(af:List Value),bl φ w a7 af->bl bn w' (eF (.kill j) a7) af
 |[],af,h=>by simp only[bl,eF]at h⊢;exact h
 |p::a7,af,h=>by
  simp only[bl,eF]at h⊢;obtain⟨v,cB,e,aT,U⟩:=h;exact⟨v,cB,e,aY.kill k p v aT,bl.kill k a7 cB U⟩
theorem b7.kill{φ bn:bo}{w w':World}{j:Nat}(k:sB j φ w bn w')(b:Nat)(hb:w'.heap[b]?=w.heap[b]?):∀(a7:List aa)(off:Nat),b7 φ w b a7 off->b7 bn w' b (eF (.kill j) a7) off
 |[],_,_=>by simp only[b7,eF]
 |p::a7,off,h=>by
  simp only[b7,eF]at h⊢;obtain⟨⟨c,ah,aT⟩,U⟩:=h;exact⟨⟨c,(AQ hb).trans ah,aY.kill k p c aT⟩,b7.kill k b hb a7 (off+1) U⟩
end
structure wC(j b p:Nat)(v:aa)(φ:bo)(w w':World):Prop where
 arr:φ.arr j=some b
 inj:∀i,φ.arr i=some b->i=j
 size:w.heap.size<=w'.heap.size
 others:∀k,k≠b->k<w.heap.size->w'.heap[k]?=w.heap[k]?
 row:∀cur e,w.heap[b]?=some (.cells cur e (0,0))->∃m2,w'.heap[b]?=some (.cells m2 e (0,0))/\m2.size=cur.size
 aee:∃cur e,w.heap[b]?=some (.cells cur e (0,0))
 cells:∀o,o≠p->w'.cell? ⟨b,o,none⟩=w.cell? ⟨b,o,none⟩
 cell:∃c,w'.cell? ⟨b,p,none⟩=some c/\aY φ w' v c
theorem PX{w:World}{b o:Nat}{c:Value}(h:w.cell? ⟨b,o,none⟩=some c):b<w.heap.size:=World.block_lt_of_cell? w ⟨b,o,none⟩ h
theorem DM{φ:bo}{w w':World}{j b p:Nat}{v:aa}(k:wC j b p v φ w w'){id:Option Nat}{a6 sz off cap:Nat}(h:place φ w id a6 sz off cap):
  place φ w' id a6 sz off cap/\(id≠some j->a6≠b)/\(id=some j->a6=b):=by
 cases id with
 |none=>exact⟨⟨h.1,Nat.lt_of_lt_of_le h.2 k.size⟩,λ_ e=>h.1 (.inr ⟨j,by rw[e];exact k.arr⟩),λe=>by cases e⟩
 |some i=>
  obtain⟨au,cur,e,hb,ah⟩:=h;by_cases dL:i=j
  ·subst dL;have tk:a6=b:=by have:=au.symm.trans k.arr;grind
   subst tk;obtain⟨m2,U,ab⟩:=k.row cur e hb;exact⟨⟨au,m2,e,U,by omega⟩,λh=>absurd rfl h,λ_=>rfl⟩
  ·have bU:a6≠b:=λe=>dL (k.inj i (by grind));have aU:a6<w.heap.size:=by grind
   exact⟨⟨au,cur,e,(k.others a6 bU aU).trans hb,ah⟩,λ_=>bU,λh=>absurd (by grind) dL⟩
theorem sA{φ:bo}{w:World}{b:Nat}{cs:List aa}{off:Nat}(h:∀j p,cs[j]?=some p->∃c,w.cell? ⟨b,off+j,none⟩=some c/\aY φ w p c):b7 φ w b cs off:=r5.2 h
theorem CU{φ:bo}{w w':World}{j b p:Nat}{v:aa}(k:wC j b p v φ w w'){a6:Nat}(hb:a6≠b){cs:List aa}{off:Nat}
  (h:∀i q,cs[i]?=some q->∃c,w.cell? ⟨a6,off+i,none⟩=some c/\aY φ w' (q.bW (.wr j p v)) c):b7 φ w' a6 (eF (.wr j p v) cs) off:=by
 refine sA λi q aH=>?_;rw[pV,List.getElem?_map]at aH;obtain⟨hE,nc,rfl⟩:=Option.map_eq_some_iff.1 aH;obtain⟨c,ah,ai⟩:=h i hE nc;exact⟨c,(AQ (k.others a6 hb (PX ah))).trans ah,ai⟩
theorem Mf{φ:bo}{w w':World}{j b p:Nat}{v:aa}(k:wC j b p v φ w w'){cs:List aa}{off:Nat}
  (h:∀i q,cs[i]?=some q->∃c,w.cell? ⟨b,off+i,none⟩=some c/\aY φ w' (q.bW (.wr j p v)) c):b7 φ w' b (setAt (eF (.wr j p v) cs) off p v) off:=by
 refine sA λi q aH=>?_;by_cases ag3:off+i=p
 ·obtain⟨c,ah,ai⟩:=k.cell;grind [setAt]
 ·have iX:(eF (.wr j p v) cs)[i]?=some q:=by grind [setAt]
  rw[pV,List.getElem?_map]at iX;obtain⟨hE,nc,rfl⟩:=Option.map_eq_some_iff.1 iX;obtain⟨c,ah,ai⟩:=h i hE nc;exact⟨c,(k.cells _ ag3).trans ah,ai⟩
mutual
theorem aY.wr{φ:bo}{w w':World}{j b p:Nat}{v:aa}(k:wC j b p v φ w w'):∀(q:aa)(u:Value),aY φ w q u->aY φ w' (q.bW (.wr j p v)) u
 |.int _ _,u,h=>by simpa only[aY,aa.bW]using h
 |.bool _,u,h=>by simpa only[aY,aa.bW]using h
 |.str _,u,h=>by simpa only[aY,aa.bW]using h
 |.undef,u,h=>by simpa only[aY,aa.bW]using h
 |.bad,u,h=>by simp only[aY,aa.bW]
 |.ca,u,h=>by simpa only[aY,aa.bW]using h
 |.eL,u,h=>by simpa only[aY,aa.bW]using h
 |.bC,u,h=>by simpa only[aY,aa.bW]using h
 |.dead _,u,h | .cq _,u,h=>by simpa only[aY,aa.bW]using h
 |.ptr _ _,u,h=>by simpa only[aY,aa.bW]using h
 |.aV _ _ _,u,h=>by simpa only[aY,aa.bW]using h
 |.sl none sz off len cs,u,h=>by
  simp only[aY,aa.bW,vT]at h⊢;obtain⟨ak,a,cap,ai,ah,h⟩:=h;refine⟨ak,a,cap,ai,ah,?_⟩;rcases h with h|⟨a6,au,ae,ad⟩
  ·exact .inl h
  ·obtain⟨p5,aI,_⟩:=DM k ae;exact .inr ⟨a6,au,p5,CU k (aI (by simp)) (b7.wr k a6 cs off ad)⟩
 |.sl (some i) sz off len cs,u,h=>by
  simp only[aa.bW];simp only[aY]at h;obtain⟨ak,a,cap,ai,ah,h⟩:=h;rcases h with h|⟨a6,au,ae,ad⟩
  ·exact absurd h.1 (by simp)
  ·obtain⟨p5,aI,ao⟩:=DM k ae;have dA:=b7.wr k a6 cs off ad;split
   ·rename_i dL;have tk:a6=b:=ao (by rw[dL]);subst tk;simp only[aY,Wd,vT];exact⟨ak,a,cap,ai,ah,.inr ⟨a6,au,p5,Mf k dA⟩⟩
   ·rename_i dL;simp only[aY,vT];exact⟨ak,a,cap,ai,ah,.inr ⟨a6,au,p5,CU k (aI (by simpa using dL)) dA⟩⟩
 |.bJ none off cs,u,h=>by
  simp only[aY,aa.bW]at h⊢;obtain⟨a6,ai,ae,ad⟩:=h;obtain⟨p5,aI,_⟩:=DM k ae;exact⟨a6,ai,p5,CU k (aI (by simp)) (b7.wr k a6 cs off ad)⟩
 |.bJ (some i) off cs,u,h=>by
  simp only[aa.bW];simp only[aY]at h;obtain⟨a6,ai,ae,ad⟩:=h;obtain⟨p5,aI,ao⟩:=DM k ae;have dA:=b7.wr k a6 cs off ad;split
  ·rename_i dL;have tk:a6=b:=ao (by rw[dL]);subst tk;simp only[aY];exact⟨a6,ai,p5,Mf k dA⟩
  ·rename_i dL;simp only[aY];exact⟨a6,ai,p5,CU k (aI (by simpa using dL)) dA⟩
 |.fn f bf,u,h=>by
  simp only[aY,aa.bW]at h⊢;obtain⟨af,ai,ad⟩:=h;exact⟨af,ai,bl.wr k bf af ad⟩
 |.agg cs,u,h=>by
  simp only[aY,aa.bW]at h⊢;obtain⟨af,ai,ad⟩:=h;exact⟨af,ai,bl.wr k cs af ad⟩
 |.bD cs,u,h=>by
  simp only[aY,aa.bW]at h⊢;obtain⟨af,ai,ad⟩:=h;exact⟨af,ai,bl.wr k cs af ad⟩
 |.mp it none sz cs,u,h=>by
  simp only[aY,aa.bW]at h⊢;have wN:∀a6 o,¬φ.own a6->w.heap[a6]?=some o->¬φ.own a6/\w'.heap[a6]?=some o:=λa6 o ae hb=>⟨ae,(k.others a6 (λe=>ae (.inr ⟨j,by rw[e];exact k.arr⟩)) (jK hb)).trans hb⟩;exact h.move (λb o ae hb _ _ _=>wN b o ae hb) λb o ae hb _ _ _=>wN b o ae hb
 |.mp it (some i) sz cs,u,h=>by
  by_cases dL:i=j
  ·subst dL;simp only[aY]at h;obtain⟨gf,_,ae,h⟩:=h;obtain⟨cur,e,ah⟩:=k.aee;have:gf=b:=by have:=ae.symm.trans k.arr;injection this
   subst this;cases it with
   |false=>obtain⟨es,eS,U,_⟩:=h;rw[ah]at U;cases U
   |true=>obtain⟨_,_,_,_,U,_⟩:=h;rw[ah]at U;cases U
  ·simp only[aa.bW,dL,if_false];simp only[aY]at h⊢;exact h.move (λa6 o ae hb _ _ _=>⟨ae,(k.others a6 (λe=>dL (k.inj i (by rw[←e];exact ae))) (jK hb)).trans hb⟩)
    λa6 o ae hb _ _ _=>⟨ae,(k.others a6 (λe=>ae (.inr ⟨j,by rw[e];exact k.arr⟩)) (jK hb)).trans hb⟩
theorem bl.wr{φ:bo}{w w':World}{j b p:Nat}{v:aa}(k:wC j b p v φ w w'):∀(a7:List aa)(af:List Value),bl φ w a7 af->bl φ w' (eF (.wr j p v) a7) af
 |[],af,h=>by simp only[bl,eF]at h⊢;exact h
 |q::a7,af,h=>by
  simp only[bl,eF]at h⊢;obtain⟨u,cB,e,aT,U⟩:=h;exact⟨u,cB,e,aY.wr k q u aT,bl.wr k a7 cB U⟩
theorem b7.wr{φ:bo}{w w':World}{j b p:Nat}{v:aa}(k:wC j b p v φ w w')(a6:Nat):∀(a7:List aa)(off:Nat),b7 φ w a6 a7 off ->
  ∀i q,a7[i]?=some q->∃c,w.cell? ⟨a6,off+i,none⟩=some c/\aY φ w' (q.bW (.wr j p v)) c
 |[],_,_,i,q,aH=>by simp at aH
 |qB::a7,off,h,i,q,aH=>by
  simp only[b7]at h;obtain⟨⟨c,ah,aT⟩,U⟩:=h;cases i with
  |zero=>
   simp at aH;subst aH;exact⟨c,ah,aY.wr k _ c aT⟩
  |succ i=>
   obtain⟨c',gv,bc⟩:=b7.wr k a6 a7 (off+1) U i q (by simpa using aH);exact⟨c',by rw[show off+(i+1)=off+1+i by omega];exact gv,bc⟩
end
end
section
open Go Go.RowKit Go.Conc
def a8(w:World)(τ:Tape)(d:Nat):World:={ w with tape:=τ,drawn:=d }
@[simp]theorem aeo(w:World)(τ vP:Tape)(d dq:Nat):a8 (a8 w τ d) vP dq=a8 w vP dq:=rfl
@[simp]theorem akp(w:World)(τ:Tape)(d:Nat):(a8 w τ d).heap=w.heap:=rfl
theorem ab3(w:World):a8 w w.tape w.drawn=w:=rfl
abbrev Spec:=FuncId->Array Value->World->(Value->World->Prop)->Prop
class cQ where
 spec:Spec
 libs:FuncId->List FuncId->Prop
def calm(fr:Frame):Prop:=fr.mode=.run\/fr.mode=.returning
theorem WU(c:Frame)(v:Value):(c.finish v).mode=c.mode:=by grind [Frame.finish]
theorem MV{c:Frame}(h:calm c)(v:Value):calm (c.finish v):=by grind [calm,WU]
def yT(P:Program)(f:FuncId):Bool:=match P.funcs[f]? with
 |some fn=>fn.body.isNone
 |none=>true
def Ty(P:Program):Op->Bool
 |.go _ | .defer _ | .send .. | .recv .. | .select ..=>true
 |.call ⟨.value (.func f),_,_⟩=>yT P f
 |.call ⟨.value (.const (.func (.func f) _ _)),_,_⟩=>yT P f
 |_=>false
def jU(P:Program):Code->Bool
 |.region _ ops _=>ops.toList.any λo=>Ty P o.op
 |.seq a b | .cond _ a b=>jU P a||jU P b
 |.block _ c | .loop c | .scope c=>jU P c
 |.rangeFunc _ _ a b=>jU P a||jU P b
 |_=>false
def nO(P:Program)(f:FuncId):Prop:=∃fn c,P.funcs[f]?=some fn/\fn.body=some c/\jU P c=true
def qT(P:Program)(fr:Frame):Prop:=∀f args,fr=Frame.enter P f args .normal->¬nO P f
theorem jk{P:Program}{b:Frame}(hb:b.roundOf=none->¬nO P b.fn){a:Act}{todo:List Item}:qT P (b.atR a todo):=by
 intro f args e;have U:b.fn=f:=congrArg Frame.fn e;have ab:b.roundOf=none:=congrArg Frame.roundOf e;grind
theorem MW{P:Program}{fr:Frame}(h:fr.mode=.returning):qT P fr:=by
 intro f args e;rw[e]at h;cases h
section
variable[cQ]
inductive Way(P:Program)(T:Frame->List Frame->World->Prop):Frame->List Frame->World->Prop
 |done {fr:Frame} {cs:List Frame} {w:World}:(∀τ d,T fr cs (a8 w τ d))->Way P T fr cs w
 |step {fr:Frame} {cs:List Frame} {w:World} (hz:Tape->Nat->Frame) (cs':Tape->Nat->List Frame) (w':Tape->Nat->World) (es:Tape->Nat->Array Event):
   qT P fr->(∀τ d,stepG P true (G fr cs) (a8 w τ d)=.go (G (hz τ d) (cs' τ d)) (w' τ d) (es τ d))->(∀τ d,calm (hz τ d))->(∀τ d,Way P T (hz τ d) (cs' τ d) (w' τ d))->Way P T fr cs w
 |spec {f:FuncId} {args:Array Value} {c:Frame} {cs:List Frame} {w:World} {Post:Value->World->Prop}:calm c ->
   (∀τ d,cQ.spec f args (a8 w τ d) Post)->(∀v w',Post v w'->Way P T (c.finish v) cs w')->Way P T (Frame.enter P f args .normal) (c::cs) w
 |lu {f:FuncId} {L apM:List FuncId} {n:Nat} {args:Array Value} {c:Frame} {cs:List Frame} {w:World} {R:Ending->World->Prop}:cQ.libs f L->0∉apM->calm c ->
   (∀τ d D,CallsIn (Fence.list apM (some D)) n P f args (a8 w τ d) R)->(∀e w',R e w'->∃v,e=.returned v)->(∀v w',R (.returned v) w'->Way P T (c.finish v) cs w')->Way P T (Frame.enter P f args .normal) (c::cs) w
variable{P:Program}{T:Frame->List Frame->World->Prop}{fr hz:Frame}{cs cs':List Frame}{w w':World}
theorem Way.mk(he:qT P fr)(h:∀τ d,∃hz cs' w' es,stepG P true (G fr cs) (a8 w τ d)=.go (G hz cs') w' es/\calm hz/\Way P T hz cs' w'):Way P T fr cs w:=
 .step (λτ d=>(h τ d).choose) (λτ d=>(h τ d).choose_spec.choose) (λτ d=>(h τ d).choose_spec.choose_spec.choose) (λτ d=>(h τ d).choose_spec.choose_spec.choose_spec.choose)
  he (λτ d=>(h τ d).choose_spec.choose_spec.choose_spec.choose_spec.1) (λτ d=>(h τ d).choose_spec.choose_spec.choose_spec.choose_spec.2.1) (λτ d=>(h τ d).choose_spec.choose_spec.choose_spec.choose_spec.2.2)
theorem Hk(P:Program)(f:FuncId)(args:Array Value):calm (Frame.enter P f args .normal):=.inl rfl
theorem bare_go{s:GStep}{g:Goroutine}(h:s.bare=.go g w):∃es,s=.go g w es:=by
 cases s<;>simp  at h;simp_all
theorem Way.Cq(he:qT P fr)(h:∀τ d,∃hz cs' w',(stepG P true (G fr cs) (a8 w τ d)).bare=.go (G hz cs') w'/\calm hz/\Way P T hz cs' w'):Way P T fr cs w:=
 .mk he λτ d=>by
  obtain⟨hz,cs',w',U,ab,al⟩:=h τ d;grind [bare_go]
theorem Way.a8(h:Way P T fr cs w)(τ:Tape)(d:Nat):Way P T fr cs (a8 w τ d):=by
 cases h with
 |done h=>exact .done λvP dq=>h vP dq
 |step a b c e he h hm k=>exact .step a b c e he (λvP dq=>h vP dq) hm k
 |spec hm h k=>exact .spec hm (λvP dq=>h vP dq) k
 |lu ak aT hm h ad k=>exact .lu ak aT hm (λvP dq=>h vP dq) ad k
theorem Way.pure(h:∀w,stepG P true (G fr cs) w=.go (G hz cs') w #[])(he:qT P fr)(k:Way P T hz cs' w)(hm:calm hz:=by first|exact .inl rfl|exact .inr rfl):Way P T fr cs w:=
 .mk he λτ d=>⟨_,_,_,_,h _,hm,k.a8 τ d⟩
theorem Way.mono{x2:Frame->List Frame->World->Prop}(h:Way P T fr cs w)(a1:∀fr cs w,T fr cs w->x2 fr cs w):Way P x2 fr cs w:=by
 induction h with
 |done h=>exact .done λτ d=>a1 _ _ _ (h τ d)
 |step a b c e he h hm _ az=>exact .step a b c e he h hm az
 |spec hm h _ az=>exact .spec hm h az
 |lu ak aT hm h ad _ az=>exact .lu ak aT hm h ad az
theorem Way.trans{x2:Frame->List Frame->World->Prop}(h:Way P T fr cs w)(a1:∀fr cs w,(∀τ d,T fr cs (Go.Proofs.YtlminnpaeaganaaGreat.a8 w τ d))->Way P x2 fr cs w):Way P x2 fr cs w:=by
 induction h with
 |done h=>grind
 |step a b c e he h hm _ az=>exact .step a b c e he h hm az
 |spec hm h _ az=>exact .spec hm h az
 |lu ak aT hm h ad _ az=>exact .lu ak aT hm h ad az
def pz(P:Program)(T:Frame->List Frame->World->Prop)(b:Frame)(k:List Item)(cs:List Frame):Exit->Act->World->Prop
 |.normal,a,w=>Way P T (b.atR a k) cs w
 |.exit id,a,w=>match exitTo id k with
  |some bB=>Way P T (b.atR a bB) cs w
  |none=>∀todo,exitTo id todo=none->Way P T (b.atR a (.code (.exit id)::todo)) cs w
 |.ret,a,w=>∀todo,Way P T (b.atR a (.code .ret::todo)) cs w
 |_,_,_=>True
theorem pz.pass{b:Frame}{x:Item}{k:List Item}{e:Exit}{a:Act}(aj:x.plain=true)(he:e≠.normal)(h:pz P T b k cs e a w):pz P T b (x::k) cs e a w:=by
 cases e with
 |normal=>grind
 |exit id=>grind [pz,exitTo_plain]
 |_=>exact h
def lb(P:Program)(f:FuncId)(args:Array Value)(w:World)(R:Ending->World->Prop):Prop:=
 ∀(T:Frame->List Frame->World->Prop)(c:Frame)(cs:List Frame),calm c->(∀v w',R (.returned v) w'->Way P T (c.finish v) cs w')->Way P T (Frame.enter P f args .normal) (c::cs) w
def qY(P:Program)(l:Nat)(f:FuncId)(tmps:Array Value)(assign body:Code)(w:World)(R:Ending->World->Prop):Prop:=
 ∀(T:Frame->List Frame->World->Prop)(c:Frame)(cs:List Frame),calm c->(∀v w',R (.returned v) w'->Way P T (c.finish v) cs w')->Way P T (Frame.round l f tmps assign body .normal) (c::cs) w
theorem lb.mono{f:FuncId}{args:Array Value}{R R':Ending->World->Prop}(h:lb P f args w R)(ad:∀e w,R e w->R' e w):lb P f args w R':=
 λT c cs ah aq=>h T c cs ah λv w' ai=>aq v w' (ad _ _ ai)
theorem qY.mono{l:Nat}{f:FuncId}{tmps:Array Value}{assign body:Code}{R R':Ending->World->Prop}(h:qY P l f tmps assign body w R)(ad:∀e w,R e w->R' e w):qY P l f tmps assign body w R':=
 λT c cs ah aq=>h T c cs ah λv w' ai=>aq v w' (ad _ _ ai)
theorem lb.a8{f:FuncId}{args:Array Value}{R:Ending->World->Prop}(h:lb P f args w R)(τ:Tape)(d:Nat):lb P f args (a8 w τ d) R:=λT c cs ah aq=>(h T c cs ah aq).a8 τ d
theorem qY.a8{l:Nat}{f:FuncId}{tmps:Array Value}{assign body:Code}{R:Ending->World->Prop}(h:qY P l f tmps assign body w R)(τ:Tape)(d:Nat):qY P l f tmps assign body (a8 w τ d) R:=λT c cs ah aq=>(h T c cs ah aq).a8 τ d
theorem WR{f:FuncId}{args:Array Value}{R:Ending->World->Prop}{Post:Value->World->Prop}(h:∀τ d,cQ.spec f args (a8 w τ d) Post)(ad:∀v w',Post v w'->R (.returned v) w'):lb P f args w R:=
 λT c cs ah aq=>.spec ah h λv w' ai=>aq v w' (ad v w' ai)
theorem zv{f:FuncId}{L apM:List FuncId}{n:Nat}{args:Array Value}{R:Ending->World->Prop}(ak:cQ.libs f L)(aT:0∉apM)(h:∀τ d D,CallsIn (Fence.list apM (some D)) n P f args (a8 w τ d) R)(ad:∀e w',R e w'->∃v,e=.returned v):lb P f args w R:=
 λT c cs ah aq=>.lu ak aT ah h ad aq
def _root_.Go.Oper.wP(P:Program)(o:Oper)(a:Act)(next:Act->World->Prop)(Q:Exit->Act->World->Prop):Result Next->Prop
 |.ok (.value v) w'=>next (a.put o.dst v) w'
 |.ok .skip w'=>next (a.put o.dst undef) w'
 |.ok (.enter f args) w'=>lb P f args w' fun
   |.returned v,zJ=>next (a.put o.dst v) zJ
   |_,_=>False
 |.ok (.round l f tmps assign body) w'=>qY P l f tmps assign body w' fun
   |.returned v,zJ=>next (a.put o.dst v) zJ
   |_,_=>False
 |_=>False
def _root_.Go.Oper.dE(cE:Option Nat)(P:Program)(o:Oper)(a:Act)(w:World)(next:Act->World->Prop)(Q:Exit->Act->World->Prop):Prop:=
 o.wP P a next Q ((o.semAt cE a.eval).run P w)
def _root_.Go.Code.dE(cE:Option Nat)(P:Program)(c:Code)(Q:Exit->Act->World->Prop)(a:Act)(w:World):Prop:=
 ∀(T:Frame->List Frame->World->Prop)(b:Frame)(k:List Item)(cs:List Frame),b.roundOf=cE->b.kind=.normal->(b.roundOf=none->¬nO P b.fn)->(∀e a' w',Q e a' w'->pz P T b k cs e a' w')->Way P T (b.atR a (.code c::k)) cs w
section
variable{cE:Option Nat}{o:Oper}{a:Act}{next next':Act->World->Prop}{Q lB:Exit->Act->World->Prop}{c:Code}
theorem k8(h:c.dE cE P Q a w)(aH:∀e a w,Q e a w->lB e a w):c.dE cE P lB a w:=λT b k cs U ab hb al=>h T b k cs U ab hb λe a' w' bq=>al e a' w' (aH _ _ _ bq)
theorem Oper.k8(aI:∀a w,next a w->next' a w)(h:o.dE cE P a w next Q):o.dE cE P a w next' Q:=by
 unfold Oper.dE at *;generalize(o.semAt cE a.eval).run P w=r at *;cases r with
 |ok x w'=>
  cases x<;>simp only[Oper.wP]at h⊢ <;>
   first
    |exact aI _ _ h
    |exact lb.mono h (λe zJ he=>by grind)
    |grind [qY.mono]
 |halt x w'=>assumption
variable{b:Frame}{k:List Item}{ops:Array Oper}
theorem adR{x y:Code}:stepG P true (G (b.atR a (.code (.seq x y)::k)) cs) w=.go (G (b.atR a (.code x::.code y::k)) cs) w:=by rfl
theorem acr:stepG P true (G (b.atR a (.code .skip::k)) cs) w=.go (G (b.atR a k) cs) w:=by rfl
theorem af5{l:Nat}:stepG P true (G (b.atR a (.code (.label l)::k)) cs) w=.go (G (b.atR a k) cs) w:=by simp[G,stepG,stepG.exec,Frame.atR]
theorem af6{c:Code}:stepG P true (G (b.atR a (.code (.scope c)::k)) cs) w=.go (G (b.atR a (.code c::.inScope c::k)) cs) w:=by simp[G,stepG,stepG.exec,Frame.atR]
theorem aeJ{c:Code}:stepG P true (G (b.atR a (.inScope c::k)) cs) w=.go (G (b.atR a k) cs) w:=by simp[G,stepG,stepG.exec,Frame.atR]
theorem XP{id:Nat}:stepG P true (G (b.atR a (.inBlock id::k)) cs) w=.go (G (b.atR a k) cs) w:=by rfl
theorem aaM{id:Nat}{c:Code}:stepG P true (G (b.atR a (.code (.block id c)::k)) cs) w=.go (G (b.atR a (.code c::.inBlock id::k)) cs) w:=by rfl
theorem acs{c:Code}:stepG P true (G (b.atR a (.code (.loop c)::k)) cs) w=.go (G (b.atR a (.code c::.inLoop c::k)) cs) w:=by rfl
theorem Zc{c:Code}:stepG P true (G (b.atR a (.inLoop c::k)) cs) w=.go (G (b.atR a (.code c::.inLoop c::k)) cs) w:=by rfl
theorem acu{id:Nat}{bB:List Item}(h:exitTo id k=some bB):stepG P true (G (b.atR a (.code (.exit id)::k)) cs) w=.go (G (b.atR a bB) cs) w:=by simp[G,stepG,stepG.exec,Frame.atR,h]
theorem acv{c:Operand}{x y:Code}{t:Bool}(h:a.eval c=.bool t):stepG P true (G (b.atR a (.code (.cond c x y)::k)) cs) w=.go (G (b.atR a (.code (if t then x else y)::k)) cs) w:=by
 have:=congrFun (Frame.eval_atR b a (.code (.cond c x y)::k)) c;grind [Frame.atR,G,stepG,stepG.exec]
theorem Zd{id:Nat}:stepG P true (G (b.atR a (.code (.region id ops false)::k)) cs) w=.go (G (b.atR a (.inRegion ops (List.range ops.size)::k)) cs) w:=by rfl
theorem VF{id:Nat}:stepG P true (G (b.atR a (.code (.region id ops true)::k)) cs) w =
  .go (G (b.atR a (.inRegion ops (Region.schedule (P.follows .mixedOrders) ops (w.tape w.drawn (.order b.fn id)))::k)) cs) { w with drawn:=w.drawn+1 }:=by
 simp_all[G,stepG,stepG.exec,Frame.atR,Question.forced,Question.cut]
theorem VX:stepG P true (G (b.atR a (.inRegion ops []::k)) cs) w=.go (G (b.atR a k) cs) w:=by rfl
theorem Nw{i:Nat}{rest:List Nat}(h:((ops[i]?).map (Region.wanted · (yielded ops a.tmps))).getD false=false):
  stepG P true (G (b.atR a (.inRegion ops (i::rest)::k)) cs) w=.go (G (b.atR (a.put ((ops[i]?).bind (·.dst)) undef) (.inRegion ops rest::k)) cs) w:=by
 grind [Frame.finish_atR,Frame.atR,G,stepG,stepG.exec]
theorem afa{i:Nat}{rest:List Nat}{o:Oper}(ar:ops[i]?=some o)(hw:Region.wanted o (yielded ops a.tmps)=true):
  stepG P true (G (b.atR a (.inRegion ops (i::rest)::k)) cs) w=stepG.apply P true (b.atR a (.inRegion ops (i::rest)::k)) cs none (o.semAt b.roundOf a.eval) w:=stepGR_op ar hw
theorem adS(hb:b.roundOf=none):stepG P true (G (b.atR a (.code .ret::k)) cs) w=.go (G { b.atR a (.code .ret::k)with mode:=.returning } cs) w:=by simp[G,stepG,stepG.exec,Frame.atR,hb]
theorem adT(hb:b.roundOf=none):stepG P true (G (b.atR a []) cs) w=.go (G { b.atR a []with mode:=.returning } cs) w:=by simp[G,stepG,stepG.exec,Frame.atR,hb]
theorem ZZ(h:Q .normal a w):Code.skip.dE cE P Q a w:=λT b k cs _ _ hb aq=>.pure (λ_=>acr) (jk hb) (aq _ _ _ h)
theorem aeP{l:Nat}(h:Q .normal a w):(Code.label l).dE cE P Q a w:=λT b k cs _ _ hb aq=>.pure (λ_=>af5) (jk hb) (aq _ _ _ h)
theorem ae3(h:c.dE cE P Q a w):(Code.scope c).dE cE P Q a w:=λT b k cs U ab hb aq=>by
 refine .pure (λ_=>af6) (jk hb) (h T b (.inScope c::k) cs U ab hb λe a' w' aH=>?_);cases e with
 |normal=>exact .pure (λ_=>aeJ) (jk hb) (aq _ _ _ aH)
 |exit id=>
  have:=aq _ _ _ aH;simp only[pz]at this⊢;exact this
 |ret=>exact aq _ _ _ aH
 |_=>trivial
theorem P5(h:Q .ret a w):Code.ret.dE cE P Q a w:=λT b k cs _ _ _ aq=>aq _ _ _ h k
theorem OZ{id:Nat}(h:Q (.exit id) a w):(Code.exit id).dE cE P Q a w:=λT b k cs _ _ hb aq=>by
 have:=aq _ _ _ h;simp only[pz]at this;split at this
 ·rename_i bB gx;exact .pure (λ_=>acu gx) (jk hb) this
 grind
theorem abx{x y:Code}(h:x.dE cE P (Exit.then (y.dE cE P Q) Q) a w):(Code.seq x y).dE cE P Q a w:=λT b k cs U ab hb aq=>by
 refine .pure (λ_=>adR) (jk hb) (h T b (.code y::k) cs U ab hb λe a' w' aH=>?_);cases e with
 |normal=>exact aH T b k cs U ab hb aq
 |exit id=>exact pz.pass rfl (by simp) (aq _ _ _ aH)
 |ret=>exact pz.pass rfl (by simp) (aq _ _ _ aH)
 |_=>trivial
theorem Z1{x y:Code}{t:Bool}{c:Operand}(ah:a.eval c=.bool t)(h:(if t then x else y).dE cE P Q a w):(Code.cond c x y).dE cE P Q a w:=λT b k cs U ab hb aq=>
 .pure (λ_=>acv ah) (jk hb) (h T b k cs U ab hb aq)
theorem YA{id:Nat}(h:c.dE cE P (Exit.inBlock id Q) a w):(Code.block id c).dE cE P Q a w:=λT b k cs U ab hb aq=>by
 refine .pure (λ_=>aaM) (jk hb) (h T b (.inBlock id::k) cs U ab hb λe a' w' aH=>?_);cases e with
 |normal=>exact .pure (λ_=>XP) (jk hb) (aq _ _ _ aH)
 |exit eG=>grind [Exit.inBlock,pz,exitTo]
 |ret=>exact aq _ _ _ aH
 |_=>trivial
theorem Z4(I:Act->World->Prop)(μ:Act->World->Nat)(ajt:I a w)
  (round:∀a w,I a w->c.dE cE P (Exit.then (λa' w'=>I a' w'/\μ a' w'<μ a w) Q) a w):(Code.loop c).dE cE P Q a w:=by
 intro T b k cs U ab hb aq;have key:∀j a w,μ a w=j->I a w->Way P T (b.atR a (.code c::.inLoop c::k)) cs w:=by
  intro j;induction j using Nat.strongRecOn with
  |_ j az=>
   intro a w aI iM;refine round a w iM T b (.inLoop c::k) cs U ab hb λe a' w' aH=>?_;cases e with
   |normal=>exact .pure (λ_=>Zc) (jk hb) (az _ (aI▸aH.2) a' w' rfl aH.1)
   |exit id=>exact pz.pass rfl (by simp) (aq _ _ _ aH)
   |ret=>exact pz.pass rfl (by simp) (aq _ _ _ aH)
   |_=>trivial
 exact .pure (λ_=>acs) (jk hb) (key _ a w rfl ajt)
theorem aaN{i:Nat}{rest:List Nat}(ar:ops[i]?=some o)(hw:Region.wanted o (yielded ops a.tmps)=true)(aq:b.kind=.normal)(ad:b.roundOf=cE)(hb:b.roundOf=none->¬nO P b.fn)
  (h:∀τ d,o.dE cE P a (a8 w τ d) (λa' w'=>Way P T (b.atR a' (.inRegion ops rest::k)) cs w') Q):Way P T (b.atR a (.inRegion ops (i::rest)::k)) cs w:=by
 refine .mk (jk hb) λτ d=>?_;have h:=h τ d;have iJ:∀v,(b.atR a (.inRegion ops (i::rest)::k)).finish v=b.atR (a.put o.dst v) (.inRegion ops rest::k):=by grind [Frame.finish_atR]
 rw[afa ar hw];unfold Oper.dE at h;rw[ad];obtain⟨nn,SN,SO,Tz,SP,akJ,RA⟩:=b;subst aq;cases aB:(o.semAt cE a.eval).run P (a8 w τ d)with
 |ok x w'=>
  rw[aB]at h;cases x<;>simp only[Oper.wP]at h<;>try (exact h.elim)
  case value v=>
   refine⟨_,_,_,seen P nn ((o.semAt cE a.eval).events P (a8 w τ d) #[]),?_,.inl rfl,h⟩;simp_all[stepG.apply,G,Frame.atR,GStep.after]
  case skip=>
   refine⟨_,_,_,seen P nn ((o.semAt cE a.eval).events P (a8 w τ d) #[]),?_,.inl rfl,h⟩;simp_all[stepG.apply,G,Frame.atR,GStep.after]
  case enter f args=>
   refine⟨_,_,_,seen P nn ((o.semAt cE a.eval).events P (a8 w τ d) #[]),?_,?_,h T (Frame.atR { fn:=nn,tmps:=SN,todo:=SO,defers:=Tz,mode:=SP,kind:=.normal,roundOf:=RA } a (.inRegion ops (i::rest)::k)) cs (.inl rfl) λv zJ ai=>?_⟩;all_goals simp_all[stepG.apply,G,Frame.atR,GStep.after,Hk]
  case round l f tmps assign body=>
   refine⟨_,_,_,seen P nn ((o.semAt cE a.eval).events P (a8 w τ d) #[]),?_,?_,h T (Frame.atR { fn:=nn,tmps:=SN,todo:=SO,defers:=Tz,mode:=SP,kind:=.normal,roundOf:=RA } a (.inRegion ops (i::rest)::k)) cs (.inl rfl) λv zJ ai=>?_⟩
   ·simp[stepG.apply,aB,G,Frame.atR,GStep.after]
   ·first|exact Hk .. | exact .inl rfl
   grind
 |halt x w'=>rw[aB]at h;trivial
def nQ(cE:Option Nat)(P:Program)(ops:Array Oper)(Q:Exit->Act->World->Prop):List Nat->Act->World->Prop
 |[],a,w=>Q .normal a w
 |i::rest,a,w=>
  match ops[i]? with
  |none=>nQ cE P ops Q rest a w
  |some o=>
   if Region.wanted o (yielded ops a.tmps)then ∀τ d,o.dE cE P a (a8 w τ d) (nQ cE P ops Q rest) Q
   else nQ cE P ops Q rest (a.put o.dst undef) w
theorem QD(l:List Nat):∀(a:Act)(w:World),nQ cE P ops Q l a w->b.roundOf=cE->b.kind=.normal->(b.roundOf=none->¬nO P b.fn)->(∀e a' w',Q e a' w'->pz P T b k cs e a' w')->Way P T (b.atR a (.inRegion ops l::k)) cs w:=by
 induction l with
 |nil=>exact λa w h _ _ hb aq=>.pure (λ_=>VX) (jk hb) (aq _ _ _ h)
 |cons i rest az=>
  intro a w h U ab hb aq;simp only[nQ]at h;cases ar:ops[i]? with
  |none=>
   simp only[ar]at h;have ao:∀w,stepG P true (G (b.atR a (.inRegion ops (i::rest)::k)) cs) w=.go (G (b.atR a (.inRegion ops rest::k)) cs) w #[]:=λw=>by grind [Nw,Act.put]
   exact .pure ao (jk hb) (az a w h U ab hb aq)
  |some o=>
   simp only[ar]at h;by_cases hw:Region.wanted o (yielded ops a.tmps)=true
   ·rw[if_pos hw]at h;exact aaN (Q:=Q) ar hw ab U hb λτ d=>Oper.k8 (λa' w' bq=>az a' w' bq U ab hb aq) (h τ d)
   ·rw[if_neg hw]at h;have ao:∀w,stepG P true (G (b.atR a (.inRegion ops (i::rest)::k)) cs) w=.go (G (b.atR (a.put o.dst undef) (.inRegion ops rest::k)) cs) w #[]:=λw=>by grind [Nw]
    exact .pure ao (jk hb) (az _ w h U ab hb aq)
theorem Xr{id:Nat}(h:nQ cE P ops Q (List.range ops.size) a w):(Code.region id ops false).dE cE P Q a w:=λT b k cs U ab hb aq=>
 .pure (λ_=>Zd) (jk hb) (QD _ a w h U ab hb aq)
theorem VC{id:Nat}(h:∀t,nQ cE P ops Q (Region.schedule (P.follows .mixedOrders) ops t) a w):(Code.region id ops true).dE cE P Q a w:=λT b k cs U ab hb aq=>
 .mk (jk hb) λτ d=>⟨_,_,_,_,VF,.inl rfl,(QD _ a w (h _) U ab hb aq).a8 _ _⟩
end
end
end
section
open Go Go.RowKit Go.Conc
section
variable[cQ]{P:Program}{T:Frame->List Frame->World->Prop}{fr hz:Frame}{cs cs':List Frame}{w w':World}
variable{cE:Option Nat}{o:Oper}{a:Act}{next next':Act->World->Prop}{Q lB:Exit->Act->World->Prop}{c:Code}{b:Frame}{k:List Item}{ops:Array Oper}
def mr(cE:Option Nat)(P:Program)(ops:Array Oper)(Q:Exit->Act->World->Prop)(i:Nat)(K:Act->World->Prop)(a:Act)(w:World):Prop:=
 match ops[i]? with
 |none=>K a w
 |some o=>if Region.wanted o (yielded ops a.tmps)then ∀τ d,o.dE cE P a (a8 w τ d) K Q else K (a.put o.dst undef) w
theorem WV(i:Nat)(rest:List Nat)(a:Act)(w:World):nQ cE P ops Q (i::rest) a w=mr cE P ops Q i (nQ cE P ops Q rest) a w:=by rfl
theorem Nn{i:Nat}{K fy:Act->World->Prop}(h:∀a w,K a w->fy a w)(bq:mr cE P ops Q i K a w):mr cE P ops Q i fy a w:=by grind [mr,Oper.k8]
def nR(cE:Option Nat)(P:Program)(ops:Array Oper)(Q:Exit->Act->World->Prop):Nat->Array Bool->Act->World->Prop
 |0,listed,a,w=>Region.ready .any ops listed=[]/\Q .normal a w
 |fuel+1,listed,a,w=>(Region.ready .any ops listed=[]->Q .normal a w)/\∀i∈Region.ready .any ops listed,mr cE P ops Q i (nR cE P ops Q fuel (listed.setIfInBounds i true)) a w
theorem aaO{i:Nat}{K:Act->World->Prop}(eP:∀a w τ d,K a w->K a (a8 w τ d)){a:Act}{w:World}(h:mr cE P ops Q i K a w)(τ:Tape)(d:Nat):mr cE P ops Q i K a (a8 w τ d):=by
 unfold mr at *;split
 ·grind
 ·rename_i o ar;split;all_goals simp_all
theorem Oc(gI:∀a w τ d,Q .normal a w->Q .normal a (a8 w τ d)):∀(fuel:Nat)(listed:Array Bool)(a:Act)(w:World)(τ:Tape)(d:Nat),nR cE P ops Q fuel listed a w->nR cE P ops Q fuel listed a (a8 w τ d)
 |0,listed,a,w,τ,d,h=>⟨h.1,gI _ _ _ _ h.2⟩
 |fuel+1,listed,a,w,τ,d,h=>⟨λe=>gI _ _ _ _ (h.1 e),λi aX=>aaO (λa w τ d aq=>Oc gI fuel _ a w τ d aq) (h.2 i aX) τ d⟩
theorem MC:∀(fuel t:Nat)(listed:Array Bool)(a:Act)(w:World),nR cE P ops Q fuel listed a w->nQ cE P ops Q (Region.linearise.go .any ops fuel t listed []) a w
 |0,t,listed,a,w,h=>by simpa[Region.linearise.go,nQ]using h.2
 |fuel+1,t,listed,a,w,h=>by
  change nQ cE P ops Q (match(Region.ready .any ops listed)[t%(Region.ready .any ops listed).length]? with
   |some i=>Region.linearise.go .any ops fuel (t/(Region.ready .any ops listed).length) (listed.setIfInBounds i true) [i]
   |none=>[].reverse) a w
  cases aX:(Region.ready .any ops listed)[t%(Region.ready .any ops listed).length]? with
  |none=>
   have fK:Region.ready .any ops listed=[]:=by grind [List.length_eq_zero_iff,Nat.mod_lt]
   exact h.1 fK
  |some i=>
   simp only[];rw[linearise_go_acc,List.reverse_singleton,List.singleton_append,WV];exact Nn (λa w=>MC fuel _ _ a w) (h.2 i (List.mem_of_getElem? aX))
theorem Mj{id:Nat}(hm:P.follows .mixedOrders=true)(h:nR cE P ops Q ops.size (Array.replicate ops.size false) a w):(Code.region id ops true).dE cE P Q a w:=
 VC λt=>by
  simp[Region.schedule,hm,if_true];exact MC ops.size t _ a _ h
def yC(P:Program)(fn:Func)(tmps:Array Value)(R:Ending->World->Prop):List Deferred->World->Prop
 |[],w=>∀τ d,∃v w',(results fn tmps).run P (a8 w τ d)=.ok v w'/\R (.returned v) w'
 |e::ds,w=>∃r,e.target=.collected r/\∀τ d,∃w',(Instr.takeDeferred r).run P (a8 w τ d)=.ok [] w'/\yC P fn tmps R ds w'
theorem Hl{fn:Func}{R:Ending->World->Prop}{c:Frame}:∀(ds:List Deferred)(fr:Frame)(w:World),fr.mode=.returning->fr.defers=ds->fr.kind=.normal->P.funcs[fr.fn]?=some fn->calm c->yC P fn fr.tmps R ds w ->
  (∀v w',R (.returned v) w'->Way P T (c.finish v) cs w')->Way P T fr (c::cs) w
 |[],fr,w,hm,aV,aq,aQ,ah,h,aH=>.Cq (MW hm) λτ d=>by
  obtain⟨v,w',ad,cn⟩:=h τ d;exact⟨_,_,_,by simp_all[G,stepG,unwind,doReturn],MV ah v,aH v w' cn⟩
 |⟨t,as⟩::ds,fr,w,hm,aV,aq,aQ,ah,⟨r,a1,h⟩,aH=>.Cq (MW hm) λτ d=>by
  obtain⟨w',ad,dg⟩:=h τ d;exact⟨{ fr with defers:=[]++ds },c::cs,w',by simp_all[G,stepG,unwind],.inr hm,Hl ds _ w' hm rfl aq aQ ah dg aH⟩
def Ze(P:Program)(fn:Func)(R:Ending->World->Prop):Exit->Act->World->Prop
 |.normal,a,w | .ret,a,w=>yC P fn a.tmps R a.defers w
 |_,_,_=>False
theorem Vw{f:FuncId}{fn:Func}{c:Code}{args:Array Value}{R:Ending->World->Prop}(aQ:P.funcs[f]?=some fn)(hb:fn.body=some c)(ao:jU P c=false)
  (h:c.dE none P (Ze P fn R) { tmps:=args++Array.replicate (fn.ntmps-args.size) undef,defers:=[] } w):lb P f args w R:=by
 intro T cO cs ah aH;let b:Frame:={ (default:Frame)with fn:=f,kind:=.normal,roundOf:=none };have adU:Frame.enter P f args .normal=b.atR { tmps:=args++Array.replicate (fn.ntmps-args.size) undef,defers:=[] } [.code c]:=by grind [Frame.enter,Frame.atR]
 rw[adU];have fM:¬nO P f:=by
  rintro⟨cC,c',aK,aO,bS⟩;grind
 refine h T b [] (cO::cs) rfl rfl (λ_=>fM) λe a' w' bq=>?_;cases e with
 |normal=>exact .pure (λ_=>adT rfl) (jk λ_=>fM) (Hl a'.defers _ w' rfl rfl rfl aQ ah bq aH)
 |ret=>exact λtodo=>.pure (λ_=>adS rfl) (jk λ_=>fM) (Hl a'.defers _ w' rfl rfl rfl aQ ah bq aH)
 |_=>trivial
theorem VY{l:Nat}{w':World}(hb:b.roundOf=some l)(aq:b.kind=.normal)(ad:(Instr.beginRound l).run P w=.ok () w'):
  ∃es,stepG P true (G (b.atR a (.beginRound::k)) cs) w=.go (G (b.atR a k) cs) w' es:=
 bare_go (by simp_all[G,stepG,stepG.exec,stepG.apply,Frame.atR,Frame.finish])
def XQ(P:Program)(l:Nat)(R:Ending->World->Prop):Exit->Act->World->Prop
 |.normal,_,w=>∀τ d,∃v w',(Instr.endRound l none).run P (a8 w τ d)=.ok v w'/\R (.returned v) w'
 |.ret,_,w=>∀τ d,∃v w',(Instr.endRound l (some .ret)).run P (a8 w τ d)=.ok v w'/\R (.returned v) w'
 |.exit id,_,w=>∀τ d,∃v w',(Instr.endRound l (some (.exit id))).run P (a8 w τ d)=.ok v w'/\R (.returned v) w'
 |_,_,_=>False
theorem VP{l:Nat}{f:FuncId}{tmps:Array Value}{assign body:Code}{R:Ending->World->Prop}
  (h:assign.dE (some l) P (Exit.then (λaju fB=>∀τ d,∃vI,(Instr.beginRound l).run P (a8 fB τ d)=.ok () vI/\body.dE (some l) P (XQ P l R) aju vI) (λ_ _ _=>False)) { tmps:=tmps,defers:=[] } w):qY P l f tmps assign body w R:=by
 intro T cO cs ah aH;let b:Frame:={ (default:Frame)with fn:=f,kind:=.normal,roundOf:=some l };have ix:Frame.round l f tmps assign body .normal=b.atR { tmps:=tmps,defers:=[] } [.code assign,.beginRound,.code body]:=by rfl
 have fM:b.roundOf=none->¬nO P b.fn:=λh=>by cases h
 refine h T b [.beginRound,.code body] (cO::cs) rfl rfl fM λe a' w' bq=>?_;cases e with
 |normal=>
  refine .mk (jk fM) λτ d=>?_;obtain⟨w2,U,ab⟩:=bq τ d;obtain⟨es,he⟩:=VY (P:=P) (b:=b) (a:=a') (k:=[.code body]) (cs:=cO::cs) (l:=l) rfl rfl U;refine⟨_,_,_,_,he,.inl rfl,ab T b [] (cO::cs) rfl rfl fM λaO a2 w3 xI=>?_⟩;have il:∀(fr:Frame)(jump:Option Code),(∀w,stepG P true (G fr (cO::cs)) w=GStep.after (seen P fr.fn ((Instr.endRound l jump).runT P w #[]).2) (match((Instr.endRound l jump).runT P w #[]).1 with | .ok v w=>doReturn P true fr (cO::cs) none v w | .halt _ w=>.ended (.stuck "range over a function: no such loop" (fr.pos P)) w))->fr.kind=.normal->qT P fr ->
    (∀τ d,∃v w',(Instr.endRound l jump).run P (a8 w3 τ d)=.ok v w'/\R (.returned v) w')->Way P T fr (cO::cs) w3:=by
   intro fr jump ao aq he ad;refine .Cq he λτ d=>?_;obtain⟨v,w',g1,g2⟩:=ad τ d;refine⟨_,_,_,?_,MV ah v,aH v w' g2⟩;simp_all[doReturn,G]
  cases aO with
  |normal=>exact il _ none (λw=>by rfl) rfl (jk fM) xI
  |ret=>exact λtodo=>il _ (some .ret) (λw=>by rfl) rfl (jk fM) xI
  |exit id=>exact λtodo a1=>il _ (some (.exit id)) (λw=>by grind [G,stepG,stepG.exec,Frame.atR]) rfl (jk fM) xI
  |_=>trivial
 |_=>trivial
def XR(cE:Option Nat)(P:Program)(l:Nat)(Q:Exit->Act->World->Prop)(a':Act):Ending->World->Prop
 |.returned _,U8=>∀τ d,∃jump Gy,(Instr.endLoop l).run P (a8 U8 τ d)=.ok jump Gy /\
   (match jump with
    |none=>Q .normal a' Gy
    |some c=>c.dE cE P Q a' Gy)
 |_,_=>False
theorem VR{g:Operand}{a7:Array Tmp}{assign body:Code}
  (h:∀fn τ e,∃(l:Nat)(mark:List Deferred)(fB:World)(d:Deferred)(UB:World)(f:FuncId)(args:Array Value)(vI:World),
   (Instr.enterLoop fn a.tmps a7 assign body cE).run P (a8 w τ e)=.ok (l,mark) fB/\(resolve a.eval (rangeCall g l) 0).run P fB=.ok d UB/\(invoke d.target d.args).run P UB=.ok (.enter f args) vI /\
   lb P f args vI (XR cE P l Q { a with defers:=mark++a.defers })):(Code.rangeFunc g a7 assign body).dE cE P Q a w:=by
 intro T b k cs U ab hb aq;refine .Cq (jk hb) λτ e=>?_;obtain⟨l,mark,w1,d,aiE,f,args,w2,he,gO,hinv,Bd⟩:=h b.fn τ e;have fR:=Frame.eval_atR b { a with defers:=mark++a.defers } (.inRangeFunc l::k);have akK:Sem.run P (resolve ({ tmps:=a.tmps,defers:=mark++a.defers }:Act).eval { callee:=.value g,args:=#[.const (.func (.yield l) #[] #[])],argTypes:=#[] } 0) w1=.ok d aiE:=gO;refine⟨Frame.enter P f args .normal,b.atR { a with defers:=mark++a.defers } (.inRangeFunc l::k)::cs,w2,?_,Hk ..,?_⟩
 ·simp_all[G,stepG,stepG.exec,Frame.atR,stepG.apply]
 ·refine Bd T _ cs (.inl rfl) λv w3 ae=>?_;rw[finish_atR_inRangeFunc];refine .Cq (jk hb) λτ d=>?_;obtain⟨jump,w4,il,aC⟩:=ae τ d;refine⟨b.atR { a with defers:=mark++a.defers } ((jump.map Item.code).toList++k),cs,w4,?_,.inl rfl,?_⟩
  ·simp_all[G,stepG,stepG.exec,Frame.atR]
  ·cases jump with
   |none=>exact aq _ _ _ aC
   |some c=>exact aC T b k cs U ab hb aq
end
end
end Go.Proofs.YtlminnpaeaganaaGreat
