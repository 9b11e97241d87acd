/- Part of the proof of TopTwins. No condition. -/
import Derived.WalkKit
import Derived.CallsIn
import Derived.Still
import Derived.Maps.RangeRun
import Derived.Maps.Keyed
import Derived.DeepKeys4
import Derived.RangeFuncIn
import Derived.RangeFuncRecord
import Derived.OrdersIn
import Derived.Conc.Own
namespace Go.Proofs.Ytjfejoadcdoobaa
set_option maxRecDepth 100000
set_option linter.all false
section
open Go Go.RowKit
inductive MK where
 |set
 |wlk
 |tab (sc:Bool)
 |sit
 deriving DecidableEq,Inhabited
inductive PV where
 |int (k:IntKind) (n:Int)
 |bool (b:Bool)
 |str (s:ByteArray)
 |undef
 |bad
 |nilp
 |nilfn
 |snil
 |dead (len:Nat)
 |yld (l:Nat)
 |ptr (id off:Nat)
 |hd (id sz len:Nat)
 |sl (id:Option Nat) (sz off len:Nat) (cs:List PV)
 |eref (id:Option Nat) (off:Nat) (cs:List PV)
 |fn (f:FuncId) (caps:List PV)
 |agg (cs:List PV)
 |tup (vs:List PV)
 |mp (it:MK) (id:Option Nat) (sz:Nat) (cs:List PV)
 deriving Inhabited
inductive Eff where
 |wr (id p:Nat) (v:PV)
 |kill (id:Nat)
def Eff.id:Eff->Nat
 |.wr i _ _=>i
 |.kill i=>i
def MK.wrOf:MK->PV->Option (List PV)
 |.tab sc,.tup [.bool b,.agg cs]=>if b=sc then some cs else none
 |.tab _,_=>none
 |_,.agg cs=>some cs
 |_,_=>none
def MK.wrV:MK->List PV->PV
 |.tab sc,cs=>.tup [.bool sc,.agg cs]
 |_,cs=>.agg cs
theorem MK.wrOf_v(it:MK)(cs:List PV):it.wrOf (it.wrV cs)=some cs:=by cases it<;>simp[MK.wrOf,MK.wrV]
def MK.isTab:MK->Bool
 |.tab _=>true
 |_=>false
theorem MK.wrOf_kind{it it0:MK}{cs cs':List PV}(h:it.wrOf (it0.wrV cs)=some cs'):cs'=cs/\(it.isTab=it0.isTab)/\∀sc,it=.tab sc->it0=.tab sc:=by
 cases it<;>cases it0<;>simp[MK.wrOf,MK.wrV,MK.isTab]at h⊢;all_goals first|exact h.symm|exact⟨h.2.symm,h.1.symm⟩|exact⟨h.2.symm,h.1⟩
def setAt(cs:List PV)(off p:Nat)(v:PV):List PV:=if off<=p then cs.set (p-off) v else cs
mutual
def PV.sub1(e:Eff):PV->PV
 |.sl (some i) sz off len cs=>match e with
  |.kill j=>if i=j then .dead len else .sl (some i) sz off len (subL1 e cs)
  |.wr j p v=>if i=j then .sl (some i) sz off len (setAt (subL1 e cs) off p v)else .sl (some i) sz off len (subL1 e cs)
 |.sl none sz off len cs=>.sl none sz off len (subL1 e cs)
 |.eref (some i) off cs=>match e with
  |.kill j=>if i=j then .bad else .eref (some i) off (subL1 e cs)
  |.wr j p v=>if i=j then .eref (some i) off (setAt (subL1 e cs) off p v)else .eref (some i) off (subL1 e cs)
 |.eref none off cs=>.eref none off (subL1 e cs)
 |.fn f caps=>.fn f (subL1 e caps)
 |.agg cs=>.agg (subL1 e cs)
 |.tup cs=>.tup (subL1 e cs)
 |.int k n=>.int k n
 |.bool b=>.bool b
 |.str s=>.str s
 |.undef=>.undef
 |.bad=>.bad
 |.nilp=>.nilp
 |.nilfn=>.nilfn
 |.snil=>.snil
 |.dead n=>.dead n
 |.yld k=>.yld k
 |.ptr i o=>.ptr i o
 |.hd i o z=>.hd i o z
 |.mp it none sz cs=>.mp it none sz cs
 |.mp it (some i) sz cs=>match e with
  |.kill j=>if i=j then .bad else .mp it (some i) sz cs
  |.wr j p v=>if i=j then(match it.wrOf v with
   |some cs'=>if p=sz then .mp it (some i) sz cs' else .bad
   |none=>.bad)else .mp it (some i) sz cs
def subL1(e:Eff):List PV->List PV
 |[]=>[]
 |p::ps=>p.sub1 e::subL1 e ps
end
theorem subL1_eq(e:Eff)(l:List PV):subL1 e l=l.map (PV.sub1 e):=by
 induction l with
 |nil=>rfl
 |cons p ps ih=>simp[subL1,ih]
def PV.sub:List Eff->PV->PV
 |[],p=>p
 |e::es,p=>PV.sub es (p.sub1 e)
@[simp]theorem PV.sub_nil(p:PV):PV.sub [] p=p:=rfl
theorem PV.sub_append(a b:List Eff)(p:PV):PV.sub (a++b) p=PV.sub b (PV.sub a p):=by
 induction a generalizing p with
 |nil=>rfl
 |cons e es ih=>exact ih _
mutual
def PV.bd(n an:Nat):PV->Prop
 |.ptr i _=>i<n
 |.hd i _ _=>i<n
 |.sl (some i) _ _ _ cs=>i<an/\bdL n an cs
 |.sl none _ _ _ cs=>bdL n an cs
 |.eref (some i) _ cs=>i<an/\bdL n an cs
 |.eref none _ cs=>bdL n an cs
 |.fn _ cs | .agg cs | .tup cs=>bdL n an cs
 |.mp _ (some i) _ _=>i<an
 |.mp _ none _ _=>True
 |.int _ _ | .bool _ | .str _ | .undef | .bad | .nilp | .nilfn | .snil | .dead _ | .yld _=>True
def bdL(n an:Nat):List PV->Prop
 |[]=>True
 |p::ps=>p.bd n an/\bdL n an ps
end
theorem bdL_iff(n an:Nat)(l:List PV):bdL n an l↔∀p∈l,p.bd n an:=by
 induction l with
 |nil=>simp[bdL]
 |cons p ps ih=>simp[bdL,ih]
mutual
def PV.cutb(n:Nat):PV->PV
 |.ptr i o=>if i<n then .ptr i o else .bad
 |.hd i o z=>if i<n then .hd i o z else .bad
 |.sl id sz off len cs=>.sl id sz off len (cutbL n cs)
 |.eref id off cs=>.eref id off (cutbL n cs)
 |.fn f cs=>.fn f (cutbL n cs)
 |.agg cs=>.agg (cutbL n cs)
 |.tup cs=>.tup (cutbL n cs)
 |.int k m=>.int k m
 |.bool b=>.bool b
 |.str s=>.str s
 |.undef=>.undef
 |.bad=>.bad
 |.nilp=>.nilp
 |.nilfn=>.nilfn
 |.snil=>.snil
 |.dead k=>.dead k
 |.yld k=>.yld k
 |.mp it id sz cs=>.mp it id sz cs
def cutbL(n:Nat):List PV->List PV
 |[]=>[]
 |p::ps=>p.cutb n::cutbL n ps
end
theorem cutbL_eq(n:Nat)(l:List PV):cutbL n l=l.map (PV.cutb n):=by
 induction l with
 |nil=>rfl
 |cons p ps ih=>simp[cutbL,ih]
structure Phi where
 box:Nat->Option Nat
 arr:Nat->Option Nat
def Phi.own(φ:Phi)(b:Nat):Prop:=(∃i,φ.box i=some b)\/(∃i,φ.arr i=some b)
def place(φ:Phi)(w:World)(id:Option Nat)(b sz off cap:Nat):Prop:=
 match id with
 |none=>¬φ.own b/\b<w.heap.size
 |some i=>φ.arr i=some b/\∃cur e,w.heap[b]?=some (.cells cur e (0,0))/\off+cap*sz<=cur.size
def fnB:Nat:=1000000
def fnG(g:FuncId):FuncId:=if g<fnB then g else g-fnB
def fnA{α:Type}(g:FuncId)(args caps:List α):List α:=if g<fnB then args++caps else caps++args
def fnV(g:FuncId)(vs:List Value):Value:=if g<fnB then .func (.func g) #[] vs.toArray else .func (.func (g-fnB)) vs.toArray #[]
theorem fnG_lt{g:FuncId}(h:g<fnB):fnG g=g:=if_pos h
theorem fnA_lt{α:Type}{g:FuncId}(h:g<fnB)(args caps:List α):fnA g args caps=args++caps:=if_pos h
theorem fnV_lt{g:FuncId}(h:g<fnB)(vs:List Value):fnV g vs=.func (.func g) #[] vs.toArray:=if_pos h
theorem fnV_add(g:FuncId)(vs:List Value):fnV (g+fnB) vs=.func (.func g) vs.toArray #[]:=by
 unfold fnV;rw[if_neg (Nat.not_lt.2 (Nat.le_add_left fnB g)),Nat.add_sub_cancel]
theorem fnV_form(g:FuncId)(vs args:List Value):∃(g':FuncId)(F C:Array Value),fnG g=g'/\fnV g vs=.func (.func g') F C/\(fnA g args vs).toArray=F++args.toArray++C:=by
 unfold fnG fnV fnA;split
 ·exact⟨g,#[],vs.toArray,rfl,rfl,by simp⟩
 ·exact⟨g-fnB,vs.toArray,#[],rfl,rfl,by simp⟩
theorem fnV_cells(g:FuncId)(vs:List Value):(fnV g vs).cells=#[fnV g vs]:=by
 unfold fnV;split<;>rfl
def mapV(it:MK)(b:Nat):Value:=match it with
 |.set | .tab _=>.map (some b)
 |.wlk | .sit=>.pointer (some ⟨b,0,none⟩)
def scal:PV->Option Value
 |.int k n=>some (.int k n)
 |.bool b=>some (.bool b)
 |_=>none
def scalL:List PV->Option (List Value)
 |[]=>some []
 |p::ps=>match scal p,scalL ps with
  |some v,some vs=>some (v::vs)
  |_,_=>none
def keyVal(cs:List PV):Option Value:=(scalL cs).map λvs=>.agg vs.toArray
def KRel(sz:Nat):List PV->List MapEntry->Prop
 |cs,[]=>cs=[]
 |cs,e::es=>∃k r,cs=k++r/\k.length=sz/\keyVal k=some e.key/\KRel sz r es
def tkey(sc:Bool)(k:List PV):Option Value:=if sc=true then(match k with
 |[p]=>scal p
 |_=>none)else keyVal k
def TRel(sc:Bool)(sz:Nat):List PV->List MapEntry->Prop
 |cs,[]=>cs=[]
 |cs,e::es=>∃k v r,cs=k++v::r/\k.length+1=sz/\tkey sc k=some e.key/\scal v=some e.val/\TRel sc sz r es
def StampOk(es:Array MapEntry)(ck:Nat):Prop:=(∀x∈es.toList,x.born<ck)/\(es.toList.map (·.born)).Nodup
def ItRel(sz:Nat)(cs:List PV)(es:Array MapEntry)(seen:Array Nat):Prop:=
 ∃lk rem,cs=lk++rem/\lk.length=sz/\KRel sz rem (leftOf es seen).toList/\((seen=#[]/\keyVal lk=none)\/∃(e:MapEntry)(s0:Array Nat),e∈es.toList/\seen=s0.push e.born/\keyVal lk=some e.key)
def mplace(φ:Phi)(_w:World)(id:Option Nat)(b:Nat):Prop:=
 match id with
 |none=>¬φ.own b
 |some i=>φ.arr i=some b
def MapAt(φ:Phi)(w:World)(it:MK)(id:Option Nat)(sz:Nat)(cs:List PV)(v:Value):Prop:=
 ∃b,v=mapV it b/\mplace φ w id b/\match it with
  |.set=>∃es ck,w.heap[b]?=some (.map es ck)/\StampOk es ck/\KRel sz cs es.toList
  |.tab sc=>∃es ck,w.heap[b]?=some (.map es ck)/\StampOk es ck/\TRel sc sz cs es.toList/\(es.toList.map (·.key)).Nodup
  |.sit=>∃s pos,w.heap[b]?=some (.stringIter s pos)/\cs=[.str s,.int .i64 (pos:Nat)]
  |.wlk=>∃bm ck seen es,w.heap[b]?=some (.mapIter (some bm) ck seen ck)/\¬φ.own bm/\w.heap[bm]?=some (.map es ck)/\StampOk es ck/\ItRel sz cs es seen
theorem heap_lt{w:World}{b:Nat}{o:Obj}(h:w.heap[b]?=some o):b<w.heap.size:=(Array.getElem?_eq_some_iff.1 h).1
theorem MapAt.move{φ φ':Phi}{w w':World}{it:MK}{id id':Option Nat}{sz:Nat}{cs:List PV}{v:Value}(h:MapAt φ w it id sz cs v)
  (hid:∀b o,mplace φ w id b->w.heap[b]?=some o->(∀cur e f,o≠.cells cur e f)->(∀l,o≠.loop l)->(∀d,o≠.deferred d)->mplace φ' w' id' b/\w'.heap[b]?=some o)
  (hr:∀b o,¬φ.own b->w.heap[b]?=some o->(∀cur e f,o≠.cells cur e f)->(∀l,o≠.loop l)->(∀d,o≠.deferred d)->¬φ'.own b/\w'.heap[b]?=some o):MapAt φ' w' it id' sz cs v:=by
 obtain⟨b,hv,hp,h⟩:=h;cases it with
 |set|tab _|sit=>
  obtain⟨es,ck,h1,h2⟩:=h;obtain⟨g1,g2⟩:=hid b _ hp h1 (by simp) (by simp) (by simp);exact⟨b,hv,g1,es,ck,g2,h2⟩
 |wlk=>
  obtain⟨bm,ck,seen,es,h1,h2,h3,h4⟩:=h;obtain⟨g1,g2⟩:=hid b _ hp h1 (by simp) (by simp) (by simp);obtain⟨k1,k2⟩:=hr bm _ h2 h3 (by simp) (by simp) (by simp);exact⟨b,hv,g1,bm,ck,seen,es,g2,k1,k2,h4⟩
mutual
def VRel(φ:Phi)(w:World):PV->Value->Prop
 |.int k n,v=>v=.int k n
 |.bool b,v=>v=.bool b
 |.str s,v=>v=.string s
 |.undef,v=>v=.tuple #[]
 |.bad,_=>True
 |.nilp,v=>v=.pointer none
 |.nilfn,v=>v=.nilFunc
 |.snil,v=>v=.slice none 0 0
 |.dead len,v=>∃a cap,v=.slice a len cap
 |.yld l,v=>v=.func (.yield l) #[] #[]
 |.ptr i o,v=>∃b,φ.box i=some b/\v=.pointer (some ⟨b,o,none⟩)
 |.hd i _ len,v=>∃b,φ.box i=some b/\∃cap,v=.slice (some ⟨b,0,none⟩) len cap/\len<=cap
 |.sl id sz off len cs,v=>cs.length=len*sz/\∃a cap,v=.slice a len cap/\len<=cap /\
   ((id=none/\len=0/\a.isSome)\/∃b,a=some ⟨b,off,none⟩/\place φ w id b sz off cap/\VRelAt φ w b cs off)
 |.eref id off cs,v=>∃b,v=.pointer (some ⟨b,off,none⟩)/\place φ w id b 0 0 0/\VRelAt φ w b cs off
 |.fn f caps,v=>∃vs:List Value,v=fnV f vs/\VRelL φ w caps vs
 |.agg cs,v=>∃vs:List Value,v=.agg vs.toArray/\VRelL φ w cs vs
 |.tup cs,v=>∃vs:List Value,v=.tuple vs.toArray/\VRelL φ w cs vs
 |.mp it id sz cs,v=>MapAt φ w it id sz cs v
def VRelL(φ:Phi)(w:World):List PV->List Value->Prop
 |[],vs=>vs=[]
 |p::ps,vs=>∃v vs',vs=v::vs'/\VRel φ w p v/\VRelL φ w ps vs'
def VRelAt(φ:Phi)(w:World)(b:Nat):List PV->Nat->Prop
 |[],_=>True
 |p::ps,off=>(∃c,w.cell? ⟨b,off,none⟩=some c/\VRel φ w p c)/\VRelAt φ w b ps (off+1)
end
theorem vrelAt_iff{φ:Phi}{w:World}{b:Nat}:∀{cs:List PV}{off:Nat},
  VRelAt φ w b cs off↔∀j p,cs[j]?=some p->∃c,w.cell? ⟨b,off+j,none⟩=some c/\VRel φ w p c
 |[],off=>by simp[VRelAt]
 |p::ps,off=>by
  rw[VRelAt,vrelAt_iff (cs:=ps)];constructor
  ·rintro⟨h0,h1⟩ j q hj;cases j with
   |zero=>simp at hj;subst hj;simpa using h0
   |succ j=>
    simp at hj;obtain⟨c,hc,hv⟩:=h1 j q hj;exact⟨c,by rw[show off+(j+1)=off+1+j by omega];exact hc,hv⟩
  ·intro h;refine⟨by simpa using h 0 p (by simp),λj q hj=>?_⟩;obtain⟨c,hc,hv⟩:=h (j+1) q (by simpa using hj);exact⟨c,by rw[show off+1+j=off+(j+1)by omega];exact hc,hv⟩
theorem vrelL_iff{φ:Phi}{w:World}:∀{ps:List PV}{vs:List Value},
  VRelL φ w ps vs↔ps.length=vs.length/\∀(j:Nat) p v,ps[j]?=some p->vs[j]?=some v->VRel φ w p v
 |[],vs=>by
  simp only[VRelL,List.length_nil];constructor
  ·rintro rfl;simp
  ·rintro⟨h,_⟩;exact List.length_eq_zero_iff.1 h.symm
 |p::ps,[]=>by simp[VRelL]
 |p::ps,v::vs=>by
  simp only[VRelL,List.cons.injEq];constructor
  ·rintro⟨v',vs',⟨rfl,rfl⟩,h0,h1⟩;rw[vrelL_iff]at h1;refine⟨by simp[h1.1],λj q u hj hu=>?_⟩;cases j with
   |zero=>simp at hj hu;subst hj;subst hu;exact h0
   |succ j=>exact h1.2 j q u (by simpa using hj) (by simpa using hu)
  ·rintro⟨hl,h⟩;refine⟨v,vs,⟨rfl,rfl⟩,h 0 p v (by simp) (by simp),vrelL_iff.2 ⟨by simpa using hl,λj q u hj hu=>h (j+1) q u (by simpa using hj) (by simpa using hu)⟩⟩
theorem vrelL_length{φ:Phi}{w:World}{ps:List PV}{vs:List Value}(h:VRelL φ w ps vs):ps.length=vs.length:=(vrelL_iff.1 h).1
theorem vrelL_get{φ:Phi}{w:World}{ps:List PV}{vs:List Value}(h:VRelL φ w ps vs){j:Nat}{p:PV}(hj:ps[j]?=some p):∃v,vs[j]?=some v/\VRel φ w p v:=by
 obtain⟨hl,hg⟩:=vrelL_iff.1 h;have hlt:j<vs.length:=by rw[←hl];exact(List.getElem?_eq_some_iff.1 hj).1
 exact⟨vs[j],by simp[hlt],hg j p _ hj (by simp[hlt])⟩
theorem vrelL_append{φ:Phi}{w:World}{ps qs:List PV}{vs us:List Value}(h:VRelL φ w ps vs)(k:VRelL φ w qs us):VRelL φ w (ps++qs) (vs++us):=by
 induction ps generalizing vs with
 |nil=>simp only[VRelL]at h;subst h;simpa using k
 |cons p ps ih=>
  obtain⟨v,vs',rfl,h0,h1⟩:=h;exact⟨v,vs'++us,rfl,h0,ih h1⟩
structure Keeps(φ:Phi)(w:World)(φ':Phi)(w':World):Prop where
 box:∀i b,φ.box i=some b->φ'.box i=some b
 arr:∀i b,φ.arr i=some b->φ'.arr i=some b
 imm:∀b,b<w.heap.size->¬φ.own b->¬φ'.own b
 size:w.heap.size<=w'.heap.size
 arrs:∀i b,φ.arr i=some b->w'.heap[b]?=w.heap[b]?
 rest:∀b,b<w.heap.size->¬φ.own b->w'.heap[b]?=w.heap[b]?
theorem cell_eq{w w':World}{b o:Nat}(h:w'.heap[b]?=w.heap[b]?):w'.cell? ⟨b,o,none⟩=w.cell? ⟨b,o,none⟩:=World.cell?_of_block (w:=w) (a:=⟨b,o,none⟩) h
theorem place_keeps{φ φ':Phi}{w w':World}(k:Keeps φ w φ' w'){id:Option Nat}{b sz off cap:Nat}(h:place φ w id b sz off cap):
  place φ' w' id b sz off cap/\w'.heap[b]?=w.heap[b]?:=by
 cases id with
 |none=>exact⟨⟨k.imm b h.2 h.1,Nat.lt_of_lt_of_le h.2 k.size⟩,k.rest b h.2 h.1⟩
 |some i=>
  obtain⟨ha,cur,e,hb,hc⟩:=h;have hs:=k.arrs i b ha;exact⟨⟨k.arr i b ha,cur,e,hs.trans hb,hc⟩,hs⟩
mutual
theorem VRel.keeps{φ φ':Phi}{w w':World}(k:Keeps φ w φ' w'):∀(p:PV)(v:Value),VRel φ w p v->VRel φ' w' p v
 |.int _ _,v,h=>by simpa only[VRel]using h
 |.bool _,v,h=>by simpa only[VRel]using h
 |.str _,v,h=>by simpa only[VRel]using h
 |.undef,v,h=>by simpa only[VRel]using h
 |.bad,v,h=>by simp only[VRel]
 |.nilp,v,h=>by simpa only[VRel]using h
 |.nilfn,v,h=>by simpa only[VRel]using h
 |.snil,v,h=>by simpa only[VRel]using h
 |.dead _,v,h | .yld _,v,h=>by simpa only[VRel]using h
 |.ptr i o,v,h=>by
  simp only[VRel]at h⊢;obtain⟨b,hb,hv⟩:=h;exact⟨b,k.box i b hb,hv⟩
 |.hd i o z,v,h=>by
  simp only[VRel]at h⊢;obtain⟨b,hb,hv⟩:=h;exact⟨b,k.box i b hb,hv⟩
 |.sl id sz off len cs,v,h=>by
  simp only[VRel]at h⊢;obtain⟨hl,a,cap,hv,hc,h⟩:=h;refine⟨hl,a,cap,hv,hc,?_⟩;rcases h with h|⟨b,ha,hp,hr⟩
  ·exact .inl h
  ·obtain⟨hp',hs⟩:=place_keeps k hp;exact .inr ⟨b,ha,hp',VRelAt.keeps k b hs cs off hr⟩
 |.eref id off cs,v,h=>by
  simp only[VRel]at h⊢;obtain⟨b,hv,hp,hr⟩:=h;obtain⟨hp',hs⟩:=place_keeps k hp;exact⟨b,hv,hp',VRelAt.keeps k b hs cs off hr⟩
 |.fn f caps,v,h=>by
  simp only[VRel]at h⊢;obtain⟨vs,hv,hr⟩:=h;exact⟨vs,hv,VRelL.keeps k caps vs hr⟩
 |.agg cs,v,h=>by
  simp only[VRel]at h⊢;obtain⟨vs,hv,hr⟩:=h;exact⟨vs,hv,VRelL.keeps k cs vs hr⟩
 |.tup cs,v,h=>by
  simp only[VRel]at h⊢;obtain⟨vs,hv,hr⟩:=h;exact⟨vs,hv,VRelL.keeps k cs vs hr⟩
 |.mp it id sz cs,v,h=>by
  simp only[VRel]at h⊢;exact h.move (λb o hp hb _ _ _=>by
   cases id with
   |none=>exact⟨k.imm b (heap_lt hb) hp,(k.rest b (heap_lt hb) hp).trans hb⟩
   |some i=>exact⟨k.arr i b hp,(k.arrs i b hp).trans hb⟩) λb o hp hb _ _ _=>⟨k.imm b (heap_lt hb) hp,(k.rest b (heap_lt hb) hp).trans hb⟩
theorem VRelL.keeps{φ φ':Phi}{w w':World}(k:Keeps φ w φ' w'):∀(ps:List PV)(vs:List Value),VRelL φ w ps vs->VRelL φ' w' ps vs
 |[],vs,h=>by simp only[VRelL]at h⊢;exact h
 |p::ps,vs,h=>by
  simp only[VRelL]at h⊢;obtain⟨v,vs',e,h0,h1⟩:=h;exact⟨v,vs',e,VRel.keeps k p v h0,VRelL.keeps k ps vs' h1⟩
theorem VRelAt.keeps{φ φ':Phi}{w w':World}(k:Keeps φ w φ' w')(b:Nat)(hb:w'.heap[b]?=w.heap[b]?):∀(ps:List PV)(off:Nat),VRelAt φ w b ps off->VRelAt φ' w' b ps off
 |[],_,_=>by simp only[VRelAt]
 |p::ps,off,h=>by
  simp only[VRelAt]at h⊢;obtain⟨⟨c,hc,h0⟩,h1⟩:=h;exact⟨⟨c,(cell_eq hb).trans hc,VRel.keeps k p c h0⟩,VRelAt.keeps k b hb ps (off+1) h1⟩
end
structure KeepsBut(j:Nat)(φ:Phi)(w:World)(φ':Phi)(w':World):Prop where
 box:∀i b,φ.box i=some b->φ'.box i=some b
 arr:∀i b,i≠j->φ.arr i=some b->φ'.arr i=some b
 imm:∀b,b<w.heap.size->¬φ.own b->¬φ'.own b
 size:w.heap.size<=w'.heap.size
 arrs:∀i b,i≠j->φ.arr i=some b->w'.heap[b]?=w.heap[b]?
 rest:∀b,b<w.heap.size->¬φ.own b->w'.heap[b]?=w.heap[b]?
theorem place_but{φ φ':Phi}{w w':World}{j:Nat}(k:KeepsBut j φ w φ' w'){id:Option Nat}(hj:id≠some j){b sz off cap:Nat}(h:place φ w id b sz off cap):
  place φ' w' id b sz off cap/\w'.heap[b]?=w.heap[b]?:=by
 cases id with
 |none=>exact⟨⟨k.imm b h.2 h.1,Nat.lt_of_lt_of_le h.2 k.size⟩,k.rest b h.2 h.1⟩
 |some i=>
  have hij:i≠j:=λe=>hj (by rw[e]);obtain⟨ha,cur,e,hb,hc⟩:=h;have hs:=k.arrs i b hij ha;exact⟨⟨k.arr i b hij ha,cur,e,hs.trans hb,hc⟩,hs⟩
theorem length_subL1(e:Eff)(cs:List PV):(subL1 e cs).length=cs.length:=by rw[subL1_eq];simp
theorem length_setAt(cs:List PV)(off p:Nat)(v:PV):(setAt cs off p v).length=cs.length:=by unfold setAt;split<;>simp
mutual
theorem VRel.kill{φ φ':Phi}{w w':World}{j:Nat}(k:KeepsBut j φ w φ' w'):∀(p:PV)(v:Value),VRel φ w p v->VRel φ' w' (p.sub1 (.kill j)) v
 |.int _ _,v,h=>by simpa only[VRel,PV.sub1]using h
 |.bool _,v,h=>by simpa only[VRel,PV.sub1]using h
 |.str _,v,h=>by simpa only[VRel,PV.sub1]using h
 |.undef,v,h=>by simpa only[VRel,PV.sub1]using h
 |.bad,v,h=>by simp only[VRel,PV.sub1]
 |.nilp,v,h=>by simpa only[VRel,PV.sub1]using h
 |.nilfn,v,h=>by simpa only[VRel,PV.sub1]using h
 |.snil,v,h=>by simpa only[VRel,PV.sub1]using h
 |.dead _,v,h | .yld _,v,h=>by simpa only[VRel,PV.sub1]using h
 |.ptr i o,v,h=>by
  simp only[VRel,PV.sub1]at h⊢;obtain⟨b,hb,hv⟩:=h;exact⟨b,k.box i b hb,hv⟩
 |.hd i o z,v,h=>by
  simp only[VRel,PV.sub1]at h⊢;obtain⟨b,hb,hv⟩:=h;exact⟨b,k.box i b hb,hv⟩
 |.sl none sz off len cs,v,h=>by
  simp only[VRel,PV.sub1,length_subL1]at h⊢;obtain⟨hl,a,cap,hv,hc,h⟩:=h;refine⟨hl,a,cap,hv,hc,?_⟩;rcases h with h|⟨b,ha,hp,hr⟩
  ·exact .inl h
  ·obtain⟨hp',hs⟩:=place_but k (by simp) hp;exact .inr ⟨b,ha,hp',VRelAt.kill k b hs cs off hr⟩
 |.sl (some i) sz off len cs,v,h=>by
  simp only[PV.sub1];split
  ·simp only[VRel]at h⊢;obtain⟨_,a,cap,hv,_,_⟩:=h;exact⟨a,cap,hv⟩
  ·rename_i hij;simp only[VRel,length_subL1]at h⊢;obtain⟨hl,a,cap,hv,hc,h⟩:=h;refine⟨hl,a,cap,hv,hc,?_⟩;rcases h with h|⟨b,ha,hp,hr⟩
   ·exact .inl h
   ·obtain⟨hp',hs⟩:=place_but k (by simpa using hij) hp;exact .inr ⟨b,ha,hp',VRelAt.kill k b hs cs off hr⟩
 |.eref none off cs,v,h=>by
  simp only[VRel,PV.sub1]at h⊢;obtain⟨b,hv,hp,hr⟩:=h;obtain⟨hp',hs⟩:=place_but k (by simp) hp;exact⟨b,hv,hp',VRelAt.kill k b hs cs off hr⟩
 |.eref (some i) off cs,v,h=>by
  simp only[PV.sub1];split
  ·simp only[VRel]
  ·rename_i hij;simp only[VRel]at h⊢;obtain⟨b,hv,hp,hr⟩:=h;obtain⟨hp',hs⟩:=place_but k (by simpa using hij) hp;exact⟨b,hv,hp',VRelAt.kill k b hs cs off hr⟩
 |.fn f caps,v,h=>by
  simp only[VRel,PV.sub1]at h⊢;obtain⟨vs,hv,hr⟩:=h;exact⟨vs,hv,VRelL.kill k caps vs hr⟩
 |.agg cs,v,h=>by
  simp only[VRel,PV.sub1]at h⊢;obtain⟨vs,hv,hr⟩:=h;exact⟨vs,hv,VRelL.kill k cs vs hr⟩
 |.tup cs,v,h=>by
  simp only[VRel,PV.sub1]at h⊢;obtain⟨vs,hv,hr⟩:=h;exact⟨vs,hv,VRelL.kill k cs vs hr⟩
 |.mp it none sz cs,v,h=>by
  simp only[VRel,PV.sub1]at h⊢;exact h.move (λb o hp hb _ _ _=>⟨k.imm b (heap_lt hb) hp,(k.rest b (heap_lt hb) hp).trans hb⟩) λb o hp hb _ _ _=>⟨k.imm b (heap_lt hb) hp,(k.rest b (heap_lt hb) hp).trans hb⟩
 |.mp it (some i) sz cs,v,h=>by
  by_cases hij:i=j
  ·simp only[PV.sub1,hij,if_true,VRel]
  ·simp only[PV.sub1,hij,if_false];simp only[VRel]at h⊢;exact h.move (λb o hp hb _ _ _=>⟨k.arr i b hij hp,(k.arrs i b hij hp).trans hb⟩) λb o hp hb _ _ _=>⟨k.imm b (heap_lt hb) hp,(k.rest b (heap_lt hb) hp).trans hb⟩
theorem VRelL.kill{φ φ':Phi}{w w':World}{j:Nat}(k:KeepsBut j φ w φ' w'):∀(ps:List PV)(vs:List Value),VRelL φ w ps vs->VRelL φ' w' (subL1 (.kill j) ps) vs
 |[],vs,h=>by simp only[VRelL,subL1]at h⊢;exact h
 |p::ps,vs,h=>by
  simp only[VRelL,subL1]at h⊢;obtain⟨v,vs',e,h0,h1⟩:=h;exact⟨v,vs',e,VRel.kill k p v h0,VRelL.kill k ps vs' h1⟩
theorem VRelAt.kill{φ φ':Phi}{w w':World}{j:Nat}(k:KeepsBut j φ w φ' w')(b:Nat)(hb:w'.heap[b]?=w.heap[b]?):∀(ps:List PV)(off:Nat),VRelAt φ w b ps off->VRelAt φ' w' b (subL1 (.kill j) ps) off
 |[],_,_=>by simp only[VRelAt,subL1]
 |p::ps,off,h=>by
  simp only[VRelAt,subL1]at h⊢;obtain⟨⟨c,hc,h0⟩,h1⟩:=h;exact⟨⟨c,(cell_eq hb).trans hc,VRel.kill k p c h0⟩,VRelAt.kill k b hb ps (off+1) h1⟩
end
structure Writes(j b p:Nat)(v:PV)(φ:Phi)(w w':World):Prop where
 arr:φ.arr j=some b
 inj:∀i,φ.arr i=some b->i=j
 size:w.heap.size<=w'.heap.size
 others:∀k,k≠b->k<w.heap.size->w'.heap[k]?=w.heap[k]?
 row:∀cur e,w.heap[b]?=some (.cells cur e (0,0))->∃cur',w'.heap[b]?=some (.cells cur' e (0,0))/\cur'.size=cur.size
 isrow:∃cur e,w.heap[b]?=some (.cells cur e (0,0))
 cells:∀o,o≠p->w'.cell? ⟨b,o,none⟩=w.cell? ⟨b,o,none⟩
 cell:∃c,w'.cell? ⟨b,p,none⟩=some c/\VRel φ w' v c
theorem cell_lt{w:World}{b o:Nat}{c:Value}(h:w.cell? ⟨b,o,none⟩=some c):b<w.heap.size:=World.block_lt_of_cell? w ⟨b,o,none⟩ h
theorem place_wr{φ:Phi}{w w':World}{j b p:Nat}{v:PV}(k:Writes j b p v φ w w'){id:Option Nat}{b' sz off cap:Nat}(h:place φ w id b' sz off cap):
  place φ w' id b' sz off cap/\(id≠some j->b'≠b)/\(id=some j->b'=b):=by
 cases id with
 |none=>exact⟨⟨h.1,Nat.lt_of_lt_of_le h.2 k.size⟩,λ_ e=>h.1 (.inr ⟨j,by rw[e];exact k.arr⟩),λe=>by cases e⟩
 |some i=>
  obtain⟨ha,cur,e,hb,hc⟩:=h;by_cases hij:i=j
  ·subst hij;have hbb:b'=b:=by have:=ha.symm.trans k.arr;simpa using this
   subst hbb;obtain⟨cur',h1,h2⟩:=k.row cur e hb;exact⟨⟨ha,cur',e,h1,by omega⟩,λh=>absurd rfl h,λ_=>rfl⟩
  ·have hne:b'≠b:=λe=>hij (k.inj i (by rw[←e];exact ha));have hlt:b'<w.heap.size:=by
    rcases Nat.lt_or_ge b' w.heap.size with h|h
    ·exact h
    ·rw[Array.getElem?_eq_none h]at hb;cases hb
   exact⟨⟨ha,cur,e,(k.others b' hne hlt).trans hb,hc⟩,λ_=>hne,λh=>absurd (by simpa using h) hij⟩
theorem vrelAt_mk{φ:Phi}{w:World}{b:Nat}{cs:List PV}{off:Nat}(h:∀j p,cs[j]?=some p->∃c,w.cell? ⟨b,off+j,none⟩=some c/\VRel φ w p c):VRelAt φ w b cs off:=vrelAt_iff.2 h
theorem vrelAt_wr_other{φ:Phi}{w w':World}{j b p:Nat}{v:PV}(k:Writes j b p v φ w w'){b':Nat}(hb:b'≠b){cs:List PV}{off:Nat}
  (h:∀i q,cs[i]?=some q->∃c,w.cell? ⟨b',off+i,none⟩=some c/\VRel φ w' (q.sub1 (.wr j p v)) c):VRelAt φ w' b' (subL1 (.wr j p v) cs) off:=by
 refine vrelAt_mk λi q hq=>?_;rw[subL1_eq,List.getElem?_map]at hq;obtain⟨q0,hq0,rfl⟩:=Option.map_eq_some_iff.1 hq;obtain⟨c,hc,hv⟩:=h i q0 hq0;exact⟨c,(cell_eq (k.others b' hb (cell_lt hc))).trans hc,hv⟩
theorem vrelAt_wr_same{φ:Phi}{w w':World}{j b p:Nat}{v:PV}(k:Writes j b p v φ w w'){cs:List PV}{off:Nat}
  (h:∀i q,cs[i]?=some q->∃c,w.cell? ⟨b,off+i,none⟩=some c/\VRel φ w' (q.sub1 (.wr j p v)) c):VRelAt φ w' b (setAt (subL1 (.wr j p v) cs) off p v) off:=by
 refine vrelAt_mk λi q hq=>?_;have hlen:i<cs.length:=by
  have:=(List.getElem?_eq_some_iff.1 hq).1;rwa[length_setAt,length_subL1]at this
 by_cases hip:off+i=p
 ·obtain⟨c,hc,hv⟩:=k.cell;have hqv:q=v:=by
   unfold setAt at hq;rw[if_pos (by omega),List.getElem?_set,if_pos (by omega),if_pos (by rw[length_subL1];omega)]at hq;exact(Option.some.inj hq).symm
  subst hqv;exact⟨c,by rw[hip];exact hc,hv⟩
 ·have hq':(subL1 (.wr j p v) cs)[i]?=some q:=by
   unfold setAt at hq;split at hq
   ·rwa[List.getElem?_set,if_neg (by omega)]at hq
   ·exact hq
  rw[subL1_eq,List.getElem?_map]at hq';obtain⟨q0,hq0,rfl⟩:=Option.map_eq_some_iff.1 hq';obtain⟨c,hc,hv⟩:=h i q0 hq0;exact⟨c,(k.cells _ hip).trans hc,hv⟩
mutual
theorem VRel.wr{φ:Phi}{w w':World}{j b p:Nat}{v:PV}(k:Writes j b p v φ w w'):∀(q:PV)(u:Value),VRel φ w q u->VRel φ w' (q.sub1 (.wr j p v)) u
 |.int _ _,u,h=>by simpa only[VRel,PV.sub1]using h
 |.bool _,u,h=>by simpa only[VRel,PV.sub1]using h
 |.str _,u,h=>by simpa only[VRel,PV.sub1]using h
 |.undef,u,h=>by simpa only[VRel,PV.sub1]using h
 |.bad,u,h=>by simp only[VRel,PV.sub1]
 |.nilp,u,h=>by simpa only[VRel,PV.sub1]using h
 |.nilfn,u,h=>by simpa only[VRel,PV.sub1]using h
 |.snil,u,h=>by simpa only[VRel,PV.sub1]using h
 |.dead _,u,h | .yld _,u,h=>by simpa only[VRel,PV.sub1]using h
 |.ptr _ _,u,h=>by simpa only[VRel,PV.sub1]using h
 |.hd _ _ _,u,h=>by simpa only[VRel,PV.sub1]using h
 |.sl none sz off len cs,u,h=>by
  simp only[VRel,PV.sub1,length_subL1]at h⊢;obtain⟨hl,a,cap,hv,hc,h⟩:=h;refine⟨hl,a,cap,hv,hc,?_⟩;rcases h with h|⟨b',ha,hp,hr⟩
  ·exact .inl h
  ·obtain⟨hp',hn,_⟩:=place_wr k hp;exact .inr ⟨b',ha,hp',vrelAt_wr_other k (hn (by simp)) (VRelAt.wr k b' cs off hr)⟩
 |.sl (some i) sz off len cs,u,h=>by
  simp only[PV.sub1];simp only[VRel]at h;obtain⟨hl,a,cap,hv,hc,h⟩:=h;rcases h with h|⟨b',ha,hp,hr⟩
  ·exact absurd h.1 (by simp)
  ·obtain⟨hp',hn,hs⟩:=place_wr k hp;have hat:=VRelAt.wr k b' cs off hr;split
   ·rename_i hij;have hbb:b'=b:=hs (by rw[hij]);subst hbb;simp only[VRel,length_setAt,length_subL1];exact⟨hl,a,cap,hv,hc,.inr ⟨b',ha,hp',vrelAt_wr_same k hat⟩⟩
   ·rename_i hij;simp only[VRel,length_subL1];exact⟨hl,a,cap,hv,hc,.inr ⟨b',ha,hp',vrelAt_wr_other k (hn (by simpa using hij)) hat⟩⟩
 |.eref none off cs,u,h=>by
  simp only[VRel,PV.sub1]at h⊢;obtain⟨b',hv,hp,hr⟩:=h;obtain⟨hp',hn,_⟩:=place_wr k hp;exact⟨b',hv,hp',vrelAt_wr_other k (hn (by simp)) (VRelAt.wr k b' cs off hr)⟩
 |.eref (some i) off cs,u,h=>by
  simp only[PV.sub1];simp only[VRel]at h;obtain⟨b',hv,hp,hr⟩:=h;obtain⟨hp',hn,hs⟩:=place_wr k hp;have hat:=VRelAt.wr k b' cs off hr;split
  ·rename_i hij;have hbb:b'=b:=hs (by rw[hij]);subst hbb;simp only[VRel];exact⟨b',hv,hp',vrelAt_wr_same k hat⟩
  ·rename_i hij;simp only[VRel];exact⟨b',hv,hp',vrelAt_wr_other k (hn (by simpa using hij)) hat⟩
 |.fn f caps,u,h=>by
  simp only[VRel,PV.sub1]at h⊢;obtain⟨vs,hv,hr⟩:=h;exact⟨vs,hv,VRelL.wr k caps vs hr⟩
 |.agg cs,u,h=>by
  simp only[VRel,PV.sub1]at h⊢;obtain⟨vs,hv,hr⟩:=h;exact⟨vs,hv,VRelL.wr k cs vs hr⟩
 |.tup cs,u,h=>by
  simp only[VRel,PV.sub1]at h⊢;obtain⟨vs,hv,hr⟩:=h;exact⟨vs,hv,VRelL.wr k cs vs hr⟩
 |.mp it none sz cs,u,h=>by
  simp only[VRel,PV.sub1]at h⊢;have hrest:∀b' o,¬φ.own b'->w.heap[b']?=some o->¬φ.own b'/\w'.heap[b']?=some o:=λb' o hp hb=>⟨hp,(k.others b' (λe=>hp (.inr ⟨j,by rw[e];exact k.arr⟩)) (heap_lt hb)).trans hb⟩;exact h.move (λb o hp hb _ _ _=>hrest b o hp hb) λb o hp hb _ _ _=>hrest b o hp hb
 |.mp it (some i) sz cs,u,h=>by
  by_cases hij:i=j
  ·subst hij;simp only[VRel]at h;obtain⟨b0,_,hp,h⟩:=h;obtain⟨cur,e,hc⟩:=k.isrow;have:b0=b:=by have:=hp.symm.trans k.arr;injection this
   subst this;cases it with
   |set|tab _|sit=>obtain⟨es,ck,h1,_⟩:=h;rw[hc]at h1;cases h1
   |wlk=>obtain⟨_,_,_,_,h1,_⟩:=h;rw[hc]at h1;cases h1
  ·simp only[PV.sub1,hij,if_false];simp only[VRel]at h⊢;exact h.move (λb' o hp hb _ _ _=>⟨hp,(k.others b' (λe=>hij (k.inj i (by rw[←e];exact hp))) (heap_lt hb)).trans hb⟩)
    λb' o hp hb _ _ _=>⟨hp,(k.others b' (λe=>hp (.inr ⟨j,by rw[e];exact k.arr⟩)) (heap_lt hb)).trans hb⟩
theorem VRelL.wr{φ:Phi}{w w':World}{j b p:Nat}{v:PV}(k:Writes j b p v φ w w'):∀(ps:List PV)(vs:List Value),VRelL φ w ps vs->VRelL φ w' (subL1 (.wr j p v) ps) vs
 |[],vs,h=>by simp only[VRelL,subL1]at h⊢;exact h
 |q::ps,vs,h=>by
  simp only[VRelL,subL1]at h⊢;obtain⟨u,vs',e,h0,h1⟩:=h;exact⟨u,vs',e,VRel.wr k q u h0,VRelL.wr k ps vs' h1⟩
theorem VRelAt.wr{φ:Phi}{w w':World}{j b p:Nat}{v:PV}(k:Writes j b p v φ w w')(b':Nat):∀(ps:List PV)(off:Nat),VRelAt φ w b' ps off ->
  ∀i q,ps[i]?=some q->∃c,w.cell? ⟨b',off+i,none⟩=some c/\VRel φ w' (q.sub1 (.wr j p v)) c
 |[],_,_,i,q,hq=>by simp at hq
 |p0::ps,off,h,i,q,hq=>by
  simp only[VRelAt]at h;obtain⟨⟨c,hc,h0⟩,h1⟩:=h;cases i with
  |zero=>
   simp at hq;subst hq;exact⟨c,hc,VRel.wr k _ c h0⟩
  |succ i=>
   obtain⟨c',hc',h'⟩:=VRelAt.wr k b' ps (off+1) h1 i q (by simpa using hq);exact⟨c',by rw[show off+(i+1)=off+1+i by omega];exact hc',h'⟩
end
end
section
open Go Go.RowKit Go.Conc
def re(w:World)(τ:Tape)(d:Nat):World:={ w with tape:=τ,drawn:=d }
@[simp]theorem re_re(w:World)(τ τ':Tape)(d d':Nat):re (re w τ d) τ' d'=re w τ' d':=rfl
@[simp]theorem re_heap(w:World)(τ:Tape)(d:Nat):(re w τ d).heap=w.heap:=rfl
theorem re_self(w:World):re w w.tape w.drawn=w:=rfl
abbrev Spec:=FuncId->Array Value->World->(Value->World->Prop)->Prop
class Sp where
 spec:Spec
 libs:FuncId->List FuncId->Prop
 dfr:Bool:=false
def calm(fr:Frame):Prop:=fr.mode=.run\/fr.mode=.returning
theorem finish_mode(c:Frame)(v:Value):(c.finish v).mode=c.mode:=by
 unfold Frame.finish;split<;>rfl
theorem calm_finish{c:Frame}(h:calm c)(v:Value):calm (c.finish v):=by
 unfold calm;rw[finish_mode];exact h
def noBody(P:Program)(f:FuncId):Bool:=match P.funcs[f]? with
 |some fn=>fn.body.isNone
 |none=>true
def badO[Sp](P:Program):Op->Bool
 |.go _ | .send .. | .recv .. | .select ..=>true
 |.defer _=>!Sp.dfr
 |.call ⟨.value (.func f),_,_⟩=>noBody P f
 |.call ⟨.value (.const (.func (.func f) _ _)),_,_⟩=>noBody P f
 |_=>false
def badC[Sp](P:Program):Code->Bool
 |.region _ ops _=>ops.toList.any λo=>badO P o.op
 |.seq a b | .cond _ a b=>badC P a||badC P b
 |.block _ c | .loop c | .scope c=>badC P c
 |.rangeFunc _ _ a b=>badC P a||badC P b
 |_=>false
def special[Sp](P:Program)(f:FuncId):Prop:=∃fn c,P.funcs[f]?=some fn/\fn.body=some c/\badC P c=true
def entryOk[Sp](P:Program)(fr:Frame):Prop:=∀f args,fr=Frame.enter P f args .normal->¬special P f
theorem entryOk_atR[Sp]{P:Program}{b:Frame}(hb:b.roundOf=none->¬special P b.fn){a:Act}{todo:List Item}:entryOk P (b.atR a todo):=by
 intro f args e;have h1:b.fn=f:=congrArg Frame.fn e;have h2:b.roundOf=none:=congrArg Frame.roundOf e;rw[←h1];exact hb h2
theorem entryOk_ret[Sp]{P:Program}{fr:Frame}(h:fr.mode=.returning):entryOk P fr:=by
 intro f args e;rw[e]at h;cases h
section
variable[Sp]
inductive Way(P:Program)(T:Frame->List Frame->World->Prop):Frame->List Frame->World->Prop
 |done {fr:Frame} {cs:List Frame} {w:World}:(∀τ d,T fr cs (re w τ d))->Way P T fr cs w
 |step {fr:Frame} {cs:List Frame} {w:World} (fr':Tape->Nat->Frame) (cs':Tape->Nat->List Frame) (w':Tape->Nat->World) (es:Tape->Nat->Array Event):
   entryOk P fr->(∀τ d,stepG P true (G fr cs) (re w τ d)=.go (G (fr' τ d) (cs' τ d)) (w' τ d) (es τ d))->(∀τ d,calm (fr' τ d))->(∀τ d,Way P T (fr' τ d) (cs' τ d) (w' τ d))->Way P T fr cs w
 |spec {f:FuncId} {args:Array Value} {c:Frame} {cs:List Frame} {w:World} {Post:Value->World->Prop}:calm c ->
   (∀τ d,Sp.spec f args (re w τ d) Post)->(∀v w',Post v w'->Way P T (c.finish v) cs w')->Way P T (Frame.enter P f args .normal) (c::cs) w
 |lib {f:FuncId} {L LF:List FuncId} {n:Nat} {args:Array Value} {c:Frame} {cs:List Frame} {w:World} {R:Ending->World->Prop}:Sp.libs f L->0∉LF->calm c ->
   (∀τ d D,CallsIn (Fence.list LF (some D)) n P f args (re w τ d) R)->(∀e w',R e w'->∃v,e=.returned v)->(∀v w',R (.returned v) w'->Way P T (c.finish v) cs w')->Way P T (Frame.enter P f args .normal) (c::cs) w
variable{P:Program}{T:Frame->List Frame->World->Prop}{fr fr':Frame}{cs cs':List Frame}{w w':World}
theorem Way.mk(he:entryOk P fr)(h:∀τ d,∃fr' cs' w' es,stepG P true (G fr cs) (re w τ d)=.go (G fr' cs') w' es/\calm fr'/\Way P T fr' cs' w'):Way P T fr cs w:=
 .step (λτ d=>(h τ d).choose) (λτ d=>(h τ d).choose_spec.choose) (λτ d=>(h τ d).choose_spec.choose_spec.choose) (λτ d=>(h τ d).choose_spec.choose_spec.choose_spec.choose)
  he (λτ d=>(h τ d).choose_spec.choose_spec.choose_spec.choose_spec.1) (λτ d=>(h τ d).choose_spec.choose_spec.choose_spec.choose_spec.2.1) (λτ d=>(h τ d).choose_spec.choose_spec.choose_spec.choose_spec.2.2)
theorem enter_calm(P:Program)(f:FuncId)(args:Array Value):calm (Frame.enter P f args .normal):=.inl rfl
theorem bare_go{s:GStep}{g:Goroutine}(h:s.bare=.go g w):∃es,s=.go g w es:=by
 cases s<;>simp only[GStep.bare,GStep.go.injEq,reduceCtorEq]at h;obtain⟨rfl,rfl,_⟩:=h;exact⟨_,rfl⟩
theorem Way.mkB(he:entryOk P fr)(h:∀τ d,∃fr' cs' w',(stepG P true (G fr cs) (re w τ d)).bare=.go (G fr' cs') w'/\calm fr'/\Way P T fr' cs' w'):Way P T fr cs w:=
 .mk he λτ d=>by
  obtain⟨fr',cs',w',h1,h2,h3⟩:=h τ d;obtain⟨es,h1⟩:=bare_go h1;exact⟨_,_,_,es,h1,h2,h3⟩
theorem Way.re(h:Way P T fr cs w)(τ:Tape)(d:Nat):Way P T fr cs (re w τ d):=by
 cases h with
 |done h=>exact .done λτ' d'=>h τ' d'
 |step a b c e he h hm k=>exact .step a b c e he (λτ' d'=>h τ' d') hm k
 |spec hm h k=>exact .spec hm (λτ' d'=>h τ' d') k
 |lib hl h0 hm h hr k=>exact .lib hl h0 hm (λτ' d'=>h τ' d') hr k
theorem Way.pure(h:∀w,stepG P true (G fr cs) w=.go (G fr' cs') w #[])(he:entryOk P fr)(k:Way P T fr' cs' w)(hm:calm fr':=by first|exact .inl rfl|exact .inr rfl):Way P T fr cs w:=
 .mk he λτ d=>⟨_,_,_,_,h _,hm,k.re τ d⟩
theorem Way.mono{T':Frame->List Frame->World->Prop}(h:Way P T fr cs w)(ht:∀fr cs w,T fr cs w->T' fr cs w):Way P T' fr cs w:=by
 induction h with
 |done h=>exact .done λτ d=>ht _ _ _ (h τ d)
 |step a b c e he h hm _ ih=>exact .step a b c e he h hm ih
 |spec hm h _ ih=>exact .spec hm h ih
 |lib hl h0 hm h hr _ ih=>exact .lib hl h0 hm h hr ih
theorem Way.trans{T':Frame->List Frame->World->Prop}(h:Way P T fr cs w)(ht:∀fr cs w,(∀τ d,T fr cs (Go.Proofs.Ytjfejoadcdoobaa.re w τ d))->Way P T' fr cs w):Way P T' fr cs w:=by
 induction h with
 |done h=>exact ht _ _ _ h
 |step a b c e he h hm _ ih=>exact .step a b c e he h hm ih
 |spec hm h _ ih=>exact .spec hm h ih
 |lib hl h0 hm h hr _ ih=>exact .lib hl h0 hm h hr ih
def ArrX(P:Program)(T:Frame->List Frame->World->Prop)(b:Frame)(k:List Item)(cs:List Frame):Exit->Act->World->Prop
 |.normal,a,w=>Way P T (b.atR a k) cs w
 |.exit id,a,w=>match exitTo id k with
  |some k'=>Way P T (b.atR a k') cs w
  |none=>∀todo,exitTo id todo=none->Way P T (b.atR a (.code (.exit id)::todo)) cs w
 |.ret,a,w=>∀todo,Way P T (b.atR a (.code .ret::todo)) cs w
 |_,_,_=>True
theorem ArrX.pass{b:Frame}{x:Item}{k:List Item}{e:Exit}{a:Act}(hx:x.plain=true)(he:e≠.normal)(h:ArrX P T b k cs e a w):ArrX P T b (x::k) cs e a w:=by
 cases e with
 |normal=>exact absurd rfl he
 |exit id=>
  simp only[ArrX]at h⊢;rw[exitTo_plain hx];exact h
 |_=>exact h
def CallsX(P:Program)(f:FuncId)(args:Array Value)(w:World)(R:Ending->World->Prop):Prop:=
 ∀(T:Frame->List Frame->World->Prop)(c:Frame)(cs:List Frame),calm c->(∀v w',R (.returned v) w'->Way P T (c.finish v) cs w')->Way P T (Frame.enter P f args .normal) (c::cs) w
def RoundX(P:Program)(l:Nat)(f:FuncId)(tmps:Array Value)(assign body:Code)(w:World)(R:Ending->World->Prop):Prop:=
 ∀(T:Frame->List Frame->World->Prop)(c:Frame)(cs:List Frame),calm c->(∀v w',R (.returned v) w'->Way P T (c.finish v) cs w')->Way P T (Frame.round l f tmps assign body .normal) (c::cs) w
theorem CallsX.mono{f:FuncId}{args:Array Value}{R R':Ending->World->Prop}(h:CallsX P f args w R)(hr:∀e w,R e w->R' e w):CallsX P f args w R':=
 λT c cs hc hk=>h T c cs hc λv w' hv=>hk v w' (hr _ _ hv)
theorem RoundX.mono{l:Nat}{f:FuncId}{tmps:Array Value}{assign body:Code}{R R':Ending->World->Prop}(h:RoundX P l f tmps assign body w R)(hr:∀e w,R e w->R' e w):RoundX P l f tmps assign body w R':=
 λT c cs hc hk=>h T c cs hc λv w' hv=>hk v w' (hr _ _ hv)
theorem CallsX.re{f:FuncId}{args:Array Value}{R:Ending->World->Prop}(h:CallsX P f args w R)(τ:Tape)(d:Nat):CallsX P f args (re w τ d) R:=λT c cs hc hk=>(h T c cs hc hk).re τ d
theorem RoundX.re{l:Nat}{f:FuncId}{tmps:Array Value}{assign body:Code}{R:Ending->World->Prop}(h:RoundX P l f tmps assign body w R)(τ:Tape)(d:Nat):RoundX P l f tmps assign body (re w τ d) R:=λT c cs hc hk=>(h T c cs hc hk).re τ d
def _root_.Go.Oper.uponX(P:Program)(o:Oper)(a:Act)(next:Act->World->Prop)(Q:Exit->Act->World->Prop):Result Next->Prop
 |.ok (.value v) w'=>next (a.put o.dst v) w'
 |.ok .skip w'=>next (a.put o.dst undef) w'
 |.ok (.enter f args) w'=>CallsX P f args w' fun
   |.returned v,w''=>next (a.put o.dst v) w''
   |_,_=>False
 |.ok (.round l f tmps assign body) w'=>RoundX P l f tmps assign body w' fun
   |.returned v,w''=>next (a.put o.dst v) w''
   |_,_=>False
 |_=>False
def _root_.Go.Oper.wpX(rr:Option Nat)(P:Program)(o:Oper)(a:Act)(w:World)(next:Act->World->Prop)(Q:Exit->Act->World->Prop):Prop:=
 o.uponX P a next Q ((o.semAt rr a.eval).run P w)
def _root_.Go.Code.wpX(rr:Option Nat)(P:Program)(c:Code)(Q:Exit->Act->World->Prop)(a:Act)(w:World):Prop:=
 ∀(T:Frame->List Frame->World->Prop)(b:Frame)(k:List Item)(cs:List Frame),b.roundOf=rr->b.kind=.normal->(b.roundOf=none->¬special P b.fn)->(∀e a' w',Q e a' w'->ArrX P T b k cs e a' w')->Way P T (b.atR a (.code c::k)) cs w
section
variable{rr:Option Nat}{o:Oper}{a:Act}{next next':Act->World->Prop}{Q Q':Exit->Act->World->Prop}{c:Code}
theorem wpX_mono(h:c.wpX rr P Q a w)(hq:∀e a w,Q e a w->Q' e a w):c.wpX rr P Q' a w:=λT b k cs h1 h2 hb h3=>h T b k cs h1 h2 hb λe a' w' hh=>h3 e a' w' (hq _ _ _ hh)
theorem Oper.wpX_mono(hn:∀a w,next a w->next' a w)(h:o.wpX rr P a w next Q):o.wpX rr P a w next' Q:=by
 unfold Oper.wpX at *;generalize(o.semAt rr a.eval).run P w=r at *;cases r with
 |ok x w'=>
  cases x<;>simp only[Oper.uponX]at h⊢ <;>
   first
    |exact hn _ _ h
    |exact CallsX.mono h (λe w'' he=>by cases e<;>first|exact hn _ _ he|exact he)
    |exact RoundX.mono h (λe w'' he=>by cases e<;>first|exact hn _ _ he|exact he)
 |halt x w'=>cases x<;>simp only[Oper.uponX]at h
variable{b:Frame}{k:List Item}{ops:Array Oper}
theorem gx_seq{x y:Code}:stepG P true (G (b.atR a (.code (.seq x y)::k)) cs) w=.go (G (b.atR a (.code x::.code y::k)) cs) w:=by simp[G,stepG,stepG.exec,Frame.atR]
theorem gx_skip:stepG P true (G (b.atR a (.code .skip::k)) cs) w=.go (G (b.atR a k) cs) w:=by simp[G,stepG,stepG.exec,Frame.atR]
theorem gx_label{l:Nat}:stepG P true (G (b.atR a (.code (.label l)::k)) cs) w=.go (G (b.atR a k) cs) w:=by simp[G,stepG,stepG.exec,Frame.atR]
theorem gx_scope{c:Code}:stepG P true (G (b.atR a (.code (.scope c)::k)) cs) w=.go (G (b.atR a (.code c::.inScope c::k)) cs) w:=by simp[G,stepG,stepG.exec,Frame.atR]
theorem gx_inScope{c:Code}:stepG P true (G (b.atR a (.inScope c::k)) cs) w=.go (G (b.atR a k) cs) w:=by simp[G,stepG,stepG.exec,Frame.atR]
theorem gx_inBlock{id:Nat}:stepG P true (G (b.atR a (.inBlock id::k)) cs) w=.go (G (b.atR a k) cs) w:=by simp[G,stepG,stepG.exec,Frame.atR]
theorem gx_block{id:Nat}{c:Code}:stepG P true (G (b.atR a (.code (.block id c)::k)) cs) w=.go (G (b.atR a (.code c::.inBlock id::k)) cs) w:=by simp[G,stepG,stepG.exec,Frame.atR]
theorem gx_loop{c:Code}:stepG P true (G (b.atR a (.code (.loop c)::k)) cs) w=.go (G (b.atR a (.code c::.inLoop c::k)) cs) w:=by simp[G,stepG,stepG.exec,Frame.atR]
theorem gx_inLoop{c:Code}:stepG P true (G (b.atR a (.inLoop c::k)) cs) w=.go (G (b.atR a (.code c::.inLoop c::k)) cs) w:=by simp[G,stepG,stepG.exec,Frame.atR]
theorem gx_exit{id:Nat}{k':List Item}(h:exitTo id k=some k'):stepG P true (G (b.atR a (.code (.exit id)::k)) cs) w=.go (G (b.atR a k') cs) w:=by simp[G,stepG,stepG.exec,Frame.atR,h]
theorem gx_cond{c:Operand}{x y:Code}{t:Bool}(h:a.eval c=.bool t):stepG P true (G (b.atR a (.code (.cond c x y)::k)) cs) w=.go (G (b.atR a (.code (if t then x else y)::k)) cs) w:=by
 have:=congrFun (Frame.eval_atR b a (.code (.cond c x y)::k)) c;simp only[Frame.atR]at this;simp[G,stepG,stepG.exec,Frame.atR,this,h]
theorem gx_region{id:Nat}:stepG P true (G (b.atR a (.code (.region id ops false)::k)) cs) w=.go (G (b.atR a (.inRegion ops (List.range ops.size)::k)) cs) w:=by simp[G,stepG,stepG.exec,Frame.atR]
theorem gx_region_draw{id:Nat}:stepG P true (G (b.atR a (.code (.region id ops true)::k)) cs) w =
  .go (G (b.atR a (.inRegion ops (Region.schedule (P.follows .mixedOrders) ops (w.tape w.drawn (.order b.fn id)))::k)) cs) { w with drawn:=w.drawn+1 }:=by
 simp[G,stepG,stepG.exec,Frame.atR,choose,Sem.run,Question.forced,Question.cut]
theorem gx_region_end:stepG P true (G (b.atR a (.inRegion ops []::k)) cs) w=.go (G (b.atR a k) cs) w:=by simp[G,stepG,stepG.exec,Frame.atR]
theorem gx_op_skip{i:Nat}{rest:List Nat}(h:((ops[i]?).map (Region.wanted · (yielded ops a.tmps))).getD false=false):
  stepG P true (G (b.atR a (.inRegion ops (i::rest)::k)) cs) w=.go (G (b.atR (a.put ((ops[i]?).bind (·.dst)) undef) (.inRegion ops rest::k)) cs) w:=by
 rw[←Frame.finish_atR];have h':=h;simp only[Frame.atR]at *;simp[G,stepG,stepG.exec,h']
theorem gx_op{i:Nat}{rest:List Nat}{o:Oper}(ho:ops[i]?=some o)(hw:Region.wanted o (yielded ops a.tmps)=true):
  stepG P true (G (b.atR a (.inRegion ops (i::rest)::k)) cs) w=stepG.apply P true (b.atR a (.inRegion ops (i::rest)::k)) cs none (o.semAt b.roundOf a.eval) w:=stepGR_op ho hw
theorem gx_ret(hb:b.roundOf=none):stepG P true (G (b.atR a (.code .ret::k)) cs) w=.go (G { b.atR a (.code .ret::k)with mode:=.returning } cs) w:=by simp[G,stepG,stepG.exec,Frame.atR,hb]
theorem gx_end(hb:b.roundOf=none):stepG P true (G (b.atR a []) cs) w=.go (G { b.atR a []with mode:=.returning } cs) w:=by simp[G,stepG,stepG.exec,Frame.atR,hb]
theorem wpX_skip(h:Q .normal a w):Code.skip.wpX rr P Q a w:=λT b k cs _ _ hb hk=>.pure (λ_=>gx_skip) (entryOk_atR hb) (hk _ _ _ h)
theorem wpX_label{l:Nat}(h:Q .normal a w):(Code.label l).wpX rr P Q a w:=λT b k cs _ _ hb hk=>.pure (λ_=>gx_label) (entryOk_atR hb) (hk _ _ _ h)
theorem wpX_scope(h:c.wpX rr P Q a w):(Code.scope c).wpX rr P Q a w:=λT b k cs h1 h2 hb hk=>by
 refine .pure (λ_=>gx_scope) (entryOk_atR hb) (h T b (.inScope c::k) cs h1 h2 hb λe a' w' hq=>?_);cases e with
 |normal=>exact .pure (λ_=>gx_inScope) (entryOk_atR hb) (hk _ _ _ hq)
 |exit id=>
  have:=hk _ _ _ hq;simp only[ArrX]at this⊢;exact this
 |ret=>exact hk _ _ _ hq
 |_=>trivial
theorem wpX_ret(h:Q .ret a w):Code.ret.wpX rr P Q a w:=λT b k cs _ _ _ hk=>hk _ _ _ h k
theorem wpX_exit{id:Nat}(h:Q (.exit id) a w):(Code.exit id).wpX rr P Q a w:=λT b k cs _ _ hb hk=>by
 have:=hk _ _ _ h;simp only[ArrX]at this;split at this
 ·rename_i k' hk';exact .pure (λ_=>gx_exit hk') (entryOk_atR hb) this
 ·rename_i hk';exact this k hk'
theorem wpX_seq{x y:Code}(h:x.wpX rr P (Exit.then (y.wpX rr P Q) Q) a w):(Code.seq x y).wpX rr P Q a w:=λT b k cs h1 h2 hb hk=>by
 refine .pure (λ_=>gx_seq) (entryOk_atR hb) (h T b (.code y::k) cs h1 h2 hb λe a' w' hq=>?_);cases e with
 |normal=>exact hq T b k cs h1 h2 hb hk
 |exit id=>exact ArrX.pass rfl (by simp) (hk _ _ _ hq)
 |ret=>exact ArrX.pass rfl (by simp) (hk _ _ _ hq)
 |_=>trivial
theorem wpX_cond{x y:Code}{t:Bool}{c:Operand}(hc:a.eval c=.bool t)(h:(if t then x else y).wpX rr P Q a w):(Code.cond c x y).wpX rr P Q a w:=λT b k cs h1 h2 hb hk=>
 .pure (λ_=>gx_cond hc) (entryOk_atR hb) (h T b k cs h1 h2 hb hk)
theorem wpX_block{id:Nat}(h:c.wpX rr P (Exit.inBlock id Q) a w):(Code.block id c).wpX rr P Q a w:=λT b k cs h1 h2 hb hk=>by
 refine .pure (λ_=>gx_block) (entryOk_atR hb) (h T b (.inBlock id::k) cs h1 h2 hb λe a' w' hq=>?_);cases e with
 |normal=>exact .pure (λ_=>gx_inBlock) (entryOk_atR hb) (hk _ _ _ hq)
 |exit id'=>
  by_cases hid:id'=id
  ·simp only[Exit.inBlock,hid,if_true]at hq;simp only[ArrX,exitTo,hid,beq_self_eq_true,if_true];exact hk _ _ _ hq
  ·simp only[Exit.inBlock,hid,if_false]at hq;have e0:(id==id')=false:=by simp;exact λh=>hid h.symm
   have hx:exitTo id' (.inBlock id::k)=exitTo id' k:=by simp[exitTo,e0]
   have:=hk _ _ _ hq;simp only[ArrX]at this⊢;rw[hx];exact this
 |ret=>exact hk _ _ _ hq
 |_=>trivial
theorem wpX_loop(I:Act->World->Prop)(μ:Act->World->Nat)(h₀:I a w)
  (round:∀a w,I a w->c.wpX rr P (Exit.then (λa' w'=>I a' w'/\μ a' w'<μ a w) Q) a w):(Code.loop c).wpX rr P Q a w:=by
 intro T b k cs h1 h2 hb hk;have key:∀j a w,μ a w=j->I a w->Way P T (b.atR a (.code c::.inLoop c::k)) cs w:=by
  intro j;induction j using Nat.strongRecOn with
  |_ j ih=>
   intro a w hn hI;refine round a w hI T b (.inLoop c::k) cs h1 h2 hb λe a' w' hq=>?_;cases e with
   |normal=>exact .pure (λ_=>gx_inLoop) (entryOk_atR hb) (ih _ (hn▸hq.2) a' w' rfl hq.1)
   |exit id=>exact ArrX.pass rfl (by simp) (hk _ _ _ hq)
   |ret=>exact ArrX.pass rfl (by simp) (hk _ _ _ hq)
   |_=>trivial
 exact .pure (λ_=>gx_loop) (entryOk_atR hb) (key _ a w rfl h₀)
theorem run_oper{i:Nat}{rest:List Nat}(ho:ops[i]?=some o)(hw:Region.wanted o (yielded ops a.tmps)=true)(hk:b.kind=.normal)(hr:b.roundOf=rr)(hb:b.roundOf=none->¬special P b.fn)
  (h:∀τ d,o.wpX rr P a (re w τ d) (λa' w'=>Way P T (b.atR a' (.inRegion ops rest::k)) cs w') Q):Way P T (b.atR a (.inRegion ops (i::rest)::k)) cs w:=by
 refine .mk (entryOk_atR hb) λτ d=>?_;have h:=h τ d;have hfin:∀v,(b.atR a (.inRegion ops (i::rest)::k)).finish v=b.atR (a.put o.dst v) (.inRegion ops rest::k):=by intro v;rw[Frame.finish_atR,ho];rfl
 rw[gx_op ho hw];unfold Oper.wpX at h;rw[hr];obtain⟨bfn,btmps,btodo,bdef,bmode,bkind,bround⟩:=b;simp only at hk hr;clear hb;subst hk;cases hrun:(o.semAt rr a.eval).run P (re w τ d)with
 |ok x w'=>
  rw[hrun]at h;cases x<;>simp only[Oper.uponX]at h<;>try (exact h.elim)
  case value v=>
   refine⟨_,_,_,seen P bfn ((o.semAt rr a.eval).events P (re w τ d) #[]),?_,.inl rfl,h⟩;rw[←hfin];simp[stepG.apply,hrun,G,Frame.atR,GStep.after]
  case skip=>
   refine⟨_,_,_,seen P bfn ((o.semAt rr a.eval).events P (re w τ d) #[]),?_,.inl rfl,h⟩;rw[←hfin];simp[stepG.apply,hrun,G,Frame.atR,GStep.after]
  case enter f args=>
   refine⟨_,_,_,seen P bfn ((o.semAt rr a.eval).events P (re w τ d) #[]),?_,?_,h T (Frame.atR { fn:=bfn,tmps:=btmps,todo:=btodo,defers:=bdef,mode:=bmode,kind:=.normal,roundOf:=bround } a (.inRegion ops (i::rest)::k)) cs (.inl rfl) λv w'' hv=>?_⟩
   ·simp[stepG.apply,hrun,G,Frame.atR,GStep.after]
   ·first|exact enter_calm .. | exact .inl rfl
   ·rw[hfin];exact hv
  case round l f tmps assign body=>
   refine⟨_,_,_,seen P bfn ((o.semAt rr a.eval).events P (re w τ d) #[]),?_,?_,h T (Frame.atR { fn:=bfn,tmps:=btmps,todo:=btodo,defers:=bdef,mode:=bmode,kind:=.normal,roundOf:=bround } a (.inRegion ops (i::rest)::k)) cs (.inl rfl) λv w'' hv=>?_⟩
   ·simp[stepG.apply,hrun,G,Frame.atR,GStep.after]
   ·first|exact enter_calm .. | exact .inl rfl
   ·rw[hfin];exact hv
 |halt x w'=>rw[hrun]at h;exact h.elim
def wpOpsX(rr:Option Nat)(P:Program)(ops:Array Oper)(Q:Exit->Act->World->Prop):List Nat->Act->World->Prop
 |[],a,w=>Q .normal a w
 |i::rest,a,w=>
  match ops[i]? with
  |none=>wpOpsX rr P ops Q rest a w
  |some o=>
   if Region.wanted o (yielded ops a.tmps)then ∀τ d,o.wpX rr P a (re w τ d) (wpOpsX rr P ops Q rest) Q
   else wpOpsX rr P ops Q rest (a.put o.dst undef) w
theorem run_ops(l:List Nat):∀(a:Act)(w:World),wpOpsX rr P ops Q l a w->b.roundOf=rr->b.kind=.normal->(b.roundOf=none->¬special P b.fn)->(∀e a' w',Q e a' w'->ArrX P T b k cs e a' w')->Way P T (b.atR a (.inRegion ops l::k)) cs w:=by
 induction l with
 |nil=>exact λa w h _ _ hb hk=>.pure (λ_=>gx_region_end) (entryOk_atR hb) (hk _ _ _ h)
 |cons i rest ih=>
  intro a w h h1 h2 hb hk;simp only[wpOpsX]at h;cases ho:ops[i]? with
  |none=>
   simp only[ho]at h;have hs:∀w,stepG P true (G (b.atR a (.inRegion ops (i::rest)::k)) cs) w=.go (G (b.atR a (.inRegion ops rest::k)) cs) w #[]:=λw=>by
    have:=gx_op_skip (P:=P) (b:=b) (a:=a) (k:=k) (cs:=cs) (w:=w) (ops:=ops) (i:=i) (rest:=rest) (by simp[ho]);simpa only[ho,Option.bind_none,Act.put]using this
   exact .pure hs (entryOk_atR hb) (ih a w h h1 h2 hb hk)
  |some o=>
   simp only[ho]at h;by_cases hw:Region.wanted o (yielded ops a.tmps)=true
   ·rw[if_pos hw]at h;exact run_oper (Q:=Q) ho hw h2 h1 hb λτ d=>Oper.wpX_mono (λa' w' hh=>ih a' w' hh h1 h2 hb hk) (h τ d)
   ·rw[if_neg hw]at h;have hs:∀w,stepG P true (G (b.atR a (.inRegion ops (i::rest)::k)) cs) w=.go (G (b.atR (a.put o.dst undef) (.inRegion ops rest::k)) cs) w #[]:=λw=>by
     have:=gx_op_skip (P:=P) (b:=b) (a:=a) (k:=k) (cs:=cs) (w:=w) (ops:=ops) (i:=i) (rest:=rest) (by simp[ho];simpa using hw);simpa only[ho,Option.bind_some]using this
    exact .pure hs (entryOk_atR hb) (ih _ w h h1 h2 hb hk)
theorem wpX_region{id:Nat}(h:wpOpsX rr P ops Q (List.range ops.size) a w):(Code.region id ops false).wpX rr P Q a w:=λT b k cs h1 h2 hb hk=>
 .pure (λ_=>gx_region) (entryOk_atR hb) (run_ops _ a w h h1 h2 hb hk)
theorem wpX_region_draw{id:Nat}(h:∀t,wpOpsX rr P ops Q (Region.schedule (P.follows .mixedOrders) ops t) a w):(Code.region id ops true).wpX rr P Q a w:=λT b k cs h1 h2 hb hk=>
 .mk (entryOk_atR hb) λτ d=>⟨_,_,_,_,gx_region_draw,.inl rfl,(run_ops _ a w (h _) h1 h2 hb hk).re _ _⟩
end
end
end
end Go.Proofs.Ytjfejoadcdoobaa
