/- Part of the proof of RuleKnown. No condition. -/
import Derived.WalkSpells
import Derived.Test.YtlminnpaeaganaaGreatMKnownAA
namespace Go.Proofs.YtlminnpaeaganaaGreat
set_option maxRecDepth 100000
set_option linter.all false
section
open Go Go.RowKit
variable[cQ]
inductive di where
 |cells (l:List aa)
 |inv (I:List aa->Prop)
 |hole
def di.bW(e:b9):di->di
 |.cells l=>.cells (l.map (aa.bW e))
 |.inv I=>.inv I
 |.hole=>.hole
def m3(φ:bo)(w:World):di->List Value->Prop
 |.cells l,af=>bl φ w l af
 |.inv I,af=>∃l,I l/\(∀e,eF e l=l)/\(∀n,iR n l=l)/\bl φ w l af
 |.hole,_=>False
structure Mem where
 β:Nat->di
 n:Nat
 an:Nat
 rc:List (Nat×Loop)
def kz(w:World)(b:Nat):Prop:=(∃cur e,w.heap[b]?=some (.cells cur e (0,0)))\/(∃es eS,w.heap[b]?=some (.map es eS))\/∃m s x l,w.heap[b]?=some (.mapIter m s x l)
theorem kz.lt{w:World}{b:Nat}(h:kz w b):b<w.heap.size:=by rcases h with⟨_,_,h⟩|⟨_,_,h⟩|⟨_,_,_,_,h⟩<;>exact jK h
theorem kz.of_eq{w w':World}{b:Nat}(h:kz w b)(e:w'.heap[b]?=w.heap[b]?):kz w' b:=by grind [kz]
theorem kz.cells{w:World}{b:Nat}{cur:Array Value}{e:TypeId}(h:w.heap[b]?=some (.cells cur e (0,0))):kz w b:=.inl ⟨_,_,h⟩
theorem kz.Q5{w:World}{b:Nat}(h:kz w b)(o:Loop):w.heap[b]?≠some (.loop o):=by rcases h with⟨_,_,h⟩|⟨_,_,h⟩|⟨_,_,_,_,h⟩<;>(grind)
structure c0(φ:bo)(m:Mem)(w:World):Prop where
 box:∀i,i<m.n->(m.β i=.hole/\φ.box i=none)\/∃b cs e,φ.box i=some b/\w.heap[b]?=some (.cells cs e (0,0))/\m3 φ w (m.β i) cs.toList
 dt:∀i,m.n<=i->φ.box i=none
 arr:∀i b,φ.arr i=some b->i<m.an/\kz w b
 jo:∀i j b,φ.box i=some b->φ.box j=some b->i=j
 hp:∀i j b,φ.arr i=some b->φ.arr j=some b->i=j
 sep:∀i j b,φ.box i=some b->φ.arr j=some b->False
 gw:∀l o,(l,o)∈m.rc->w.heap[l]?=some (.loop o)
theorem c0.cells{φ:bo}{m:Mem}{w:World}(hm:c0 φ m w){i:Nat}(aX:i<m.n)(h:m.β i≠.hole):∃b cs e,φ.box i=some b/\w.heap[b]?=some (.cells cs e (0,0))/\m3 φ w (m.β i) cs.toList:=
 (hm.box i aX).resolve_left λk=>h k.1
theorem c0.has{φ:bo}{m:Mem}{w:World}(hm:c0 φ m w){i b:Nat}(h:φ.box i=some b):∃cs e,w.heap[b]?=some (.cells cs e (0,0))/\m3 φ w (m.β i) cs.toList/\i<m.n:=by
 have aX:i<m.n:=Nat.lt_of_not_le λhle=>by rw[hm.dt i hle]at h;cases h
 rcases hm.box i aX with⟨_,aI⟩|⟨a6,cs,e,hb,U,ab⟩;all_goals grind
def Q6(w:World)(b:Nat):Prop:=∀o,w.heap[b]?≠some (.loop o)
structure Step(φ:bo)(w:World)(bn:bo)(w':World)(E:List b9):Prop where
 tr:∀q c,aY φ w q c->aY bn w' (q.sub E) c
 os:w'.os=w.os
 output:w'.output=w.output
 size:w.heap.size<=w'.heap.size
 rest:∀b,b<w.heap.size->¬φ.own b->Q6 w b->w'.heap[b]?=w.heap[b]?/\¬bn.own b
theorem Step.refl(φ:bo)(w:World):Step φ w φ w []:=⟨λ_ _ h=>h,rfl,rfl,Nat.le_refl _,λ_ _ h _=>⟨rfl,h⟩⟩
theorem Step.trans{φ ny xS:bo}{w w1 w2:World}{E F:List b9}(h:Step φ w ny w1 E)(k:Step ny w1 xS w2 F):Step φ w xS w2 (E++F):=
 ⟨λq c aH=>by rw[aa.Xe];exact k.tr _ _ (h.tr q c aH),k.os.trans h.os,k.output.trans h.output,Nat.le_trans h.size k.size,
  λb hb ar ak=>by
  obtain⟨U,ab⟩:=h.rest b hb ar ak;obtain⟨k1,k2⟩:=k.rest b (Nat.lt_of_lt_of_le hb h.size) ab (λo=>by rw[U];exact ak o);grind⟩
def gL(P:Program)(f:FuncId)(args:List aa)(m:Mem)(Q:aa->List b9->Mem->Prop):Prop:=
 ∀φ af w,c0 φ m w->bl φ w args af ->
  lb P f af.toArray w λe w'=>∃v pv E m' bn,e=.returned v/\aY bn w' pv v/\c0 bn m' w'/\Step φ w bn w' E/\Q pv E m'
theorem gL.mono{P:Program}{f:FuncId}{args:List aa}{m:Mem}{Q lB:aa->List b9->Mem->Prop}(h:gL P f args m Q)(aH:∀pv E m',Q pv E m'->lB pv E m'):gL P f args m lB:=
 λφ af w hm ai=>(h φ af w hm ai).mono λ_ _ ⟨v,pv,E,m',bn,U,ab,al,aJ,bm⟩=>⟨v,pv,E,m',bn,U,ab,al,aJ,aH _ _ _ bm⟩
structure eN where
 l:Nat
 o:Loop
 g:Nat->aa
def p9(ys:List eN)(φ:bo)(w:World):Prop:=∀y∈ys,∀t,aY φ w (y.g t) (y.o.tmps.getD t undef)
def qR(P:Program)(ys:List eN)(f:FuncId)(args:List aa)(m:Mem)(Q:aa->List b9->Mem->Prop):Prop:=
 ∀φ af w,c0 φ m w->bl φ w args af->p9 ys φ w ->
  lb P f af.toArray w λe w'=>∃v pv E m' bn,e=.returned v/\aY bn w' pv v/\c0 bn m' w'/\Step φ w bn w' E/\Q pv E m'
theorem qR.mono{P:Program}{ys:List eN}{f:FuncId}{args:List aa}{m:Mem}{Q lB:aa->List b9->Mem->Prop}(h:qR P ys f args m Q)(aH:∀pv E m',Q pv E m'->lB pv E m'):qR P ys f args m lB:=
 λφ af w hm ai aF=>(h φ af w hm ai aF).mono λ_ _ ⟨v,pv,E,m',bn,U,ab,al,aJ,bm⟩=>⟨v,pv,E,m',bn,U,ab,al,aJ,aH _ _ _ bm⟩
theorem gL.y{P:Program}{ys:List eN}{f:FuncId}{args:List aa}{m:Mem}{Q:aa->List b9->Mem->Prop}(h:gL P f args m Q):qR P ys f args m Q:=λφ af w hm ai _=>h φ af w hm ai
def wD(P:Program)(ys:List eN)(o:Loop)(l:Nat)(args:List aa)(m:Mem)(Q:aa->List b9->Mem->Prop):Prop:=
 ∀φ af w (n:Nat),c0 φ m w->bl φ w args af->p9 ys φ w ->
  qY P l o.fn ((o.params.zip af.toArray).foldl (λtmps (t,a)=>tmps.setIfInBounds t a) o.tmps) o.assign o.body w λe w'=>∃v pv E m' bn,e=.returned v/\aY bn w' pv v/\c0 bn m' w'/\Step φ w bn w' E/\Q pv E m'
theorem wD.mono{P:Program}{ys:List eN}{o:Loop}{l:Nat}{args:List aa}{m:Mem}{Q lB:aa->List b9->Mem->Prop}(h:wD P ys o l args m Q)(aH:∀pv E m',Q pv E m'->lB pv E m'):wD P ys o l args m lB:=
 λφ af w n hm ai aF=>(h φ af w n hm ai aF).mono λ_ _ ⟨v,pv,E,m',bn,U,ab,al,aJ,bm⟩=>⟨v,pv,E,m',bn,U,ab,al,aJ,aH _ _ _ bm⟩
structure TN where
 a:Nat
 n:Nat
 ys:List eN
structure aA where
 g:Nat->aa
 m:Mem
 a0:TN
 bb:List b9
def pX(a0:Nat):List b9->List b9
 |[]=>[]
 |e::es=>if a0<=e.id then pX a0 es else e::es
@[simp]theorem ajF(a0:Nat):pX a0 []=[]:=rfl
def aA.qZ(s:aA)(ys:List eN):List eN:=ys.map λy=>{ y with g:=λt=>(y.g t).sub s.bb }
def aA.c7(s:aA):List eN:=s.qZ s.a0.ys
def gV(a0:Nat)(bb E:List b9):List b9:=match bb with
 |[]=>pX a0 E
 |_::_=>bb++E
@[simp]theorem Ha(a0:Nat)(E:List b9):gV a0 [] E=pX a0 E:=rfl
def aA.put(s:aA)(d:Option Tmp)(v:aa):aA:=match d with
 |some d=>{ s with g:=λt=>if t=d then v else s.g t }
 |none=>s
def di.sub(E:List b9)(c:di):di:=E.foldl (λc e=>c.bW e) c
@[simp]theorem di.Ed(c:di):di.sub [] c=c:=rfl
def aA.gY(s:aA)(E:List b9):aA:={ s with g:=λt=>(s.g t).sub E,m:={ s.m with β:=λi=>(s.m.β i).sub E },bb:=gV s.a0.a s.bb E }
def aA.after(s:aA)(E:List b9)(m':Mem):aA:={ s with g:=λt=>(s.g t).sub E,m:=m',bb:=gV s.a0.a s.bb E }
def ea(β:Nat->di)(i:Nat)(c:di):Nat->di:=λj=>if j=i then c else β j
def aA.gu(s:aA)(d:Option Tmp)(l:List aa):aA:=
 { s with m:={ s.m with β:=ea s.m.β s.m.n (.cells l),n:=s.m.n+1 } }.put d (.ptr s.m.n 0)
def aA.dz(s:aA)(d:Option Tmp)(sz len:Nat)(l:List aa):aA:=
 { s with m:={ s.m with β:=ea s.m.β s.m.n (.cells l),n:=s.m.n+1 } }.put d (.aV s.m.n sz len)
def aA.hq(s:aA)(i:Nat)(l:List aa):aA:={ s with m:={ s.m with β:=ea s.m.β i (.cells l) } }
def aA.pc(s:aA)(d:Option Tmp)(sz len:Nat)(cs:List aa):aA:=
 { s with m:={ s.m with an:=s.m.an+1 } }.put d (.sl (some s.m.an) sz 0 len cs)
section
variable(s:aA)(d t:Nat)(v:aa)(E:List b9)(m':Mem)(i:Nat)(l:List aa)(sz len:Nat)(o:Option Tmp)
@[simp]theorem aA.aef:(s.put (some d) v).g t=if t=d then v else s.g t:=rfl
@[simp]theorem aA.ajU:s.put none v=s:=rfl
@[simp]theorem aA.aeg:(s.put o v).m=s.m:=by cases o<;>rfl
@[simp]theorem aA.EA:(s.put o v).a0=s.a0:=by cases o<;>rfl
@[simp]theorem aA.uA:(s.put o v).bb=s.bb:=by cases o<;>rfl
@[simp]theorem aA.akh:(s.after E m').g t=(s.g t).sub E:=rfl
@[simp]theorem aA.aki:(s.after E m').m=m':=rfl
@[simp]theorem aA.ajV:(s.after E m').a0=s.a0:=rfl
@[simp]theorem aA.NV:(s.after E m').bb=gV s.a0.a s.bb E:=rfl
@[simp]theorem aA.akD:(s.gY E).g t=(s.g t).sub E:=rfl
@[simp]theorem aA.Sg:(s.gY E).m.β i=(s.m.β i).sub E:=rfl
@[simp]theorem aA.akE:(s.gY E).m.n=s.m.n:=rfl
@[simp]theorem aA.akq:(s.gY E).m.an=s.m.an:=rfl
@[simp]theorem aA.akr:(s.gY E).a0=s.a0:=rfl
@[simp]theorem aA.Ix:(s.gY E).bb=gV s.a0.a s.bb E:=rfl
@[simp]theorem aA.ajW:(s.gu (some d) l).g t=if t=d then .ptr s.m.n 0 else s.g t:=rfl
@[simp]theorem aA.OQ:(s.gu o l).m=⟨ea s.m.β s.m.n (.cells l),s.m.n+1,s.m.an,s.m.rc⟩:=by cases o<;>rfl
@[simp]theorem aA.ajM:(s.gu o l).a0=s.a0:=by cases o<;>rfl
@[simp]theorem aA.Xf:(s.gu o l).bb=s.bb:=by cases o<;>rfl
@[simp]theorem aA.Yw:(s.dz o sz len l).m=⟨ea s.m.β s.m.n (.cells l),s.m.n+1,s.m.an,s.m.rc⟩:=by cases o<;>rfl
@[simp]theorem aA.Yv:(s.dz o sz len l).a0=s.a0:=by cases o<;>rfl
@[simp]theorem aA.Qf:(s.dz o sz len l).bb=s.bb:=by cases o<;>rfl
@[simp]theorem aA.ajX:(s.hq i l).g t=s.g t:=rfl
@[simp]theorem aA.ajY:(s.hq i l).m=⟨ea s.m.β i (.cells l),s.m.n,s.m.an,s.m.rc⟩:=rfl
@[simp]theorem aA.ajN:(s.hq i l).a0=s.a0:=rfl
@[simp]theorem aA.ajG:(s.hq i l).bb=s.bb:=rfl
@[simp]theorem aA.ajZ:(s.pc (some d) sz len l).g t=if t=d then .sl (some s.m.an) sz 0 len l else s.g t:=rfl
@[simp]theorem aA.aj0:(s.pc o sz len l).m=⟨s.m.β,s.m.n,s.m.an+1,s.m.rc⟩:=by cases o<;>rfl
@[simp]theorem aA.ajO:(s.pc o sz len l).a0=s.a0:=by cases o<;>rfl
@[simp]theorem aA.Xg:(s.pc o sz len l).bb=s.bb:=by cases o<;>rfl
@[simp]theorem NW(β:Nat->di)(c:di):ea β i c i=c:=by simp[ea]
theorem qK(β:Nat->di)(c:di)(j:Nat)(h:j≠i):ea β i c j=β j:=by simp[ea,h]
end
def jT:Value->aa
 |.int k n=>.int k n
 |.bool b=>.bool b
 |.string s=>.str s
 |.pointer none=>.ca
 |.nilFunc=>.eL
 |.slice none 0 0=>.bC
 |.tuple ⟨[]⟩=>.undef
 |_=>.bad
def aa.cells:aa->List aa
 |.agg cs=>cs
 |p=>[p]
def aa.known:aa->Bool
 |.bad=>false
 |_=>true
def aa.one:aa->Bool
 |.undef | .bad | .agg _ | .bD _=>false
 |_=>true
def aA.ay(s:aA):Operand->aa
 |.tmp t=>s.g t
 |.const v=>jT v
 |.func f=>.fn f []
 |.global _=>.bad
def ik(P:Program)(t:TypeId):Option Bool:=match P.underlying t with
 |some (.struct _)|some (.array _ _)=>some true
 |some _=>some false
 |none=>none
def u2(P:Program)(t:TypeId)(x y:aa):Option Bool:=match P.underlying t,x,y with
 |some (.int _),.int k a,.int bB b=>if k=bB then some (decide (a=b))else none
 |some .bool,.bool a,.bool b=>some (a==b)
 |some .string,.str a,.str b=>some (a.toList==b.toList)
 |_,_,_=>none
def s3(P:Program):List Field->Nat->List aa->List aa->Option Bool
 |[],_,[],[]=>some true
 |f::fs,i,p::a7,q::bz=>if f.name ≠ "_" /\ f.offset=i then match u2 P f.type p q,s3 P fs (i+1) a7 bz with
  |some a,some b=>some (a&&b)
  |_,_=>none
  else none
 |_,_,_,_=>none
def za(P:Program)(t:TypeId)(xs ys:List aa):Option Bool:=match P.underlying t with
 |some (.struct fs)=>if P.stoodInHeld t=false/\P.eqGuardType P.depth t=false then s3 P fs.toList 0 xs ys else none
 |_=>none
def eB(P:Program)(op:BinOp)(t:TypeId)(x y:aa):Option aa:=
 match x,y with
 |.int k a,.int bB b=>match op with
  |.shl=>if 0<=b then some (.int k (k.wrap (a*2^min b.toNat k.bits)))else none
  |.shr=>if 0<=b then some (.int k (a.fdiv (2^min b.toNat k.bits)))else none
  |_=>if k=bB then match op with
   |.add=>some (.int k (k.wrap (a+b)))
   |.sub=>some (.int k (k.wrap (a-b)))
   |.mul=>some (.int k (k.wrap (a*b)))
   |.quo=>if b=0 then none else some (.int k (k.wrap (a.tdiv b)))
   |.rem=>if b=0 then none else some (.int k (a.tmod b))
   |.and | .or | .xor | .andNot=>some (.int k (bits op k a b))
   |.eql=>some (.bool (decide (a=b)))
   |.neq=>some (.bool (decide (a≠b)))
   |.lss=>some (.bool (decide (a<b)))
   |.leq=>some (.bool (decide (a<=b)))
   |.gtr=>some (.bool (decide (b<a)))
   |.geq=>some (.bool (decide (b<=a)))
   |_=>none
   else none
 |.bool a,.bool b=>match P.underlying t,op with
  |some .bool,.eql=>some (.bool (a==b))
  |some .bool,.neq=>some (.bool (a != b))
  |_,_=>none
 |.agg xs,.agg ys=>match op,za P t xs ys with
  |.eql,some b=>some (.bool b)
  |.neq,some b=>some (.bool !b)
  |_,_=>none
 |.bC,.bC=>match P.underlying t,op with
  |some (.slice _),.eql=>some (.bool true)
  |some (.slice _),.neq=>some (.bool false)
  |_,_=>none
 |.sl _ _ _ _ _,.bC=>match P.underlying t,op with
  |some (.slice _),.eql=>some (.bool false)
  |some (.slice _),.neq=>some (.bool true)
  |_,_=>none
 |_,_=>none
def rH(op:UnOp)(x:aa):Option aa:=match op,x with
 |.not,.bool b=>some (.bool !b)
 |.neg,.int k n=>some (.int k (k.wrap (0-n)))
 |_,_=>none
def q5(P:Program)(src dst:TypeId)(x:aa):Option aa:=match P.underlying src,P.underlying dst,x with
 |some _,some (.int k),.int _ n=>some (.int k (k.wrap n))
 |_,_,_=>none
def yB(P:Program)(t:TypeId)(x:aa)(f:Nat):Option aa:=match P.underlying t with
 |some (.struct fs)=>match fs[f]? with
  |some fd=>match ik P fd.type,x with
   |some false,.agg cs=>cs[fd.offset]?
   |_,_=>none
  |none=>none
 |_=>none
def pd(P:Program)(t:TypeId)(x:aa)(f:Nat):Option aa:=match P.underlying t with
 |some (.struct fs)=>match fs[f]? with
  |some fd=>if P.cellsOf fd.type=0\/(P.info? fd.type).isNone then none else match x with
   |.ptr id off=>some (.ptr id (off+fd.offset))
   |.bJ id off cs=>some (.bJ id (off+fd.offset) (cs.drop fd.offset))
   |_=>none
  |none=>none
 |_=>none
def pT(P:Program)(t:TypeId)(x i:aa):Option aa:=match P.underlying t,x,i with
 |some (.slice e),.sl id sz off len cs,.int _ n=>
  if 0<=n/\n<(len:Int)/\P.cellsOf e=sz/\(P.info? e).isSome then some (.bJ id (off+n.toNat*sz) (cs.drop (n.toNat*sz)))else none
 |some (.array len e),.ptr id off,.int _ n=>if 0<=n/\n<(len:Int)/\(P.info? e).isSome then some (.ptr id (off+n.toNat*P.cellsOf e))else none
 |some (.slice e),.aV id sz len,.int _ n=>if 0<=n/\n<(len:Int)/\P.cellsOf e=sz/\(P.info? e).isSome then some (.ptr id (n.toNat*sz))else none
 |_,_,_=>none
def uJ(P:Program)(t:TypeId)(x i:aa):Option aa:=match P.underlying t,x,i with
 |some (.array len e),.agg cs,.int _ n=>
  if 0<=n/\n<(len:Int)/\(P.info? e).isSome/\ik P e=some false/\P.cellsOf e=1 then cs[n.toNat]? else none
 |_,_,_=>none
def nW(m:Mem)(x:aa):Option (List aa):=match x with
 |.ptr id off=>if id<m.n then match m.β id with
  |.cells l=>some (l.drop off)
  |.inv _=>none
  |.hole=>none
  else none
 |.bJ _ _ cs=>some cs
 |_=>none
def h0(P:Program)(m:Mem)(t:TypeId)(x:aa):Option aa:=match nW m x,ik P t with
 |some cs,some true=>if P.cellsOf t<=cs.length/\(P.info? t).isSome then some (.agg (cs.take (P.cellsOf t)))else none
 |some (c::_),some false=>some c
 |_,_=>none
def nd(id off:Nat):List aa->List b9
 |[]=>[]
 |v::af=>.wr id off v::nd id (off+1) af
def fa(l:List aa)(off:Nat)(af:List aa):List aa:=l.take off++af++l.drop (off+af.length)
def w8(id:Nat)(v:aa):Prop:=v.bW (.kill id)=v
def uK(P:Program)(s:aA)(t:TypeId)(x v:aa)(K:aA->Prop):Prop:=match x with
 |.ptr id off=>id<s.m.n/\(P.info? t).isSome/\v.cells.length=P.cellsOf t/\v.cells.all aa.one=true/\∃l,s.m.β id=.cells l/\off+v.cells.length<=l.length/\K (s.hq id (fa l off v.cells))
 |.bJ (some id) off cs=>(P.info? t).isSome/\0<P.cellsOf t/\v.cells.length=P.cellsOf t/\v.cells.all aa.one=true/\v.cells.length<=cs.length/\(∀c∈v.cells,w8 id c)/\K (s.gY (nd id off v.cells))
 |_=>False
def zeroOf(P:Program)(t:TypeId):Option Value:=(P.info? t).bind (·.zero)
def ki(P:Program)(t:TypeId):Option (List aa):=(zeroOf P t).map λz=>z.cells.toList.map jT
def kJ(place:Nat->Option (Nat×Nat))(cells:List aa):List (Nat×aa)->Option (List aa)
 |[]=>some cells
 |(i,v)::rest=>match place i with
  |none=>none
  |some (off,size)=>if v.known=true/\v.cells.length=size/\off+size<=cells.length then kJ place (fa cells off v.cells) rest else none
def ya(P:Program)(fs:Array Field)(i:Nat):Option (Nat×Nat):=(fs[i]?).map λf=>(f.offset,P.cellsOf f.type)
def sI(P:Program)(t:TypeId)(parts:List (Nat×aa)):Option aa:=match P.underlying t,ki P t with
 |some (.struct fs),some z=>if fs.toList.all (λf=>(P.info? f.type).isSome)then(kJ (ya P fs) z parts).map .agg else none
 |some (.array _ e),some z=>if(P.info? e).isSome then(kJ (λi=>some (i*P.cellsOf e,P.cellsOf e)) z parts).map .agg else none
 |_,_=>none
def e8(z:List aa):Nat->List aa
 |0=>[]
 |n+1=>z++e8 z n
def ht(P:Program)(t:TypeId)(x:aa):Option aa:=match P.underlying t,x with
 |some (.slice _),.sl _ _ _ len _=>some (.int .i64 len)
 |some (.slice _),.bC=>some (.int .i64 0)
 |some (.slice _),.dead len=>some (.int .i64 len)
 |some (.slice _),.aV _ _ len=>some (.int .i64 len)
 |some .string,.str s=>some (.int .i64 s.size)
 |some (.array n _),_=>some (.int .i64 n)
 |_,_=>none
def s4(l:List aa):Option aa:=match l with
 |[.int k a,.int bB b]=>if k=bB then some (.int k (if b<a then b else a))else none
 |_=>none
def u3(l:List aa):Option aa:=match l with
 |[.int k a,.int bB b]=>if k=bB then some (.int k (if a<b then b else a))else none
 |_=>none
def wO(sz:Nat)(x:aa):Option (Nat×List aa):=match x with
 |.bC=>some (0,[])
 |.sl _ iL _ len cs=>if iL=sz\/len=0 then some (len,cs)else none
 |_=>none
def uB(P:Program)(s:aA)(d:Option Tmp)(t:TypeId)(x y:aa)(K:aA->Prop):Prop:=match P.underlying t with
 |some (.slice e)=>(P.info? e).isSome/\0<P.cellsOf e/\(zeroOf P e).any (λz=>z.cells.size=P.cellsOf e)=true /\
  match wO (P.cellsOf e) y with
  |some (m,news)=>news.all aa.one=true/\match x with
   |.bC=>m*P.bytesOf e<=140737488355328/\m<=9223372036854775807/\K (if m=0 then s.put d .bC else s.pc d (P.cellsOf e) m news)
   |.sl (some id) sz off len cs=>sz=P.cellsOf e/\off=0/\(len+m)*P.bytesOf e<=140737488355328/\len+m<=9223372036854775807/\(∀c∈cs++news,w8 id c) /\
     K ((s.gY [.kill id]).put d (.sl (some id) sz 0 (len+m) (cs++news)))
   |_=>False
  |none=>False
 |_=>False
def rm(d:Nat):Option aa->Option Nat
 |none=>some d
 |some (.int _ n)=>if 0<=n then some n.toNat else none
 |_=>none
def p1(P:Program)(t:TypeId)(x:aa)(cw aX:Option aa):Option aa:=match P.underlying t,x with
 |some (.slice e),.sl id sz off len cs=>match rm 0 cw,rm len aX with
  |some l,some h=>if l<=h/\h<=len/\P.cellsOf e=sz/\(P.info? e).isSome then
    (if l=h then some (.sl none sz 0 0 [])else some (.sl id sz (off+l*sz) (h-l) ((cs.drop (l*sz)).take ((h-l)*sz))))else none
  |_,_=>none
 |some (.slice e),.bC=>match rm 0 cw,rm 0 aX with
  |some l,some h=>if l=0/\h=0/\(P.info? e).isSome then some .bC else none
  |_,_=>none
 |_,_=>none
end
section
open Go Go.RowKit
variable[cQ]
def FH:aa->aa->Bool
 |.int k a,.int bB b=>decide (k=bB)&&decide (a=b)
 |.bool a,.bool b=>a==b
 |_,_=>false
def w9:List aa->List aa->Bool
 |[],[]=>true
 |x::xs,y::ys=>FH x y&&w9 xs ys
 |_,_=>false
def chunk(sz:Nat)(cs:List aa)(i:Nat):List aa:=(cs.drop (i*sz)).take sz
def hL(sz:Nat)(cs:List aa)(i:Nat):List aa:=cs.take (i*sz)++cs.drop ((i+1)*sz)
def J5(sz:Nat)(cs key:List aa):Bool:=(List.range (cs.length/sz)).any λi=>w9 (chunk sz cs i) key
def m4(sz:Nat)(cs key:List aa):List aa:=if J5 sz cs key=true then cs else cs++key
def uL(P:Program)(cR:TypeId)(key:List aa):Bool:=match jM key with
 |some v=>(keyOf P cR v).isSome
 |none=>false
def AR(P:Program)(cR:TypeId)(sz:Nat)(cs:List aa):Bool:=(List.range (cs.length/sz)).all λi=>uL P cR (chunk sz cs i)
def aA.qa(s:aA)(d:Option Tmp)(it:Bool)(sz:Nat)(cs:List aa):aA:=
 { s with m:={ s.m with an:=s.m.an+1 } }.put d (.mp it (some s.m.an) sz cs)
def aA.q6(s:aA)(id sz:Nat)(cs:List aa):aA:=s.gY [.wr id sz (.agg cs)]
def eQ(P:Program)(s:aA)(o:Oper)(K:aA->Prop):Prop:=match o.op with
 |.move x | .assign x=>K (s.put o.dst (s.ay x))
 |.pick c x y=>∃t,s.ay c=.bool t/\K (s.put o.dst (if t then s.ay x else s.ay y))
 |.binOp op t x y _=>∃v,eB P op t (s.ay x) (s.ay y)=some v/\K (s.put o.dst v)
 |.unOp op _ x=>∃v,rH op (s.ay x)=some v/\K (s.put o.dst v)
 |.convert src dst x=>∃v,q5 P src dst (s.ay x)=some v/\K (s.put o.dst v)
 |.nilCheck x=>match s.ay x with
  |.ptr i off=>K (s.put o.dst (.ptr i off))
  |.fn f bf=>K (s.put o.dst (.fn f bf))
  |_=>False
 |.extract x i=>match s.ay x with
  |.bD af=>∃v,af[i]?=some v/\K (s.put o.dst v)
  |_=>False
 |.fieldAddr t x f=>∃v,pd P t (s.ay x) f=some v/\K (s.put o.dst v)
 |.field t x f=>∃v,yB P t (s.ay x) f=some v/\K (s.put o.dst v)
 |.indexAddr t x i=>∃v,pT P t (s.ay x) (s.ay i)=some v/\K (s.put o.dst v)
 |.index t x i=>∃v,uJ P t (s.ay x) (s.ay i)=some v/\K (s.put o.dst v)
 |.load t x=>∃v,h0 P s.m t (s.ay x)=some v/\K (s.put o.dst v)
 |.store t x y=>o.dst=none/\uK P s t (s.ay x) (s.ay y) K
 |.makeMap t r=>r=none/\match P.underlying t with
  |some (.map cR _)=>K (s.qa o.dst false (P.cellsOf cR) [])
  |_=>False
 |.mapUpdate t m k _=>o.dst=none/\match P.underlying t,s.ay m,s.ay k with
  |some (.map cR _),.mp false (some id) sz cs,.agg key=>Maps.Keyed P cR/\0<sz/\key.length=sz/\AR P cR sz cs=true/\uL P cR key=true/\K (s.q6 id sz (m4 sz cs key))
  |_,_,_=>False
 |.range t x=>match P.underlying t,s.ay x with
  |some (.map _ _),.mp false none sz cs=>0<sz/\K (s.qa o.dst true sz (e8 [.ca] sz++cs))
  |_,_=>False
 |.next it str=>str=false/\match s.ay it with
  |.mp true (some id) sz cs=>0<sz/\((cs.drop sz).length/sz=0->K (s.put o.dst (.bD [.bool false]))) /\
    ∀i,i<(cs.drop sz).length/sz->K ((s.q6 id sz (chunk sz (cs.drop sz) i++hL sz (cs.drop sz) i)).put o.dst (.bD [.bool true,.agg (chunk sz (cs.drop sz) i),.bad]))
  |_=>False
 |.entry it=>match s.ay it with
  |.mp true (some _) sz cs=>0<sz/\(jM (cs.take sz)).isSome=true/\K (s.put o.dst (.bD [.agg (cs.take sz),.bad]))
  |_=>False
 |.box _ x=>(s.ay x).known=true/\K (s.gu o.dst (s.ay x).cells)
 |.alloc t=>∃z,ki P t=some z/\K (s.gu o.dst z)
 |.build t parts=>∃v,sI P t (parts.toList.map λp=>(p.1,s.ay p.2))=some v/\K (s.put o.dst v)
 |.buildSlice t len parts=>match P.underlying t,ki P ((P.underlying t).elim 0 fun | .slice e=>e|_=>0)with
  |some (.slice e),some z=>(P.info? e).isSome/\z.length=P.cellsOf e/\0<z.length/\len*P.cellsOf e<=16777216/\∃cs,kJ (λi=>some (i*P.cellsOf e,P.cellsOf e)) (e8 z len) (parts.toList.map λp=>(p.1,s.ay p.2))=some cs/\(K (s.pc o.dst (P.cellsOf e) len cs)\/K (s.put o.dst (.sl none (P.cellsOf e) 0 len cs))\/K (s.dz o.dst (P.cellsOf e) len cs))
  |_,_=>False
 |.makeSlice t l c=>match P.underlying t,s.ay l,s.ay c with
  |some (.slice e),.int .i64 l8,.int .i64 oW=>∃z,ki P e=some z/\z.length=P.cellsOf e/\0<z.length/\(P.info? e).isSome/\0<=l8/\l8<=oW/\oW*P.bytesOf e<=140737488355328/\oW<=9223372036854775807/\K (s.pc o.dst (P.cellsOf e) l8.toNat (e8 z l8.toNat))
  |_,_,_=>False
 |.slice t x cw aX none=>∃v,p1 P t (s.ay x) (cw.map s.ay) (aX.map s.ay)=some v/\K (s.put o.dst v)
 |.makeFunc (.func f) first bf=>first=#[]/\K (s.put o.dst (.fn f (bf.toList.map s.ay)))
 |.call c=>match c.callee with
  |.value f=>match s.ay f with
   |.fn g bf=>(∃fn,P.funcs[g]?=some fn/\fn.name ≠ "runtime.NumGoroutine" /\ fn.body.isSome)/\qR P s.c7 g (c.args.toList.map s.ay++bf) s.m λv E m'=>K ((s.after E m').put o.dst v)
   |.cq l=>∃y st mJ,y∈s.c7/\y.l=l/\(l,{ y.o with state:=st,pending:=mJ })∈s.m.rc/\c.args.size=y.o.params.size/\wD P s.c7 y.o l (c.args.toList.map s.ay) s.m λv E m'=>K ((s.after E m').put o.dst v)
   |_=>False
  |.builtin .len=>match c.argTypes[0]?,c.args.toList with
   |some t,[x]=>∃v,ht P t (s.ay x)=some v/\K (s.put o.dst v)
   |_,_=>False
  |.builtin .min=>∃v,s4 (c.args.toList.map s.ay)=some v/\K (s.put o.dst v)
  |.builtin .max=>∃v,u3 (c.args.toList.map s.ay)=some v/\K (s.put o.dst v)
  |.builtin .append=>match c.argTypes,c.args.toList with
   |⟨[t,bw]⟩,[x,y]=>t=bw/\uB P s o.dst t (s.ay x) (s.ay y) K
   |_,_=>False
  |_=>False
 |_=>False
structure cW(φ:bo)(w:World)(N:Nat)(s:aA)(a:Act):Prop where
 tmp:∀t,aY φ w (s.g t) (a.tmps.getD t undef)
 size:a.tmps.size=N
 mem:c0 φ s.m w
structure Anchor where
 gg:bo
 c9:World
 ny:bo
 w1:World
structure Rest(φ:bo)(w:World)(bn:bo)(w':World):Prop where
 size:w.heap.size<=w'.heap.size
 rest:∀b,b<w.heap.size->¬φ.own b->Q6 w b->w'.heap[b]?=w.heap[b]?/\¬bn.own b
theorem Rest.refl(φ:bo)(w:World):Rest φ w φ w:=⟨Nat.le_refl _,λ_ _ h _=>⟨rfl,h⟩⟩
theorem Rest.trans{φ ny xS:bo}{w w1 w2:World}(h:Rest φ w ny w1)(k:Rest ny w1 xS w2):Rest φ w xS w2:=
 ⟨Nat.le_trans h.size k.size,λb hb ar ak=>by
  obtain⟨U,ab⟩:=h.rest b hb ar ak;obtain⟨k1,k2⟩:=k.rest b (Nat.lt_of_lt_of_le hb h.size) ab (λo=>by rw[U];exact ak o);grind⟩
theorem Step.toRest{φ bn:bo}{w w':World}{E:List b9}(h:Step φ w bn w' E):Rest φ w bn w':=⟨h.size,h.rest⟩
structure cY(A:Anchor)(φ:bo)(w:World)(E:List b9):Prop where
 st:Step A.gg A.c9 φ w E
 a8:Rest A.ny A.w1 φ w
theorem cY.trans{A:Anchor}{φ bn:bo}{w w':World}{E F:List b9}(h:cY A φ w E)(k:Step φ w bn w' F):cY A bn w' (E++F):=⟨h.st.trans k,h.a8.trans k.toRest⟩
def Good(A:Anchor)(N:Nat)(D:List Deferred)(K:aA->Prop)(a':Act)(w':World):Prop:=
 ∃s' bn,cW bn w' N s' a'/\cY A bn w' s'.bb/\a'.defers=D/\K s'
section
variable{P:Program}{φ:bo}{w:World}{A:Anchor}{N n:Nat}{s:aA}{a:Act}{K:aA->Prop}{Q:Exit->Act->World->Prop}{r:Option Nat}
theorem Hu(φ:bo)(w:World)(v:Value):aY φ w (jT v) v:=by
 unfold jT;grind [aY]
theorem cW.ay(h:cW φ w N s a)(x:Operand):aY φ w (s.ay x) (a.eval x):=by
 cases x with
 |tmp t=>exact h.tmp t
 |const v=>exact Hu φ w v
 |global g=>trivial
 |func f=>exact⟨[],rfl,rfl⟩
theorem cW.evs(h:cW φ w N s a)(l:List Operand):bl φ w (l.map s.ay) (l.map a.eval):=by
 induction l with
 |nil=>rfl
 |cons x l az=>exact⟨_,_,rfl,h.ay x,az⟩
theorem put_defers(a:Act)(d:Option Tmp)(v:Value):(a.put d v).defers=a.defers:=by cases d<;>rfl
theorem abp{g:Nat->aa}(h:∀t,aY φ w (g t) (a.tmps.getD t undef))(ao:a.tmps.size=N){d:Nat}(aV:d<N){pv:aa}{v:Value}(ai:aY φ w pv v)(t:Nat):
  aY φ w (if t=d then pv else g t) ((a.tmps.setIfInBounds d v).getD t undef):=by
 by_cases a1:t=d
 ·simp_all
 ·rw[if_neg a1];have:=h t;simpa[Array.getElem?_setIfInBounds_ne (Ne.symm a1)]using this
theorem cW.put(h:cW φ w N s a){d:Option Tmp}(aV:∀t,d=some t->t<N){pv:aa}{v:Value}(ai:aY φ w pv v):cW φ w N (s.put d pv) (a.put d v):=by
 cases d with
 |none=>exact h
 |some d=>exact⟨λt=>abp h.tmp h.size (aV d rfl) ai t,by simpa[Act.put]using h.size,h.mem⟩
theorem o0{o:Oper}{next:Act->World->Prop}(ar:∀c,o.op≠.defer c)(h:o.wP P a next Q ((execOp a.eval o).run P w)):o.dE r P a w next Q:=by grind [Oper.dE,Oper.semAt_eq]
theorem iG{o:Oper}(ar:∀c,o.op≠.defer c)(h:cW φ w N s a)(bh:cY A φ w s.bb)(aV:∀t,o.dst=some t->t<N){v:Value}{pv:aa}
  (ad:(execOp a.eval o).run P w=.ok (.value v) w) (ai:aY φ w pv v) (eP:K (s.put o.dst pv)):o.dE r P a w (Good A N a.defers K) Q:=by
 refine o0 ar ?_;rw[ad];exact⟨s.put o.dst pv,φ,h.put aV ai,by simp_all,put_defers _ _ _,eP⟩
theorem pY{k:IntKind}{m:Int}{v:Value}(h:aY φ w (.int k m) v):v=.int k m:=h
theorem yv{b:Bool}{v:Value}(h:aY φ w (.bool b) v):v=.bool b:=h
theorem ZO{t:TypeId}{x y:aa}{b:Bool}(h:u2 P t x y=some b){dP j4:Value}(aj:aY φ w x dP)(aF:aY φ w y j4)(d:Nat):
  (Op.equalIn (d+1) t dP j4).run P w=.ok b w:=by
 unfold u2 at h;grind [run_equalIn_int,run_equalIn_bool',aY,run_equalIn_string]
theorem Xh{t:TypeId}{x y:aa}{b:Bool}(h:u2 P t x y=some b):(isAgg t).run P w=.ok false w:=by
 unfold u2 at h;split at h<;>first|simp_all[isAgg,run_underlying]|cases h
theorem OR(d:Nat):∀(fs:List Field)(i:Nat)(xs ys:List aa)(b:Bool),s3 P fs i xs ys=some b->∀(dP j4:Array Value),bl φ w xs (dP.toList.drop i)->bl φ w ys (j4.toList.drop i) ->
  (Op.eqFields (d+1) dP j4 fs).run P w=.ok b w
 |[],i,xs,ys,b,h,dP,j4,aj,aF=>by
  cases xs<;>cases ys<;>simp[s3]at h;simp_all[Op.eqFields]
 |f::fs,i,[],ys,b,h,_,_,_,_=>by trivial
 |f::fs,i,x::xs,[],b,h,_,_,_,_=>by trivial
 |f::fs,i,x::xs,y::ys,b,h,dP,j4,aj,aF=>by
  simp only[s3]at h;split at h
  ·rename_i ah;obtain⟨aI,ar⟩:=ah;cases U:u2 P f.type x y with
   |none=>grind
   |some a=>
    cases ab:s3 P fs (i+1) xs ys with
    |none=>grind
    |some c=>
     obtain⟨v,af,ay,ai,e0⟩:=aj;obtain⟨u,us,U0,hu,zt⟩:=aF;have ajb:dP[i]?=some v:=by
      have:(dP.toList.drop i)[0]?=some v:=by rw[ay];rfl
      grind
     have ajc:j4[i]?=some u:=by
      have:(j4.toList.drop i)[0]?=some u:=by rw[U0];rfl
      grind
     have amx:dP.toList.drop (i+1)=af:=by rw[←List.drop_drop,ay];rfl
     have amy:j4.toList.drop (i+1)=us:=by rw[←List.drop_drop,U0];rfl
     have ae:=Xh (w:=w) U;have he:=ZO U ai hu d;have az:=OR d fs (i+1) xs ys c ab dP j4 (by grind) (by grind);simp[Op.eqFields,aI,ne_eq,if_true,part,Sem.run_bind,ae,Result.andThen_ok,if_false,ar,ajb,ajc,Sem.run_pure,he];cases a;all_goals simp_all
  ·cases h
theorem OS{t:TypeId}{xs ys:List aa}{b:Bool}(h:za P t xs ys=some b){dP j4:List Value}(aj:bl φ w xs dP)(aF:bl φ w ys j4):
  (Op.equal t (.agg dP.toArray) (.agg j4.toArray)).run P w=.ok b w/\P.eqGuardType P.depth t=false:=by
 unfold za at h;split at h
 ·rename_i fs hu;split at h
  ·rename_i ah;have aQ:P.fieldsOf t=fs:=by simp[Program.fieldsOf,hu]
   refine⟨?_,ah.2⟩;show(Op.equalIn 10000 t _ _).run P w=_;rw[show(10000:Nat)=9998+1+1 from rfl,run_equalIn_struct w (9998+1) t _ _ (by grind) ah.1,aQ];exact OR 9998 fs.toList 0 xs ys b h _ _ (by simpa using aj) (by grind)
  ·cases h
 ·cases h
theorem yb(op:BinOp)(t:TypeId)(x y:Operand)(tT U1:Value)(h:tT≠.nilIface)(ab:(∀xs,tT≠.agg xs)\/P.eqGuardType P.depth t=false):
  (eqGuard op t x y tT U1).run P w=.ok () w:=by
 unfold eqGuard;cases tT with
 |nilIface=>grind
 |agg xs=>
  have ha:P.eqGuardType P.depth t=false:=ab.resolve_left (λk=>k xs rfl);cases U1<;>(split<;>simp[run_program,ha])
 |_=>split<;>simp
theorem ac7{op:BinOp}{t:TypeId}{x y:aa}{pv:aa}(h:eB P op t x y=some pv){dP j4:Value}(aj:aY φ w x dP)(aF:aY φ w y j4)(xT xU:Operand):
  ∃v,(do eqGuard op t xT xU dP j4;binOp op t dP j4:Sem Value).run P w=.ok v w/\aY φ w pv v:=by
 unfold eB at h;split at h
 ·have aK:=pY aj;have aO:=pY aF;subst aK;subst aO;rw[Sem.run_bind,yb op t xT xU _ _ (by simp) (.inl (by simp)),Result.andThen_ok];cases op<;>simp only at h;all_goals first
   |
    split at h
    ·rename_i aq;subst aq;first
      |(injection h with h;subst h;refine⟨_,?_,rfl⟩;simp[binOp,Op.intArith,Op.intCmp,Op.intBits,bits,BEq.beq,bne];done)
      |(subst h;done)
      |
       split at h
       ·cases h
       ·injection h with h;subst h;refine⟨_,?_,rfl⟩;simp_all[binOp,Op.intDiv]
      |cases h
    ·cases h
   |
    split at h
    ·rename_i hb;injection h with h;subst h;refine⟨_,?_,rfl⟩;simp[binOp,Op.shift,Int.not_lt.2 hb];done
    ·cases h
 ·rename_i a b;have aK:=yv aj;have aO:=yv aF;subst aK;rw[Sem.run_bind,yb op t xT xU _ _ (by simp) (.inl (by simp)),Result.andThen_ok];split at h
  ·injection h with h;subst h;refine⟨.bool (a==b),?_,rfl⟩;simp_all[run_equalIn_bool',binOp,Op.equal,Op.maxDepth]
  ·injection h with h;subst h;refine⟨.bool (a != b),?_,rfl⟩;simp_all[run_equalIn_bool',binOp,Op.equal,Op.maxDepth,bne]
  ·cases h
 ·obtain⟨akY,aK,hc⟩:=aj;obtain⟨akZ,aO,TO⟩:=aF;subst aK;subst aO;split at h
  ·rename_i b hb;injection h with h;subst h;obtain⟨ad,aN⟩:=OS hb hc TO;rw[Sem.run_bind,yb _ t xT xU _ _ (by simp) (.inr aN),Result.andThen_ok];exact⟨.bool b,by simp[binOp,ad],rfl⟩
  ·rename_i b hb;injection h with h;subst h;obtain⟨ad,aN⟩:=OS hb hc TO;rw[Sem.run_bind,yb _ t xT xU _ _ (by simp) (.inr aN),Result.andThen_ok];exact⟨.bool !b,by simp[binOp,ad],rfl⟩
  ·cases h
 ·subst aj;subst aF;rw[Sem.run_bind,yb op t xT xU _ _ (by simp) (.inl (by simp)),Result.andThen_ok];split at h
  ·rename_i e hu;injection h with h;subst h;have:=run_equalIn_nil_slice (P:=P) w 9999 t e none 0 0 0 0 hu;exact⟨.bool true,by simp[binOp,Op.equal,Op.maxDepth,this],rfl⟩
  ·rename_i e hu;injection h with h;subst h;have:=run_equalIn_nil_slice (P:=P) w 9999 t e none 0 0 0 0 hu;exact⟨.bool false,by simp[binOp,Op.equal,Op.maxDepth,this],rfl⟩
  ·cases h
 ·obtain⟨_,a,cap,rfl,_,ae⟩:=aj;have au:a.isSome:=by grind
  obtain⟨a,rfl⟩:=Option.isSome_iff_exists.1 au;subst aF;rw[Sem.run_bind,yb op t xT xU _ _ (by simp) (.inl (by simp)),Result.andThen_ok];have heq:∀e,P.underlying t=some (.slice e)->∀n c d,(Op.equalIn (d+1) t (.slice (some a) n c) (.slice none 0 0)).run P w=.ok false w:=λe hu n c d=>by simp[Op.equalIn,run_underlying hu]
  split at h
  ·injection h with h;subst h;exact⟨.bool false,by simp_all[binOp,Op.equal,Op.maxDepth],rfl⟩
  ·injection h with h;subst h;exact⟨.bool true,by simp_all[binOp,Op.equal,Op.maxDepth],rfl⟩
  ·cases h
 ·cases h
end
end
section
open Go Go.RowKit
variable[cQ]
section
variable{P:Program}{φ:bo}{w:World}{A:Anchor}{N n:Nat}{s:aA}{a:Act}{K:aA->Prop}{Q:Exit->Act->World->Prop}{r:Option Nat}{m:Mem}
theorem q0(b o k:Nat):(⟨b,o,none⟩:Addr).add k=⟨b,o+k,none⟩:=by grind [Addr.add]
theorem Aa{t:TypeId}(h:(P.info? t).isSome):∃i,P.info? t=some i/\P.cellsOf t=i.size/\P.bytesOf t=i.bytes:=by grind [Option.isSome_iff_exists,Program.cellsOf,Program.bytesOf]
theorem run_sizeOf{t:TypeId}(h:(P.info? t).isSome):(sizeOf t).run P w=.ok (P.cellsOf t) w:=by
 obtain⟨i,aX,ao,_⟩:=Aa h;simp[sizeOf,typeInfo,aX,ao]
theorem Dt{t:TypeId}{b:Bool}(h:ik P t=some b):(isAgg t).run P w=.ok b w:=by
 unfold ik at h;split at h<;>rename_i hu;all_goals simp_all[isAgg,run_underlying]
theorem aeh{op:UnOp}{x pv:aa}(h:rH op x=some pv){dP:Value}(aj:aY φ w x dP):∃v,(Op.unary op dP).run P w=.ok v w/\aY φ w pv v:=by
 unfold rH at h;split at h
 ·injection h with h;subst h;rw[yv aj];exact⟨_,by rfl,rfl⟩
 ·injection h with h;subst h;rw[pY aj];exact⟨_,by rfl,rfl⟩
 ·cases h
theorem abq{src dst:TypeId}{x pv:aa}(h:q5 P src dst x=some pv){dP:Value}(aj:aY φ w x dP):∃v,(convert src dst dP).run P w=.ok v w/\aY φ w pv v:=by
 unfold q5 at h;split at h
 ·rename_i d k bB n ao aV;injection h with h;subst h;rw[pY aj];refine⟨.int k (k.wrap n),?_,rfl⟩;simp_all[convert,run_underlying,Conv.intToInt]
 ·cases h
theorem G3{b off:Nat}{cs:List aa}(h:b7 φ w b cs off)(k:Nat):b7 φ w b (cs.drop k) (off+k):=by grind [r5]
theorem ML{b off:Nat}{cs:List aa}(h:b7 φ w b cs off)(k:Nat):b7 φ w b (cs.take k) off:=by grind [r5]
theorem NX{id:Option Nat}{b sz off cap iL zb S6:Nat}(h:place φ w id b sz off cap)(ar:zb+S6*iL<=off+cap*sz):place φ w id b iL zb S6:=by
 cases id with
 |none=>exact h
 |some i=>obtain⟨au,cur,e,hb,ah⟩:=h;exact⟨au,cur,e,hb,by omega⟩
theorem ZP{t:TypeId}{x pv:aa}{f:Nat}(h:pd P t x f=some pv){dP:Value}(aj:aY φ w x dP):∃v,(Instr.fieldAt t dP f).run P w=.ok v w/\aY φ w pv v:=by
 unfold pd at h;split at h
 ·split at h
  ·rename_i fd aQ;split at h
   ·cases h
   ·rename_i ah;simp  at ah;have aX:(P.info? fd.type).isSome:=Option.isSome_iff_ne_none.2 ah.2;have ao:=run_sizeOf (w:=w) aX;split at h
    ·injection h with h;subst h;obtain⟨b,hb,rfl⟩:=aj;exact⟨_,by simp_all[Instr.fieldAt,run_underlying,Instr.sureAddr,fieldPlace,q0],b,hb,rfl⟩
    ·injection h with h;subst h;obtain⟨b,rfl,ae,dA⟩:=aj;exact⟨_,by simp_all[Instr.fieldAt,run_underlying,Instr.sureAddr,fieldPlace,q0],b,rfl,ae,G3 dA _⟩
    ·cases h
  ·cases h
 ·cases h
theorem We{t:TypeId}{x i pv:aa}(h:pT P t x i=some pv){dP CE:Value}(aj:aY φ w x dP)(aX:aY φ w i CE):∃v,(Instr.indexAt t dP CE).run P w=.ok v w/\aY φ w pv v:=by
 unfold pT at h;split at h
 ·rename_i e id sz off len cs k n hu;split at h
  ·rename_i ah;obtain⟨aT,U,bX,c1⟩:=ah;injection h with h;subst h;have ao:=run_sizeOf (w:=w) c1;rw[pY aX];obtain⟨ak,a,cap,rfl,lg,ae⟩:=aj;rcases ae with ae|⟨b,rfl,ae,dA⟩
   ·omega
   ·exact⟨.pointer (some ⟨b,off+n.toNat*sz,none⟩),by simp[Instr.indexAt,run_underlying hu,asIntOf,aT,U,ao,q0,bX],b,rfl,NX ae (by omega),G3 dA _⟩
  ·cases h
 ·rename_i len e id off k n hu;split at h
  ·rename_i ah;obtain⟨aT,U,c1⟩:=ah;injection h with h;subst h;have ao:=run_sizeOf (w:=w) c1;rw[pY aX];obtain⟨b,hb,rfl⟩:=aj;exact⟨_,by simp[Instr.indexAt,run_underlying hu,asIntOf,Instr.sureAddr,aT,U,ao,q0],b,hb,rfl⟩
  ·cases h
 ·rename_i e id sz len k n hu;split at h
  ·rename_i ah;obtain⟨aT,U,bX,c1⟩:=ah;injection h with h;subst h;have ao:=run_sizeOf (w:=w) c1;rw[pY aX];obtain⟨b,hb,cap,rfl,lg⟩:=aj;exact⟨.pointer (some ⟨b,n.toNat*sz,none⟩),by simp[Instr.indexAt,run_underlying hu,asIntOf,aT,U,ao,q0,bX],b,hb,rfl⟩
  ·cases h
 ·cases h
theorem ZQ{t:TypeId}{x i pv:aa}(h:uJ P t x i=some pv){dP CE:Value}(aj:aY φ w x dP)(aX:aY φ w i CE):∃v,(Instr.index t dP CE).run P w=.ok v w/\aY φ w pv v:=by
 unfold uJ at h;split at h
 ·rename_i len e cs k n hu;split at h
  ·rename_i ah;obtain⟨aT,U,c1,TP,ag4⟩:=ah;have ao:=run_sizeOf (w:=w) c1;rw[pY aX];obtain⟨af,rfl,e0⟩:=aj;obtain⟨v,ai,ad⟩:=o1 e0 h;refine⟨v,?_,ad⟩;have au:=Dt (w:=w) TP;simp[Instr.index,run_underlying hu,asIntOf,aT,U,ao,part,au,ag4,ai]
  ·cases h
 ·cases h
theorem Ym{t:TypeId}{x pv:aa}{f:Nat}(h:yB P t x f=some pv){dP:Value}(aj:aY φ w x dP):∃v,(Instr.field t dP f).run P w=.ok v w/\aY φ w pv v:=by
 unfold yB at h;split at h
 ·split at h
  ·split at h
   ·obtain⟨af,rfl,e0⟩:=aj;obtain⟨v,ai,ad⟩:=o1 e0 h;simp_all[Dt,Instr.field,run_underlying,part,asAgg]
   ·cases h
  ·cases h
 ·cases h
theorem Hv{x:aa}{cs:List aa}(h:nW m x=some cs)(hm:c0 φ m w){dP:Value}(aj:aY φ w x dP):∃b off,dP=.pointer (some ⟨b,off,none⟩)/\b7 φ w b cs off:=by
 unfold nW at h;split at h
 ·rename_i id off;split at h
  ·rename_i cr;split at h
   ·rename_i l ak;injection h with h;subst h;obtain⟨b,hb,rfl⟩:=aj;obtain⟨a6,cur,e,dB,bq,ad⟩:=hm.cells cr (by grind);have:a6=b:=by grind
    subst this;rw[ak]at ad;refine⟨a6,off,rfl,sA λj p aC=>?_⟩;rw[List.getElem?_drop]at aC;obtain⟨v,ai,eW⟩:=o1 ad aC;grind [World.cell?]
   all_goals grind
  ·cases h
 ·injection h with h;obtain⟨b,rfl,_,dA⟩:=aj;grind
 ·cases h
theorem Hb{b off:Nat}{cs:List aa}(h:b7 φ w b cs off):∃af:List Value,bl φ w cs af/\∀j v,af[j]?=some v->w.cell? ⟨b,off+j,none⟩=some v:=by
 induction cs generalizing off with
 |nil=>exact⟨[],rfl,λj v ai=>by simp at ai⟩
 |cons p cs az=>
  obtain⟨⟨c,ah,ae⟩,U⟩:=h;obtain⟨af,ad,aN⟩:=az U;refine⟨c::af,⟨c,af,rfl,ae,ad⟩,λj v ai=>?_⟩;grind
theorem PY{t:TypeId}{x pv:aa}(h:h0 P m t x=some pv)(hm:c0 φ m w){dP:Value}(aj:aY φ w x dP):∃v,(Instr.loadAt t dP).run P w=.ok v w/\aY φ w pv v:=by
 unfold h0 at h;split at h
 ·rename_i cs ao au;split at h
  ·injection h with h;subst h;obtain⟨b,off,rfl,dA⟩:=Hv ao hm aj;obtain⟨af,e0,aN⟩:=Hb (ML dA (P.cellsOf t));have hlen:af.length=P.cellsOf t:=by grind [mg,List.length_take]
   have ak:=run_loadCells_list (P:=P) w ⟨b,off,none⟩ af (λj v ai=>by grind [q0]);exact⟨.agg af.toArray,by simp_all[Instr.loadAt,Instr.sureAddr,loadVar,Dt,run_sizeOf],af,rfl,e0⟩
  ·cases h
 ·rename_i c cs ao au;injection h with h;obtain⟨b,off,rfl,dA⟩:=Hv ao hm aj;obtain⟨⟨v,ai,ae⟩,_⟩:=dA;simp_all[Instr.loadAt,Instr.sureAddr,loadVar,Dt]
 ·cases h
theorem ac8{t:TypeId}{fl:Array TypeId}{x pv:aa}(a1:fl[0]?=some t)(h:ht P t x=some pv){dP:Value}(aj:aY φ w x dP)(ty:TypeId):∃v,(Builtin.len_ fl ty #[dP]).run P w=.ok v w/\aY φ w pv v:=by
 unfold ht at h;split at h
 ·rename_i e id sz off len cs hu;injection h with h;subst h;obtain⟨_,a,cap,rfl,_⟩:=aj;exact⟨_,by simp[Builtin.len_,a1,run_underlying hu,goInt],rfl⟩
 ·rename_i e hu;injection h with h;subst h;simp only[aY]at aj;subst aj;exact⟨_,by simp[Builtin.len_,a1,run_underlying hu,goInt],rfl⟩
 ·rename_i e len hu;injection h with h;subst h;obtain⟨a,cap,rfl⟩:=aj;exact⟨_,by simp[Builtin.len_,a1,run_underlying hu,goInt],rfl⟩
 ·rename_i e i z len hu;injection h with h;subst h;obtain⟨b,hb,cap,rfl,_⟩:=aj;exact⟨_,by simp[Builtin.len_,a1,run_underlying hu,goInt],rfl⟩
 ·rename_i b hu;injection h with h;subst h;simp only[aY]at aj;subst aj;exact⟨_,by simp[Builtin.len_,a1,run_underlying hu,goInt],rfl⟩
 ·rename_i dZ e hu;injection h with h;subst h;exact⟨_,by simp[Builtin.len_,a1,run_underlying hu,goInt],rfl⟩
 ·cases h
theorem Sh{l:List aa}{pv:aa}{af:List Value}(ai:bl φ w l af)(fl:Array TypeId)(ty:TypeId):
  (s4 l=some pv->∃v,(Builtin.min_ fl ty af.toArray).run P w=.ok v w/\aY φ w pv v)/\(u3 l=some pv->∃v,(Builtin.max_ fl ty af.toArray).run P w=.ok v w/\aY φ w pv v):=by
 constructor
 ·intro h;unfold s4 at h;split at h
  ·split at h
   ·rename_i k a bB b aq;injection h with h;subst h;obtain⟨v1,BL,rfl,U,v2,xp,rfl,ab,al⟩:=ai;subst al;rw[pY U,pY ab];exact⟨_,by rfl,rfl⟩
   ·cases h
  ·cases h
 ·intro h;unfold u3 at h;split at h
  ·split at h
   ·rename_i k a bB b aq;injection h with h;subst h;obtain⟨v1,BL,rfl,U,v2,xp,rfl,ab,al⟩:=ai;subst al;rw[pY U,pY ab];exact⟨_,by rfl,rfl⟩
   ·cases h
  ·cases h
theorem CV(w:World)(o:Obj)(b:Nat)(h:b<w.heap.size):(w.alloc o).heap[b]?=w.heap[b]?:=Below.heap_alloc w o b h
def bo.ho(φ:bo)(i b:Nat):bo:={ φ with box:=λj=>if j=i then some b else φ.box j }
def bo.fD(φ:bo)(i b:Nat):bo:={ φ with arr:=λj=>if j=i then some b else φ.arr j }
theorem jN(hm:c0 φ m w){i b:Nat}(h:φ.arr i=some b):b<w.heap.size:=by exact(hm.arr i b h).2.lt
theorem mo(hm:c0 φ m w){i b:Nat}(h:φ.box i=some b):b<w.heap.size:=by
 obtain⟨cs,e,bq,_⟩:=hm.has h;grind
structure jQ(w w':World):Prop where
 os:w'.os=w.os
 output:w'.output=w.output
 size:w'.heap.size=w.heap.size+1
 old:∀b,b<w.heap.size->w'.heap[b]?=w.heap[b]?
theorem jQ.alloc(w:World)(o:Obj):jQ w (w.alloc o):=⟨rfl,rfl,by simp,λb hb=>CV w o b hb⟩
theorem jQ.Xi(w:World)(o:Obj):jQ w (w.drew.alloc o):=⟨rfl,rfl,by simp,λb hb=>CV w.drew o b hb⟩
theorem yg{bn:bo}{w':World}(aN:jQ w w')(hm:c0 φ m w)(hb:∀i b,φ.box i=some b->bn.box i=some b)(au:∀i b,φ.arr i=some b->bn.arr i=some b)
  (aI:∀b,bn.own b->φ.own b\/b=w.heap.size):kk φ w bn w':=
 ⟨hb,au,λb aU ar h=>by grind,by have:=aN.size;omega,λi b h=>aN.old b (jN hm h),λb aU _=>aN.old b aU⟩
theorem x9{bn:bo}{w':World}(aN:jQ w w')(k:kk φ w bn w'):Step φ w bn w' []:=
 ⟨λq c h=>aY.keeps k q c h,aN.os,aN.output,by have:=aN.size;omega,λb aU ar _=>⟨k.rest b aU ar,k.rG b aU ar⟩⟩
theorem Ay{w':World}(aN:jQ w w')(hm:c0 φ m w):∀l o,(l,o)∈m.rc->w'.heap[l]?=some (.loop o):=λl o h=>
 (aN.old l (Array.getElem?_eq_some_iff.1 (hm.gw l o h)).1).trans (hm.gw l o h)
theorem v7{bn:bo}{w':World}(k:kk φ w bn w'){c:di}{af:List Value}(h:m3 φ w c af):m3 bn w' c af:=by
 cases c with
 |cells l=>exact bl.keeps k l af h
 |inv I=>obtain⟨l,U,ab,aJ,al⟩:=h;exact⟨l,U,ab,aJ,bl.keeps k l af al⟩
 |hole=>trivial
theorem MM{i b c:Nat}(h:(φ.ho i b).own c):φ.own c\/c=b:=by
 rcases h with⟨j,aC⟩|h
 ·simp only[bo.ho]at aC;split at aC
  ·grind
  ·exact .inl (.inl ⟨j,aC⟩)
 ·exact .inl (.inr h)
theorem C5{i b c:Nat}(h:(φ.fD i b).own c):φ.own c\/c=b:=by
 rcases h with h|⟨j,aC⟩
 ·exact .inl (.inl h)
 ·simp only[bo.fD]at aC;split at aC
  ·grind
  ·exact .inl (.inr ⟨j,aC⟩)
theorem abr(hm:c0 φ m w){w':World}(aN:jQ w w'){l:List aa}{cs:List Value}{e:TypeId}(gM:w'.heap[w.heap.size]?=some (.cells cs.toArray e (0,0)))(ak:bl φ w l cs):
  kk φ w (φ.ho m.n w.heap.size) w'/\c0 (φ.ho m.n w.heap.size) ⟨ea m.β m.n (.cells l),m.n+1,m.an,m.rc⟩ w':=by
 have k:kk φ w (φ.ho m.n w.heap.size) w':=by
  refine yg aN hm (λi b h=>?_) (λi b h=>h) (λb h=>MM h);simp only[bo.ho];split
  ·rename_i aX;subst aX;rw[hm.dt m.n (Nat.le_refl _)]at h;cases h
  ·exact h
 refine⟨k,⟨λi aX=>?_,λi aX=>?_,λi b h=>?_,λi j b U ab=>?_,λi j b U ab=>hm.hp i j b U ab,λi j b U ab=>?_,Ay (m:=m) aN hm⟩⟩
 ·by_cases c1:i=m.n
  ·subst c1;exact .inr ⟨w.heap.size,cs.toArray,e,by simp[bo.ho],gM,by simp ;exact bl.keeps k l cs ak⟩
  ·rcases hm.box i (by grind)with⟨U,ab⟩|⟨b,cur,e',hb,bq,ad⟩
   ·grind [ea,bo.ho]
   exact .inr ⟨b,cur,e',by grind [bo.ho],(aN.old b (mo hm hb)).trans bq,by grind [ea,v7]⟩
 ·simp only at aX;simp only[bo.ho];rw[if_neg (by omega)];exact hm.dt i (by omega)
 ·obtain⟨U,ab⟩:=hm.arr i b h;exact⟨U,ab.of_eq (aN.old b (jN hm h))⟩
 ·simp only[bo.ho]at U ab;split at U<;>split at ab
  ·omega
  ·have hb:=Option.some.inj U;exact absurd (mo hm ab) (by omega)
  ·have hb:=Option.some.inj ab;exact absurd (mo hm U) (by omega)
  ·exact hm.jo i j b U ab
 ·simp only[bo.ho]at U;split at U
  ·have hb:=Option.some.inj U;exact absurd (jN hm ab) (by omega)
  ·exact hm.sep i j b U ab
theorem abt(hm:c0 φ m w){w':World}(aN:jQ w w'){l:List aa}{cur:Array Value}{e:TypeId}{sz len cap:Nat}(gM:w'.heap[w.heap.size]?=some (.cells cur e (0,0)))
  (hlen:l.length=len*sz) (lg:len<=cap) (bX:cur.size=cap*sz) {af:List Value} (ak:bl φ w l af) (e0:∀(j:Nat) v,af[j]?=some v->cur[j]?=some v):
  kk φ w (φ.fD m.an w.heap.size) w'/\c0 (φ.fD m.an w.heap.size) ⟨m.β,m.n,m.an+1,m.rc⟩ w' /\
   aY (φ.fD m.an w.heap.size) w' (.sl (some m.an) sz 0 len l) (.slice (some ⟨w.heap.size,0,none⟩) len cap):=by
 have hold:∀i b,φ.arr i=some b->i≠m.an:=λi b h e=>by have:=(hm.arr i b h).1;omega
 have k:kk φ w (φ.fD m.an w.heap.size) w':=by
  refine yg aN hm (λi b h=>h) (λi b h=>?_) (λb h=>C5 h);grind [bo.fD]
 refine⟨k,⟨λi aX=>?_,λi aX=>hm.dt i aX,λi b h=>?_,λi j b U ab=>hm.jo i j b U ab,λi j b U ab=>?_,λi j b U ab=>?_,Ay (m:=m) aN hm⟩,?_⟩
 ·rcases hm.box i aX with h|⟨b,cur,e',hb,bq,ad⟩
  ·exact .inl h
  exact .inr ⟨b,cur,e',hb,(aN.old b (mo hm hb)).trans bq,v7 k ad⟩
 ·simp only[bo.fD]at h;split at h
  ·grind [kz.cells]
  ·obtain⟨U,ab⟩:=hm.arr i b h;exact⟨by grind,ab.of_eq (aN.old b (jN hm h))⟩
 ·simp only[bo.fD]at U ab;split at U<;>split at ab
  ·omega
  ·have hb:=Option.some.inj U;exact absurd (jN hm ab) (by omega)
  ·have hb:=Option.some.inj ab;exact absurd (jN hm U) (by omega)
  ·exact hm.hp i j b U ab
 ·simp only[bo.fD]at ab;split at ab
  ·have hb:=Option.some.inj ab;exact absurd (mo hm U) (by omega)
  ·exact hm.sep i j b U ab
 ·refine⟨hlen,_,cap,rfl,lg,.inr ⟨w.heap.size,rfl,⟨by simp[bo.fD],cur,e,gM,by omega⟩,sA λj p aC=>?_⟩⟩;grind [o1,World.cell?,aY.keeps]
theorem Al{pv:aa}{v:Value}(h:aY φ w pv v)(aq:pv.known=true):bl φ w pv.cells v.cells.toList:=by
 have one:∀u:Value,v=u->u.cells=#[u]->pv.cells=[pv]->bl φ w pv.cells v.cells.toList:=λu e hu ae=>by
  subst e;rw[hu,ae];exact⟨_,[],rfl,h,rfl⟩
 cases pv with
 |bad=>cases aq
 |agg cs=>
  obtain⟨af,rfl,e0⟩:=h;simpa[aa.cells,Value.cells]using e0
 |sl id sz off len cs=>obtain⟨_,a,cap,e,_⟩:=h;exact one _ e rfl rfl
 |bJ id off cs=>obtain⟨b,e,_⟩:=h;exact one _ e rfl rfl
 |fn f bf=>obtain⟨af,e,_⟩:=h;exact one _ e rfl rfl
 |bD cs=>obtain⟨af,e,_⟩:=h;exact one _ e rfl rfl
 |dead len=>obtain⟨a,cap,e⟩:=h;exact one _ e rfl rfl
 |ptr i o=>obtain⟨b,_,e⟩:=h;exact one _ e rfl rfl
 |aV i o z=>obtain⟨b,_,cap,e,_⟩:=h;exact one _ e rfl rfl
 |mp it id sz cs=>obtain⟨b,e,_⟩:=h;cases it<;>exact one _ e rfl rfl
 |_=>exact one _ h rfl rfl
theorem PZ{pv:aa}{v:Value}(h:aY φ w pv v)(aq:pv.one=true):v.oneCell'=true:=by
 cases pv with
 |bad|undef|agg|bD=>cases aq
 |sl id sz off len cs=>obtain⟨_,a,cap,rfl,_⟩:=h;rfl
 |bJ id off cs=>obtain⟨b,rfl,_⟩:=h;rfl
 |fn f bf=>obtain⟨af,rfl,_⟩:=h;rfl
 |dead len=>obtain⟨a,cap,rfl⟩:=h;rfl
 |ptr i o=>obtain⟨b,_,rfl⟩:=h;rfl
 |aV i o z=>obtain⟨b,_,cap,rfl,_⟩:=h;rfl
 |mp it id sz cs=>obtain⟨b,rfl,_⟩:=h;cases it<;>rfl
 |_=>(simp only[aY]at h;subst h;rfl)
theorem OT{l:List aa}{af:List Value}(h:bl φ w l af)(aq:l.all aa.one=true):∀v∈af,v.oneCell'=true:=by
 intro v ai;obtain⟨j,aC,rfl⟩:=List.getElem_of_mem ai;obtain⟨ak,aN⟩:=sy.1 h;have tl:j<l.length:=by omega
 exact PZ (aN j l[j] af[j] (by simp) (by simp)) (List.all_eq_true.1 aq _ (List.getElem_mem tl))
theorem OU{o:Oper}(ar:∀c,o.op≠.defer c)(h:cW φ w N s a)(bh:cY A φ w s.bb)(aV:∀t,o.dst=some t->t<N){e:TypeId}{cs:List Value}{l:List aa}
  (ad:(execOp a.eval o).run P w=.ok (.value (.pointer (some ⟨w.heap.size,0,none⟩))) (w.alloc (.cells cs.toArray e))) (ak:bl φ w l cs) (eP:K (s.gu o.dst l)):
  o.dE r P a w (Good A N a.defers K) Q:=by
 refine o0 ar ?_;rw[ad];have aN:=jQ.alloc w (.cells cs.toArray e);obtain⟨k,hm⟩:=abr h.mem aN (e:=e) (heap_alloc_new w _) ak;refine⟨s.gu o.dst l,φ.ho s.m.n w.heap.size,?_,?_,put_defers _ _ _,eP⟩
 ·have U:cW (φ.ho s.m.n w.heap.size) (w.alloc (.cells cs.toArray e)) N { s with m:=⟨ea s.m.β s.m.n (.cells l),s.m.n+1,s.m.an,s.m.rc⟩ } a:=
   ⟨λt=>aY.keeps k _ _ (h.tmp t),h.size,hm⟩
  exact U.put aV ⟨w.heap.size,by simp[bo.ho],rfl⟩
 ·rw[aA.Xf];have:=bh.trans (x9 aN k);grind
theorem SA{o:Oper}(ar:∀c,o.op≠.defer c)(h:cW φ w N s a)(bh:cY A φ w s.bb)(aV:∀t,o.dst=some t->t<N){e:TypeId}{cs:List Value}{l:List aa}{sz len cap:Nat}
  (ad:(execOp a.eval o).run P w=.ok (.value (.slice (some ⟨w.heap.size,0,none⟩) len cap)) (w.alloc (.cells cs.toArray e))) (ah:len<=cap) (ak:bl φ w l cs) (eP:K (s.dz o.dst sz len l)):
  o.dE r P a w (Good A N a.defers K) Q:=by
 refine o0 ar ?_;rw[ad];have aN:=jQ.alloc w (.cells cs.toArray e);obtain⟨k,hm⟩:=abr h.mem aN (e:=e) (heap_alloc_new w _) ak;refine⟨s.dz o.dst sz len l,φ.ho s.m.n w.heap.size,?_,?_,put_defers _ _ _,eP⟩
 ·have U:cW (φ.ho s.m.n w.heap.size) (w.alloc (.cells cs.toArray e)) N { s with m:=⟨ea s.m.β s.m.n (.cells l),s.m.n+1,s.m.an,s.m.rc⟩ } a:=
   ⟨λt=>aY.keeps k _ _ (h.tmp t),h.size,hm⟩
  exact U.put aV ⟨w.heap.size,by simp[bo.ho],cap,rfl,ah⟩
 ·rw[aA.Qf];have:=bh.trans (x9 aN k);simpa using this
theorem H0{o:Oper}(ar:∀c,o.op≠.defer c)(h:cW φ w N s a)(bh:cY A φ w s.bb)(aV:∀t,o.dst=some t->t<N){w':World}(aN:jQ w w'){e:TypeId}{cur:Array Value}{l:List aa}
  {sz len cap:Nat} (ad:(execOp a.eval o).run P w=.ok (.value (.slice (some ⟨w.heap.size,0,none⟩) len cap)) w') (gM:w'.heap[w.heap.size]?=some (.cells cur e (0,0)))
  (hlen:l.length=len*sz) (lg:len<=cap) (bX:cur.size=cap*sz) {af:List Value} (ak:bl φ w l af) (e0:∀(j:Nat) v,af[j]?=some v->cur[j]?=some v)
  (eP:K (s.pc o.dst sz len l)):o.dE r P a w (Good A N a.defers K) Q:=by
 refine o0 ar ?_;rw[ad];obtain⟨k,hm,ai⟩:=abt h.mem aN gM hlen lg bX ak e0;refine⟨s.pc o.dst sz len l,φ.fD s.m.an w.heap.size,?_,?_,put_defers _ _ _,eP⟩
 ·have U:cW (φ.fD s.m.an w.heap.size) w' N { s with m:=⟨s.m.β,s.m.n,s.m.an+1,s.m.rc⟩ } a:=⟨λt=>aY.keeps k _ _ (h.tmp t),h.size,hm⟩;exact U.put aV ai
 ·rw[aA.Xg];have:=bh.trans (x9 aN k);grind
theorem Mv{l KF:List aa}{cs af:List Value}(h:bl φ w l cs)(k:bl φ w KF af)(off:Nat):
  bl φ w (fa l off KF) (cs.take off++af++cs.drop (off+af.length)):=by
 have JB:bl φ w (l.take off) (cs.take off):=by grind [sy]
 have wQ:bl φ w (l.drop (off+KF.length)) (cs.drop (off+af.length)):=by grind [sy]
 exact Ad (Ad JB k) wQ
theorem setRow_size(w:World)(g:Nat)(cs:Array Value):(w.setRow g cs).heap.size=w.heap.size:=by simp_all
theorem Yn{t:TypeId}{id off:Nat}{l:List aa}{pv:aa}{v dP:Value}(aX:(P.info? t).isSome)(ah:pv.cells.length=P.cellsOf t)(U:pv.cells.all aa.one=true)
  (hm:c0 φ m w) (cr:id<m.n) (fW:m.β id=.cells l) (aQ:off+pv.cells.length<=l.length) (aj:aY φ w (.ptr id off) dP) (ai:aY φ w pv v) (aq:pv.known=true):
  ∃w',(Instr.storeAt t dP v).run P w=.ok () w'/\c0 φ ⟨ea m.β id (.cells (fa l off pv.cells)),m.n,m.an,m.rc⟩ w'/\Step φ w φ w' []:=by
 obtain⟨b,hb,rfl⟩:=aj;obtain⟨a6,cur,e,dB,bq,ad⟩:=hm.cells cr (by grind);have:a6=b:=by grind
 subst this;rw[fW]at ad;have BM:=Al ai aq;have hlen:=mg BM;have Fe:l.length=cur.size:=by simpa using mg ad
 have bh:=run_storeCells_at P a6 off e v.cells.toList 0 cur w bq (by grind) (OT BM U);obtain⟨w',KG⟩:∃w',w'=w.setRow a6 (cur.toList.take (off+0)++v.cells.toList++cur.toList.drop (off+0+v.cells.toList.length)).toArray:=⟨_,rfl⟩;have kH:∀k,k≠a6->w'.heap[k]?=w.heap[k]?:=λk aq=>by grind [setRow_other]
 have k:kk φ w φ w':=by refine⟨λ_ _ h=>h,λ_ _ h=>h,λ_ _ h=>h,by simp_all,λi c ah=>kH c (λe=>hm.sep id i c (by grind) ah),λc _ ar=>kH c (λe=>ar (.inl ⟨id,by grind⟩))⟩
 refine⟨w',?_,⟨λi aX=>?_,hm.dt,λi c ah=>?_,hm.jo,hm.hp,hm.sep,λl o h=>(kH l (λe=>by have:=hm.gw l o h;grind)).trans (hm.gw l o h)⟩,?_⟩
 ·simp_all[Instr.storeAt,Instr.sureAddr,storeVar,run_sizeOf]
 ·by_cases TQ:i=id
  ·subst TQ;refine .inr ⟨a6,_,e,hb,by rw[KG];exact setRow_heap w a6 cur _ e _ bq,?_⟩;grind [ea,m3,Mv,bl.keeps]
  ·rcases hm.box i aX with⟨g1,g2⟩|⟨c,m2,e',gv,tm,ir⟩
   ·grind [ea]
   refine .inr ⟨c,m2,e',gv,(kH c (λe=>TQ (hm.jo i id c gv (by grind)))).trans tm,?_⟩;grind [ea,v7]
 ·obtain⟨U,ab⟩:=hm.arr i c ah;exact⟨U,ab.of_eq (kH c (λe=>hm.sep id i c (by grind) ah))⟩
 ·exact⟨λq c h=>aY.keeps k q c h,by simp_all,by simp_all,by simp_all,λc aU ar _=>⟨k.rest c aU ar,ar⟩⟩
end
end
end Go.Proofs.YtlminnpaeaganaaGreat
