/- Part of the proof of RuleKnown. No condition. -/
import Derived.Test.YtlminnpaeaganaaGreatMKnownAA
import Derived.Test.YtlminnpaeaganaaGreatMKnownAH
namespace Go.Proofs.YtlminnpaeaganaaGreat
set_option maxRecDepth 100000
set_option linter.all false
section
open Go
structure om(C:ee)(ρ:bA)(e e':MapEntry):Prop where
 key:aZ C ρ e.key e'.key
 val:aZ C ρ e.val e'.val
 born:e'.born=e.born
inductive Cu(C:ee)(ρ:bA):Target->Target->Prop
 |collected {r bR:Nat}:ρ r bR->Cu C ρ (.collected r) (.collected bR)
structure sj(C:ee)(ρ:bA)(d dq:Deferred):Prop where
 t:Cu C ρ d.target dq.target
 a:cv C ρ d.args dq.args
structure zO(C:ee)(ρ:bA)(l aG:Loop):Prop where
 state:aG.state=l.state
 pending:aG.pending=l.pending
 fn:aG.fn=l.fn
 tmps:cv C ρ l.tmps aG.tmps
 params:aG.params=l.params
 assign:aG.assign=l.assign
 body:aG.body=l.body
 defers:ρ l.defers aG.defers
 zP:∀c,l.pending=some c->C.K c
 zQ:C.K l.assign
 zR:C.K l.body
inductive jj(C:ee)(ρ:bA):Obj->Obj->Prop
 |cells {c c':Array Value} {e:TypeId} {qI qy:Nat×Nat}:cv C ρ c c'->(∀i,qy.1<=i->i<qy.2->qI.1<=i/\i<qI.2)->jj C ρ (.cells c e qI) (.cells c' e qy)
 |map {es ec:Array MapEntry} {eS:Nat}:bE (om C ρ) es ec->jj C ρ (.map es eS) (.map ec eS)
 |number {a a':Addr} {l:Bool}:AdR ρ a a'->jj C ρ (.number a l) (.number a' l)
 |Bn {s:ByteArray} {p:Nat}:jj C ρ (.stringIter s p) (.stringIter s p)
 |EN {a:Nat} {b:Array Nat} {c:Nat}:jj C ρ (.mapIter none a b c) (.mapIter none a b c)
 |y3 {r bR a:Nat} {b:Array Nat} {c:Nat}:ρ r bR->jj C ρ (.mapIter (some r) a b c) (.mapIter (some bR) a b c)
 |loop {l aG:Loop}:zO C ρ l aG->jj C ρ (.loop l) (.loop aG)
 |Ks:jj C ρ (.deferred none) (.deferred none)
 |FD {ds zS:List Deferred}:df (sj C ρ) ds zS->jj C ρ (.deferred (some ds)) (.deferred (some zS))
section
variable{C:ee}{ρ σ:bA}
theorem df.mono{α β:Type}{R R':α->β->Prop}{xs:List α}{ys:List β}(h:df R xs ys)(ad:∀x y,R x y->R' x y):df R' xs ys:=by
 induction h with
 |nil=>exact .nil
 |cons h _ az=>exact .cons (ad _ _ h) az
theorem df.append{α β:Type}{R:α->β->Prop}{xs hD:List α}{ys Ct:List β}(h:df R xs ys)(k:df R hD Ct):df R (xs++hD) (ys++Ct):=by
 induction h with
 |nil=>exact k
 |cons h _ az=>exact .cons h az
theorem om.mono(h:cN ρ σ){e e':MapEntry}(k:om C ρ e e'):om C σ e e':=⟨k.key.mono h,k.val.mono h,k.born⟩
theorem Cu.mono(h:cN ρ σ){e e':Target}(k:Cu C ρ e e'):Cu C σ e e':=by
 cases k with
 |collected k=>exact .collected (h _ _ k)
theorem sj.mono(h:cN ρ σ){e e':Deferred}(k:sj C ρ e e'):sj C σ e e':=⟨k.t.mono h,cv.mono h k.a⟩
theorem zO.mono(h:cN ρ σ){e e':Loop}(k:zO C ρ e e'):zO C σ e e':=⟨k.state,k.pending,k.fn,cv.mono h k.tmps,k.params,k.assign,k.body,h _ _ k.defers,k.zP,k.zQ,k.zR⟩
theorem jj.mono(h:cN ρ σ){o o':Obj}(k:jj C ρ o o'):jj C σ o o':=by
 cases k with
 |cells k1 k2=>exact .cells (cv.mono h k1) k2
 |map k=>exact .map (k.mono λ_ _ x=>x.mono h)
 |number k=>exact .number (k.mono h)
 |Bn=>exact .Bn
 |EN=>exact .EN
 |y3 k=>exact .y3 (h _ _ k)
 |loop k=>exact .loop (k.mono h)
 |Ks=>exact .Ks
 |FD k=>exact .FD (k.mono λ_ _ x=>x.mono h)
end
def n3:Obj->Prop
 |.cells ..=>True
 |_=>False
structure dN(C:ee)(ρ:bA)(ro:Nat->Prop)(W W':World):Prop where
 ok:b0 C.G ρ
 hR:C.G<=W.heap.size
 ru:C.G<=W'.heap.size
 obj:∀b a6,ρ b a6->∃o o',W.heap[b]?=some o/\W'.heap[a6]?=some o'/\jj C ρ o o'
 bK:∀b a6,ρ b a6->ro a6->∃c e n,c.size<=n/\W.heap[b]?=some (.cells c e (0,n))
 row:∀b,ρ.c b->∃o,W.heap[b]?=some o/\n3 o
structure Fr(ρ σ:bA)(ro:Nat->Prop)(W W':World):Prop where
 size:W.heap.size<=W'.heap.size
 tape:W'.tape=W.tape
 os:W'.os=W.os
 out:W'.output=W.output
 le:cN ρ σ
 keep:∀b,b<W.heap.size->((∀a,¬ρ a b)\/ro b)->W'.heap[b]?=W.heap[b]?
 new:∀a b,σ a b->ρ a b\/W.heap.size<=b
theorem Fr.refl(ρ:bA)(ro:Nat->Prop)(W:World):Fr ρ ρ ro W W:=⟨Nat.le_refl _,rfl,rfl,rfl,cN.refl ρ,λ_ _ _=>rfl,λ_ _ h=>.inl h⟩
theorem Fr.trans{ρ σ τ:bA}{ro:Nat->Prop}{W W' UH:World}(h:Fr ρ σ ro W W')(k:Fr σ τ ro W' UH):Fr ρ τ ro W UH:=by
 refine⟨Nat.le_trans h.size k.size,k.tape.trans h.tape,k.os.trans h.os,k.out.trans h.out,h.le.trans k.le,λb hb ad=>?_,λa b bL=>?_⟩
 ·rw[k.keep b (Nat.lt_of_lt_of_le hb h.size) ?_,h.keep b hb ad];rcases ad with ad|ad
  ·by_cases dY:ro b
   ·grind
   ·refine .inl λa au=>?_;rcases h.new a b au with bc|bc;all_goals grind
  grind
 ·rcases k.new a b bL with bc|bc
  ·exact h.new a b bc
  ·exact .inr (Nat.le_trans h.size bc)
inductive ja(σ:bA)(ro:Nat->Prop):Event->Prop
 |rd {a:Addr} {b:Nat}:σ b a.block->ja σ ro ⟨.cell a,false,false⟩
 |wr {a:Addr} {b:Nat}:σ b a.block->¬ro a.block->ja σ ro ⟨.cell a,true,false⟩
 |get {r b:Nat}:σ b r->ja σ ro ⟨.obj r,false,false⟩
 |set {r b:Nat}:σ b r->¬ro r->ja σ ro ⟨.obj r,true,false⟩
 |ext {f:FuncId}:ja σ ro ⟨.mark (.extern f),false,true⟩
 |room:ja σ ro ⟨.mark .noRoom,false,true⟩
theorem ja.mono{ρ σ:bA}{ro:Nat->Prop}(h:cN ρ σ){e:Event}(k:ja ρ ro e):ja σ ro e:=by
 cases k with
 |rd k=>exact .rd (h _ _ k)
 |wr k bB=>exact .wr (h _ _ k) bB
 |get k=>exact .get (h _ _ k)
 |set k bB=>exact .set (h _ _ k) bB
 |ext=>exact .ext
 |room=>exact .room
def Halt.still:Halt->Prop
 |.stuck _=>True
 |.unsupported (.initOrder _)=>False
 |.unsupported _=>True
 |_=>False
inductive dR(C:ee)(p p':Program){α β:Type}(A:bA->α->β->Prop):bA->Sem α->Sem β->Prop
 |pure {ρ:bA} {a:α} {b:β}:A ρ a b->dR C p p' A ρ (.pure a) (.pure b)
 |load {ρ:bA} {a a':Addr} {k:Value->Sem α} {bB:Value->Sem β}:AdR ρ a a'->(∀v bg,aZ C ρ v bg->dR C p p' A ρ (k v) (bB bg))->dR C p p' A ρ (.load .plain a k) (.load .plain a' bB)
 |store {ρ:bA} {a a':Addr} {v bg:Value} {k:Sem α} {bB:Sem β}:AdR ρ a a'->aZ C ρ v bg->dR C p p' A ρ k bB->dR C p p' A ρ (.store .plain a v k) (.store .plain a' bg bB)
 |new {ρ:bA} {o o':Obj} {k:Nat->Sem α} {bB:Nat->Sem β}:jj C ρ o o'->(∀σ r bR,cN ρ σ->b0 C.G σ->σ r bR->(n3 o->σ.c r)->dR C p p' A σ (k r) (bB bR))->dR C p p' A ρ (.new o k) (.new o' bB)
 |shape {ρ:bA} {r bR:Nat} {k:Option (TypeId×Nat)->Sem α} {bB:Option (TypeId×Nat)->Sem β}:ρ r bR->(∀s,dR C p p' A ρ (k s) (bB s))->dR C p p' A ρ (.shape r k) (.shape bR bB)
 |frozen {ρ:bA} {a a':Addr} {k:Bool->Sem α} {bB:Bool->Sem β}:AdR ρ a a'->(∀b a6,(a6=true->b=true)->dR C p p' A ρ (k b) (bB a6))->dR C p p' A ρ (.frozen a k) (.frozen a' bB)
 |getObj {ρ:bA} {r bR:Nat} {k:Obj->Sem α} {bB:Obj->Sem β}:ρ r bR->(∀o o',jj C ρ o o'->dR C p p' A ρ (k o) (bB o'))->dR C p p' A ρ (.getObj r k) (.getObj bR bB)
 |setObj {ρ:bA} {r bR:Nat} {o o':Obj} {k:Sem α} {bB:Sem β}:ρ r bR->jj C ρ o o'->dR C p p' A ρ k bB->dR C p p' A ρ (.setObj r o k) (.setObj bR o' bB)
 |choose {ρ:bA} {q:Question} {k:Nat->Sem α} {bB:Nat->Sem β}:(∀n,dR C p p' A ρ (k n) (bB n))->dR C p p' A ρ (.choose q k) (.choose q bB)
 |program {ρ:bA} {k:Program->Sem α} {bB:Program->Sem β}:dR C p p' A ρ (k p) (bB p')->dR C p p' A ρ (.program k) (.program bB)
 |ext {ρ:bA} {f:FuncId} {k:Sem α} {bB:Sem β}:dR C p p' A ρ k bB->dR C p p' A ρ (.mark (.extern f) k) (.mark (.extern f) bB)
 |room {ρ:bA} {k:Sem α} {bB:Sem β}:dR C p p' A ρ k bB->dR C p p' A ρ (.mark .noRoom k) (.mark .noRoom bB)
 |yK {ρ:bA} {q:Question} {k:Nat->Sem α} {s:Sem β}:(∀n,dR C p p' A ρ (k n) s)->dR C p p' A ρ (.choose q k) s
 |yx {ρ:bA} {s:Sem α} {k:Program->Sem β}:dR C p p' A ρ s (k p')->dR C p p' A ρ s (.program k)
 |uw {ρ:bA} {k:Program->Sem α} {s:Sem β}:dR C p p' A ρ (k p) s->dR C p p' A ρ (.program k) s
 |y4 {ρ:bA} {m:Mark} {k:Sem α} {s:Sem β}:dR C p p' A ρ k s->dR C p p' A ρ (.mark m k) s
 |wL {ρ:bA} {r:Nat} {k:Option (TypeId×Nat)->Sem α} {s:Sem β}:(∀x,dR C p p' A ρ (k x) s)->dR C p p' A ρ (.shape r k) s
 |wy {ρ:bA} {a:Addr} {k:Bool->Sem α} {s:Sem β}:(∀x,dR C p p' A ρ (k x) s)->dR C p p' A ρ (.frozen a k) s
 |never {ρ:bA} {s:Sem α} {s':Sem β}:C.cp=true->(∀W,∃h bF,s.run p W=.halt h bF/\((∃v,h=.panic v)\/Halt.still h))->dR C p p' A ρ s s'
 |halt {ρ:bA} {h:Halt} {s:Sem β}:Halt.still h->dR C p p' A ρ (.halt h) s
 |panic {ρ:bA} {v bg:Value}:aZ C ρ v bg->dR C p p' A ρ (.halt (.panic v)) (.halt (.panic bg))
section
variable{C:ee}{p p':Program}{α β γ δ:Type}{A:bA->α->β->Prop}{B:bA->γ->δ->Prop}{ρ:bA}
theorem dR.bind{s:Sem α}{s':Sem β}{f:α->Sem γ}{bj:β->Sem δ}(h:dR C p p' A ρ s s')(ok:b0 C.G ρ)(aQ:∀σ a b,cN ρ σ->b0 C.G σ->A σ a b->dR C p p' B σ (f a) (bj b)):dR C p p' B ρ (s >>= f) (s' >>= bj):=by
 induction h with
 |pure h=>exact aQ _ _ _ (cN.refl _) ok h
 |load h _ az=>exact .load h λv bg ai=>az v bg ai ok aQ
 |store h bc _ az=>exact .store h bc (az ok aQ)
 |new h _ az=>exact .new h λσ r bR hle fU ad zw=>az σ r bR hle fU ad zw fU λτ a b ak ar au=>aQ τ a b (hle.trans ak) ar au
 |shape h _ az=>exact .shape h λs=>az s ok aQ
 |frozen h _ az=>exact .frozen h λb a6 hb=>az b a6 hb ok aQ
 |getObj h _ az=>exact .getObj h λo o' ar=>az o o' ar ok aQ
 |setObj h bc _ az=>exact .setObj h bc (az ok aQ)
 |choose _ az=>exact .choose λn=>az n ok aQ
 |program _ az=>exact .program (az ok aQ)
 |ext _ az=>exact .ext (az ok aQ)
 |room _ az=>exact .room (az ok aQ)
 |y4 _ az=>exact .y4 (az ok aQ)
 |uw _ az=>exact .uw (az ok aQ)
 |yx _ az=>exact .yx (az ok aQ)
 |yK _ az=>exact .yK λn=>az n ok aQ
 |never h k=>
  refine .never h λW=>?_;obtain⟨x,bF,U,ab⟩:=k W;simp_all
 |wL _ az=>exact .wL λx=>az x ok aQ
 |wy _ az=>exact .wy λx=>az x ok aQ
 |halt h=>exact .halt h
 |panic h=>exact .panic h
theorem dR.TH{iQ:bA->α->β->Prop}{s:Sem α}{s':Sem β}(h:dR C p p' A ρ s s')(aW:∀σ a b,A σ a b->iQ σ a b):dR C p p' iQ ρ s s':=by
 induction h with
 |pure h=>exact .pure (aW _ _ _ h)
 |load h _ az=>exact .load h az
 |store h bc _ az=>exact .store h bc az
 |new h _ az=>exact .new h az
 |shape h _ az=>exact .shape h az
 |frozen h _ az=>exact .frozen h az
 |getObj h _ az=>exact .getObj h az
 |setObj h bc _ az=>exact .setObj h bc az
 |choose _ az=>exact .choose az
 |program _ az=>exact .program az
 |ext _ az=>exact .ext az
 |room _ az=>exact .room az
 |y4 _ az=>exact .y4 az
 |uw _ az=>exact .uw az
 |yx _ az=>exact .yx az
 |yK _ az=>exact .yK az
 |never h k=>exact .never h k
 |wL _ az=>exact .wL az
 |wy _ az=>exact .wy az
 |halt h=>exact .halt h
 |panic h=>exact .panic h
end
section
variable{C:ee}{ρ:bA}{ro:Nat->Prop}{W W':World}
theorem dN.cell(h:dN C ρ ro W W'){a a':Addr}(au:AdR ρ a a'):(W.cell? a=none/\W'.cell? a'=none)\/∃v bg,W.cell? a=some v/\W'.cell? a'=some bg/\aZ C ρ v bg:=by
 obtain⟨o,o',U,ab,al⟩:=h.obj _ _ au.b;unfold World.cell?;rw[U,ab];cases al with
 |cells k1 k2=>
  simp only[au.s,au.o];cases ao:a.spot with
  |some s=>simp
  |none=>simpa using k1.get a.off
 |_=>grind
theorem dN.aiN(h:dN C ρ ro W W'){a a':Addr}(au:AdR ρ a a')(p:Program)(at_:Bool):∃e,W.farLoad p a at_=.error e/\Halt.still e:=by
 obtain⟨o,o',U,ab,al⟩:=h.obj _ _ au.b;unfold World.farLoad World.noCell;rw[U];cases al<;>exact⟨_,rfl,trivial⟩
theorem dN.agI(h:dN C ρ ro W W'){a a':Addr}(au:AdR ρ a a')(p:Program)(v:Value)(at_:Bool):∃e,Halt.still e/\∀τ d,(Go.Proofs.YtlminnpaeaganaaGreat.a8 W τ d).farStore p a v at_=.error e:=by
 obtain⟨o,o',U,ab,al⟩:=h.obj _ _ au.b;have key:∀τ d,(Go.Proofs.YtlminnpaeaganaaGreat.a8 W τ d).farStore p a v at_=W.farStore p a v at_:=λτ d=>by unfold World.farStore World.noCell;rw[show(Go.Proofs.YtlminnpaeaganaaGreat.a8 W τ d).heap[a.block]?=_ from U,U];cases al<;>rfl
 have:∃e,W.farStore p a v at_=.error e/\Halt.still e:=by
  unfold World.farStore World.noCell;rw[U];cases al<;>exact⟨_,rfl,trivial⟩
 obtain⟨e,aJ,bm⟩:=this;exact⟨e,bm,λτ d=>(key τ d).trans aJ⟩
theorem dN.shape(h:dN C ρ ro W W'){r bR:Nat}(ad:ρ r bR):W'.shape? bR=W.shape? r:=by
 obtain⟨o,o',U,ab,al⟩:=h.obj _ _ ad;unfold World.shape?;rw[U,ab];cases al with
 |cells k1 k2=>simp[k1.1]
 |_=>rfl
theorem dN.frozen(h:dN C ρ ro W W'){a a':Addr}(au:AdR ρ a a'):W'.frozen? a'=true->W.frozen? a=true:=by
 obtain⟨o,o',U,ab,al⟩:=h.obj _ _ au.b;unfold World.frozen?;rw[U,ab];cases al with
 |cells k1 k2=>
  simp[au.o];grind
 |_=>exact id
theorem getElem?_modify_self{α:Type}{xs:Array α}{i:Nat}{x:α}{f:α->α}(h:xs[i]?=some x):(xs.modify i f)[i]?=some (f x):=by grind
theorem getElem?_modify_ne{α:Type}{xs:Array α}{i j:Nat}{f:α->α}(h:i≠j):(xs.modify i f)[j]?=xs[j]?:=by grind
theorem dN.put(h:dN C ρ ro W W'){r bR:Nat}(ad:ρ r bR)(dY:¬ro bR){o o':Obj}(ar:jj C ρ o o'){H H':Array Obj}
  (U:H[r]?=some o) (ab:H'[bR]?=some o') (s1:H.size=W.heap.size) (s2:H'.size=W'.heap.size) (k1:∀j,j≠r->H[j]?=W.heap[j]?) (k2:∀j,j≠bR->H'[j]?=W'.heap[j]?) (zw:∀x,W.heap[r]?=some x->n3 x->n3 o):dN C ρ ro { W with heap:=H } { W' with heap:=H' }:=by
 refine⟨h.ok,by rw[s1];exact h.hR,by rw[s2];exact h.ru,λb a6 hb=>?_,λb a6 hb zT=>?_,λb ah=>?_⟩
 ·by_cases e:b=r
  ·subst e;obtain rfl:=h.ok.fn hb ad;grind
  ·have e':a6≠bR:=λx=>e (h.ok.inj (x▸hb) ad);obtain⟨x,bk,aj,hc,bq⟩:=h.obj b a6 hb;grind
 ·have e:b≠r:=λx=>dY (by subst x;obtain rfl:=h.ok.fn hb ad;exact zT);obtain⟨c,t,n,aI,ah⟩:=h.bK b a6 hb zT;grind
 ·obtain⟨x,aj,nq⟩:=h.row b ah;grind
theorem dN.a8(h:dN C ρ ro W W')(τ:Tape)(d:Nat):dN C ρ ro (Go.Proofs.YtlminnpaeaganaaGreat.a8 W τ d) W':=⟨h.ok,h.hR,h.ru,h.obj,h.bK,h.row⟩
theorem dN.B0(h:dN C ρ ro W W')(τ:Tape)(d:Nat):dN C ρ ro W (Go.Proofs.YtlminnpaeaganaaGreat.a8 W' τ d):=⟨h.ok,h.hR,h.ru,h.obj,h.bK,h.row⟩
theorem dN.new(h:dN C ρ ro W W')(dY:∀b,W'.heap.size<=b->¬ro b){o o':Obj}(ar:jj C ρ o o'):
  ∃σ:bA,cN ρ σ/\σ W.heap.size W'.heap.size/\(n3 o->σ.c W.heap.size)/\dN C σ ro { W with heap:=W.heap.push o } { W' with heap:=W'.heap.push o' }/\Fr ρ σ ro W' { W' with heap:=W'.heap.push o' }:=by
 have lt:∀b a6,ρ b a6->b<W.heap.size/\a6<W'.heap.size:=λb a6 hb=>by
  obtain⟨x,bk,aj,hc,_⟩:=h.obj b a6 hb;grind
 have le:cN ρ ⟨λa b=>ρ a b\/(a=W.heap.size/\b=W'.heap.size),λa=>ρ.c a\/(a=W.heap.size/\n3 o)⟩:=⟨λa b x=>.inl x,λa x=>.inl x⟩;refine⟨⟨λa b=>ρ a b\/(a=W.heap.size/\b=W'.heap.size),λa=>ρ.c a\/(a=W.heap.size/\n3 o)⟩,le,.inr ⟨rfl,rfl⟩,λx=>.inr ⟨rfl,x⟩,⟨⟨λaj=>aj.elim h.ok.low λ⟨aK,aO⟩=>.inr ⟨aK▸h.hR,aO▸h.ru⟩,?_,?_⟩,by have:=h.hR;simp;omega,by have:=h.ru;simp;omega,?_,?_,?_⟩,⟨by simp,rfl,rfl,rfl,le,λb hb _=>?_,λa b bL=>bL.imp id λx=>by simp[x.2]⟩⟩
 ·rintro a b c (U|⟨rfl,rfl⟩) (ab|⟨ab,rfl⟩)
  ·exact h.ok.fn U ab
  all_goals grind
 ·rintro a b c (U|⟨rfl,rfl⟩) (ab|⟨rfl,ab⟩)
  ·exact h.ok.inj U ab
  all_goals grind
 ·rintro b a6 (hb|⟨rfl,rfl⟩)
  ·obtain⟨x,bk,aj,hc,bq⟩:=h.obj b a6 hb;exact⟨x,bk,by grind,by grind,bq.mono le⟩
  ·exact⟨o,o',by simp,by simp,ar.mono le⟩
 ·rintro b a6 (hb|⟨rfl,rfl⟩) zT
  ·obtain⟨c,t,n,aI,ah⟩:=h.bK b a6 hb zT;grind
  grind
 ·rintro b (ah|⟨rfl,ah⟩)
  ·obtain⟨x,aj,nq⟩:=h.row b ah;grind
  grind
 grind
end
def B0{α:Type}:Result α->Tape->Nat->Result α
 |.ok a w,τ,d=>.ok a (a8 w τ d)
 |.halt h w,τ,d=>.halt h (a8 w τ d)
def xm{α β:Type}(C:ee)(A:bA->α->β->Prop)(ρ:bA)(ro:Nat->Prop)(W':World)(es:Array Event):Result α->Result β×Array Event->Prop
 |.ok a bF,r=>∃σ b xO ec,r=(.ok b xO,es++ec)/\A σ a b/\dN C σ ro bF xO/\Fr ρ σ ro W' xO/\∀e∈ec,ja σ ro e
 |.halt (.panic v) bF,r=>C.cp=true\/∃σ bg xO ec,r=(.halt (.panic bg) xO,es++ec)/\aZ C σ v bg/\dN C σ ro bF xO/\Fr ρ σ ro W' xO/\∀e∈ec,ja σ ro e
 |.halt h _,_=>Halt.still h
section
variable{C:ee}{p p':Program}{α β:Type}{A:bA->α->β->Prop}{ro:Nat->Prop}
theorem xm.step{ρ σ:bA}{W' bF:World}{es es1:Array Event}{x:Result α}{r:Result β×Array Event}(h:xm C A σ ro bF (es++es1) x r)(aQ:Fr ρ σ ro W' bF)(he:∀e∈es1,ja σ ro e):xm C A ρ ro W' es x r:=by
 cases x with
 |ok a w=>
  obtain⟨τ,b,w',es2,U,ab,al,aJ,bm⟩:=h;refine⟨τ,b,w',es1++es2,by grind,ab,al,aQ.trans aJ,λe oO=>?_⟩;rcases Array.mem_append.1 oO with h|h
  ·exact(he e h).mono aJ.le
  grind
 |halt k w=>
  cases k with
  |panic v=>
   refine Or.imp id (λh=>?_) h;obtain⟨τ,b,w',es2,U,ab,al,aJ,bm⟩:=h;refine⟨τ,b,w',es1++es2,by grind,ab,al,aQ.trans aJ,λe oO=>?_⟩;rcases Array.mem_append.1 oO with h|h
   ·exact(he e h).mono aJ.le
   grind
  |_=>trivial
theorem Dh{ρ:bA}{W' w:World}{es:Array Event}{h:Halt}{r:Result β×Array Event}(bq:Halt.still h):xm C A ρ ro W' es (.halt h w) r:=by
 cases h with
 |panic v=>trivial
 |_=>trivial
theorem QR(es:Array Event)(e:Event):es.push e=es++#[e]:=rfl
theorem yL{P:Event->Prop}{e:Event}(h:P e):∀x∈#[e],P x:=λx aj=>by grind
theorem ad0{C:ee}{ρ:bA}{v bg:Value}(h:aZ C ρ v bg):(∀c,v≠.agg c)->(∀c,v≠.tuple c)->(∀c,bg≠.agg c)/\(∀c,bg≠.tuple c):=by
 cases h with
 |bT U ab _=>grind
 |_=>simp
theorem xm.B0{ρ:bA}{W':World}{es:Array Event}{r:Result α}{x:Result β×Array Event}(h:xm C A ρ ro W' es r x)(τ:Tape)(d:Nat):xm C A ρ ro W' es (B0 r τ d) x:=by
 cases r with
 |ok a w=>
  obtain⟨σ,b,w',es2,U,ab,al,aJ,bm⟩:=h;exact⟨σ,b,w',es2,U,ab,al.a8 _ _,aJ,bm⟩
 |halt k w=>
  cases k with
  |panic v=>
   refine Or.imp id (λh=>?_) h;obtain⟨σ,b,w',es2,U,ab,al,aJ,bm⟩:=h;exact⟨σ,b,w',es2,U,ab,al.a8 _ _,aJ,bm⟩
  |_=>exact h
def HF(C:ee)(A:bA->α->β->Prop)(ρ:bA)(ro:Nat->Prop)(W':World)(es:Array Event)(f:World->Result α)(W:World)(x:Result β×Array Event):Prop:=
 ∃(k:Nat)(zG:Tape),(∃r,xm C A ρ ro W' es r x/\∀(τ:Tape) d,(∀j q,j<k->τ (d+j) q=zG j q)->f (a8 W τ d)=B0 r τ (d+k)) \/
  (C.cp=true/\∀(τ:Tape) d,(∀j q,j<k->τ (d+j) q=zG j q)->∃h bF,f (a8 W τ d)=.halt h bF/\((∃v,h=.panic v)\/Halt.still h))
theorem HF.same{ρ σ:bA}{W bF W' xO:World}{es es1:Array Event}{f f1:World->Result α}{x mN:Result β×Array Event}(h:HF C A σ ro xO es1 f1 bF mN)(aQ:∀τ d,f (a8 W τ d)=f1 (a8 bF τ d))(ad:∀r,xm C A σ ro xO es1 r mN->xm C A ρ ro W' es r x):HF C A ρ ro W' es f W x:=by
 obtain⟨k,zG,h⟩:=h;refine⟨k,zG,h.imp (λ⟨r,U,ab⟩=>⟨r,ad r U,λτ d au=>by rw[aQ];exact ab τ d au⟩) λ⟨U,ab⟩=>⟨U,λτ d au=>?_⟩⟩;rw[aQ];exact ab τ d au
theorem HF.ask{ρ σ:bA}{W W' xO:World}{es es1:Array Event}{f f1:World->Result α}{x mN:Result β×Array Event}{q:Question}{a:Question->Nat}(h:HF C A σ ro xO es1 f1 W mN)(aQ:∀(τ:Tape) d,τ d q=a q->f (a8 W τ d)=f1 (a8 W τ (d+1)))(ad:∀r,xm C A σ ro xO es1 r mN->xm C A ρ ro W' es r x):HF C A ρ ro W' es f W x:=by
 obtain⟨k,zG,h⟩:=h;have key:∀(τ:Tape) d,(∀j q,j<k+1->τ (d+j) q=(match j with|0=>a q|j+1=>zG j q))->f (a8 W τ d)=f1 (a8 W τ (d+1))/\∀j q,j<k->τ (d+1+j) q=zG j q:=λτ d au=>
  ⟨aQ τ d (au 0 q (by omega)),λj q aC=>by
   have:=au (j+1) q (by omega);rw[show d+1+j=d+(j+1)by omega];exact this⟩
 refine⟨k+1,λj q=>match j with|0=>a q|j+1=>zG j q,h.imp (λ⟨r,U,ab⟩=>⟨r,ad r U,λτ d au=>?_⟩) λ⟨U,ab⟩=>⟨U,λτ d au=>?_⟩⟩
 ·obtain⟨aK,aO⟩:=key τ d au;rw[aK,ab τ (d+1) aO,show d+1+k=d+(k+1)by omega]
 ·obtain⟨aK,aO⟩:=key τ d au;rw[aK];exact ab τ (d+1) aO
theorem HF.stop{ρ:bA}{W W':World}{es:Array Event}{f:World->Result α}{x:Result β×Array Event}{h:Halt}(bq:Halt.still h)(aQ:∀τ d,f (a8 W τ d)=.halt h (a8 W τ d)):HF C A ρ ro W' es f W x:=
 ⟨0,λ_ _=>0,.inl ⟨.halt h W,Dh bq,λτ d _=>aQ τ d⟩⟩
theorem dR.out{ρ:bA}{s:Sem α}{s':Sem β}(h:dR C p p' A ρ s s'):∀(W W':World)(es:Array Event),dN C ρ ro W W'->(∀b,W'.heap.size<=b->¬ro b)->HF C A ρ ro W' es (s.run p) W (s'.runT p' W' es):=by
 have st:∀{ρ:bA}{W':World}{es es1:Array Event}{x:Result β×Array Event},(∀e∈es1,ja ρ ro e)->∀r,xm C A ρ ro W' (es++es1) r x->xm C A ρ ro W' es r x:=λhe r h=>xm.step h (Fr.refl _ _ _) he;induction h with
 |pure h=>exact λW W' es hw _=>⟨0,λ_ _=>0,.inl ⟨.ok _ W,⟨_,_,W',#[],by simp[Sem.runT],h,hw,Fr.refl _ _ _,by simp⟩,λ_ _ _=>rfl⟩⟩
 |@load ρ a a' k bB au _ az=>
  intro W W' es hw dY;rcases hw.cell au with⟨U,ab⟩|⟨v,bg,U,ab,ai⟩
  ·obtain⟨e,he,bq⟩:=hw.aiN au p false;refine .stop bq λτ d=>?_;have fG:(a8 W τ d).cell? a=none:=U;have oO:(a8 W τ d).farLoad p a false=.error e:=he;unfold Sem.run;rw[fG];simp only[show(Mode.plain==Mode.atomic)=false from rfl,oO]
  ·have aO:(Sem.load .plain a' bB).runT p' W' es=(bB bg).runT p' W' (es++#[⟨.cell a',false,false⟩]):=by conv=>lhs;unfold Sem.runT;rw[ab];simp only[show(Mode.plain==Mode.atomic)=false from rfl,QR]
   rw[aO];refine(az v bg ai W W' _ hw dY).same (λτ d=>?_) (st (yL (.rd au.b)));have fG:(a8 W τ d).cell? a=some v:=U
   conv=>lhs;unfold Sem.run;rw[fG]
 |@store ρ a a' v bg k bB au ai _ az=>
  intro W W' es hw dY;by_cases g1:∃c,v=.agg c
  ·obtain⟨c,rfl⟩:=g1;exact .stop (h:=.stuck "store: not the value of one cell") trivial λτ d=>by simp[Sem.run]
  by_cases g2:∃c,v=.tuple c
  ·obtain⟨c,rfl⟩:=g2;exact .stop (h:=.stuck "store: not the value of one cell") trivial λτ d=>by simp[Sem.run]
  have UI:∀c,v≠.agg c:=λc e=>g1 ⟨c,e⟩;have UJ:∀c,v≠.tuple c:=λc e=>g2 ⟨c,e⟩;obtain⟨g3,g4⟩:=ad0 ai UI UJ;rcases hw.cell au with⟨U,ab⟩|⟨u,u',U,ab,hu⟩
  ·obtain⟨e,bq,oO⟩:=hw.agI au p v false;refine .stop bq λτ d=>?_;have fG:(a8 W τ d).cell? a=none:=U;rw[Sem.run]
   ·rw[fG];simp only[show(Mode.plain==Mode.atomic)=false from rfl,oO τ d]
   ·exact UI
   ·exact UJ
  ·by_cases bO:W.frozen? a=true
   ·refine .stop (h:=.unsupported (.unsafePointer "a write to bytes that a string shares")) trivial λτ d=>?_;have fG:(a8 W τ d).cell? a=some u:=U;have Cm:(a8 W τ d).frozen? a=true:=bO;rw[Sem.run]
    ·rw[fG];simp only[Cm,if_true]
    ·exact UI
    ·exact UJ
   ·have FM:W'.frozen? a'≠true:=λx=>bO (hw.frozen au x);have aK:∀cI d,(Sem.store .plain a v k).run p (a8 W cI d)=k.run p (a8 (W.setCell a v) cI d):=λcI d=>by
     have fG:(a8 W cI d).cell? a=some u:=U;have Cm:¬(a8 W cI d).frozen? a=true:=bO;rw[Sem.run]
     ·rw[fG];simp only[if_neg Cm];rfl
     ·exact UI
     ·exact UJ
    have aO:(Sem.store .plain a' bg bB).runT p' W' es=bB.runT p' (W'.setCell a' bg) (es++#[⟨.cell a',true,false⟩]):=by
     rw[Sem.runT]
     ·rw[ab];simp only[if_neg FM,show(Mode.plain==Mode.atomic)=false from rfl,QR]
     ·exact g3
     ·exact g4
    obtain⟨o,o',k1,k2,bP⟩:=hw.obj _ _ au.b;have hcs:∃c c' e qI qy,o=.cells c e qI/\o'=.cells c' e qy/\cv C ρ c c'/\(∀i,qy.1<=i->i<qy.2->qI.1<=i/\i<qI.2)/\a.spot=none/\a.off<c.size:=by
     unfold World.cell? at U;rw[k1]at U;cases bP with
     |@cells c c' e qI qy cy dM=>
      simp only at U;split at U
      ·cases U
      ·rename_i ao;exact⟨c,c',e,qI,qy,rfl,rfl,cy,dM,by simpa using ao,(Array.getElem?_eq_some_iff.1 U).1⟩
     |_=>cases U
    obtain⟨c,c',e,qI,qy,rfl,rfl,cy,dM,gC,jF⟩:=hcs;have xn:¬ro a'.block:=by
     intro ad;obtain⟨d,t,n,aI,aV⟩:=hw.bK _ _ au.b ad;rw[k1]at aV;cases aV;refine bO ?_;unfold World.frozen?;rw[k1];simp;omega
    have fg:dN C ρ ro (W.setCell a v) (W'.setCell a' bg):=by
     refine hw.put au.b xn (o:=.cells (c.setIfInBounds a.off v) e qI) (o':=.cells (c'.setIfInBounds a'.off bg) e qy) (.cells (by rw[au.o];exact cy.set _ ai) dM) ?_ ?_ (by simp[World.setCell]) (by simp[World.setCell]) (λj aC=>getElem?_modify_ne (Ne.symm aC)) (λj aC=>getElem?_modify_ne (Ne.symm aC)) (λ_ _ _=>trivial)
     ·rw[getElem?_modify_self k1];simp[gC]
     ·rw[getElem?_modify_self k2];simp[au.s,gC]
    have aQ:Fr ρ ρ ro W' (W'.setCell a' bg):=by
     refine⟨by simp[World.setCell],rfl,rfl,rfl,cN.refl _,λb hb ad=>getElem?_modify_ne ?_,λ_ _ x=>.inl x⟩;rintro rfl;exact ad.elim (λx=>x _ au.b) xn
    rw[aO];exact(az _ _ _ fg (λb hb=>dY b (by simpa[World.setCell]using hb))).same (aK · ·) λr h=>h.step aQ (yL (.wr au.b xn))
 |@new ρ o o' k bB ar _ az=>
  intro W W' es hw dY;obtain⟨σ,U,ab,aiO,al,aJ⟩:=hw.new dY ar;have aO:(Sem.new o' bB).runT p' W' es=(bB W'.heap.size).runT p' { W' with heap:=W'.heap.push o' } (es++#[]):=by simp[Sem.runT]
  rw[aO];exact(az σ _ _ U al.ok ab aiO _ _ (es++#[]) al (λb hb=>dY b (by simp at hb;omega))).same (λ_ _=>rfl) λr h=>h.step aJ (by simp)
 |@shape ρ r bR k bB ad _ az=>
  intro W W' es hw dY;show HF C A ρ ro W' es _ W ((bB (W'.shape? bR)).runT p' W' es);rw[hw.shape ad];exact(az (W.shape? r) W W' es hw dY).same (λ_ _=>rfl) λ_ h=>h
 |@frozen ρ a a' k bB au _ az=>exact λW W' es hw dY=>(az _ _ (hw.frozen au) W W' es hw dY).same (λ_ _=>rfl) λ_ h=>h
 |@getObj ρ r bR k bB ad _ az=>
  intro W W' es hw dY;obtain⟨o,o',U,ab,al⟩:=hw.obj _ _ ad;have key:(∃c e f,o=.cells c e f)\/((∀τ d,(Sem.getObj r k).run p (a8 W τ d)=(k o).run p (a8 W τ d))/\(Sem.getObj bR bB).runT p' W' es=(bB o').runT p' W' (es++#[⟨.obj bR,false,false⟩])):=by
   cases al with
   |cells=>exact .inl ⟨_,_,_,rfl⟩
   |_=>exact .inr ⟨λτ d=>by rw[Sem.run,show(a8 W τ d).heap[r]?=_ from U],by rw[Sem.runT,ab];rfl⟩
  rcases key with⟨c,e,f,rfl⟩|⟨aK,aO⟩
  ·exact .stop (h:=.stuck "getObj: a row of cells") trivial λτ d=>by unfold Sem.run;rw[show(a8 W τ d).heap[r]?=_ from U]
  ·rw[aO];exact(az o o' al W W' _ hw dY).same aK (st (yL (.get ad)))
 |@setObj ρ r bR o o' k bB ad ar _ az=>
  intro W W' es hw dY;obtain⟨x,bk,U,ab,al⟩:=hw.obj _ _ ad;have aiP:Obj.isChan o'=false:=by cases ar<;>rfl
  have key:(∃c e f,x=.cells c e f)\/((∀c e f,x≠.cells c e f)/\(∀τ d,(Sem.setObj r o k).run p (a8 W τ d)=k.run p (a8 { W with heap:=W.heap.setIfInBounds r o } τ d))/\(Sem.setObj bR o' bB).runT p' W' es=bB.runT p' { W' with heap:=W'.heap.setIfInBounds bR o' } (es++#[⟨.obj bR,true,false⟩])):=by
   cases al with
   |cells=>exact .inl ⟨_,_,_,rfl⟩
   |_=>exact .inr ⟨by simp,λτ d=>by rw[Sem.run,show(a8 W τ d).heap[r]?=_ from U];rfl,by rw[Sem.runT,ab,aiP];rfl⟩
  rcases key with⟨c,e,f,rfl⟩|⟨aj,aK,aO⟩
  ·exact .stop (h:=.stuck "setObj: a row of cells") trivial λτ d=>by unfold Sem.run;rw[show(a8 W τ d).heap[r]?=_ from U]
  ·have xn:¬ro bR:=λaiQ=>by
    obtain⟨c,t,n,aI,ah⟩:=hw.bK _ _ ad aiQ;rw[U]at ah;cases ah;exact aj _ _ _ rfl
   have fI:r<W.heap.size:=(Array.getElem?_eq_some_iff.1 U).1;have ei:bR<W'.heap.size:=(Array.getElem?_eq_some_iff.1 ab).1;have fg:=hw.put ad xn ar (H:=W.heap.setIfInBounds r o) (H':=W'.heap.setIfInBounds bR o') (by simp[fI]) (by simp[ei]) (by simp) (by simp) (λj aC=>Array.getElem?_setIfInBounds_ne (Ne.symm aC)) (λj aC=>Array.getElem?_setIfInBounds_ne (Ne.symm aC)) (λy aF nq=>by rw[U]at aF;cases aF;cases x<;>first|exact absurd rfl (aj _ _ _)|exact nq.elim);have aQ:Fr ρ ρ ro W' { W' with heap:=W'.heap.setIfInBounds bR o' }:=by
    refine⟨by simp,rfl,rfl,rfl,cN.refl _,λb hb zT=>Array.getElem?_setIfInBounds_ne ?_,λ_ _ x=>.inl x⟩;rintro rfl;exact zT.elim (λx=>x _ ad) xn
   rw[aO];exact(az _ _ _ fg (λb hb=>dY b (by simpa using hb))).same (aK · ·) λr h=>h.step aQ (yL (.set ad xn))
 |@choose ρ q k bB _ az=>
  intro W W' es hw dY;by_cases aH:q.forced=true
  ·have aO:(Sem.choose q bB).runT p' W' es=(bB 0).runT p' W' es:=by rw[Sem.runT,if_pos aH]
   rw[aO];exact(az 0 W W' es hw dY).same (λτ d=>by rw[Sem.run,if_pos aH]) λ_ h=>h
  ·have aO:(Sem.choose q bB).runT p' W' es=(bB (q.cut (W'.tape W'.drawn q))).runT p' { W' with drawn:=W'.drawn+1 } (es++#[]):=by rw[Sem.runT,if_neg aH,Array.append_empty]
   rw[aO];refine(az _ W { W' with drawn:=W'.drawn+1 } (es++#[]) (hw.B0 W'.tape (W'.drawn+1)) dY).ask (q:=q) (a:=W'.tape W'.drawn) (λτ d a1=>?_) λr h=>h.step ⟨Nat.le_refl _,rfl,rfl,rfl,cN.refl _,λ_ _ _=>rfl,λ_ _ x=>.inl x⟩ (by simp);rw[Sem.run,if_neg aH,←a1];rfl
 |@yK ρ q k s _ az=>
  intro W W' es hw dY;by_cases aH:q.forced=true
  ·exact(az 0 W W' es hw dY).same (λτ d=>by rw[Sem.run,if_pos aH]) λ_ h=>h
  ·refine(az (q.cut 0) W W' es hw dY).ask (q:=q) (a:=λ_=>0) (λτ d a1=>?_) λ_ h=>h;rw[Sem.run,if_neg aH,←a1];rfl
 |@program ρ k bB _ az=>exact λW W' es hw dY=>(az W W' es hw dY).same (λ_ _=>rfl) λ_ h=>h
 |@ext ρ f k bB _ az=>exact λW W' es hw dY=>(az W W' (es++#[⟨.mark (.extern f),false,true⟩]) hw dY).same (λ_ _=>rfl) (st (yL .ext))
 |@room ρ k bB _ az=>exact λW W' es hw dY=>(az W W' (es++#[⟨.mark .noRoom,false,true⟩]) hw dY).same (λ_ _=>rfl) (st (yL .room))
 |@never ρ s s' h k=>exact λW W' es hw dY=>⟨0,λ_ _=>0,.inr ⟨h,λτ d _=>k (a8 W τ d)⟩⟩
 |@y4 ρ m k s _ az=>exact λW W' es hw dY=>(az W W' es hw dY).same (λ_ _=>rfl) λ_ h=>h
 |@uw ρ k s _ az=>exact λW W' es hw dY=>(az W W' es hw dY).same (λ_ _=>rfl) λ_ h=>h
 |@yx ρ s k _ az=>exact λW W' es hw dY=>(az W W' es hw dY).same (λ_ _=>rfl) λ_ h=>h
 |@wL ρ r k s _ az=>exact λW W' es hw dY=>(az (W.shape? r) W W' es hw dY).same (λ_ _=>rfl) λ_ h=>h
 |@wy ρ a k s _ az=>exact λW W' es hw dY=>(az (W.frozen? a) W W' es hw dY).same (λ_ _=>rfl) λ_ h=>h
 |halt h=>exact λW W' es hw dY=>.stop h λ_ _=>rfl
 |@panic ρ v bg h=>exact λW W' es hw dY=>⟨0,λ_ _=>0,.inl ⟨.halt (.panic v) W,.inr ⟨_,_,W',#[],by simp[Sem.runT],h,hw,Fr.refl _ _ _,by simp⟩,λ_ _ _=>rfl⟩⟩
theorem dR.run{ρ:bA}{s:Sem α}{s':Sem β}(h:dR C p p' A ρ s s')(W W':World)(es:Array Event)(d:Nat)(hw:dN C ρ ro W W')(dY:∀b,W'.heap.size<=b->¬ro b):∃τ:Tape,∀cI:Tape,(∀i q,d<=i->cI i q=τ i q)->xm C A ρ ro W' es (s.run p (a8 W cI d)) (s'.runT p' W' es):=by
 obtain⟨k,zG,h⟩:=h.out (ro:=ro) W W' es hw dY;refine⟨λi q=>zG (i-d) q,λcI iE=>?_⟩;have au:∀j q,j<k->cI (d+j) q=zG j q:=λj q _=>by rw[iE _ _ (by omega)];show zG (d+j-d) q=_;rw[show d+j-d=j by omega]
 rcases h with⟨r,U,ab⟩|⟨U,ab⟩
 ·rw[ab cI d au];exact U.B0 _ _
 ·obtain⟨x,bF,e,aj⟩:=ab cI d au;rw[e];rcases aj with⟨v,rfl⟩|aj
  ·exact .inl U
  ·exact Dh aj
end
end
section
open Go
mutual
def w0(F:FuncId->Bool):Value->Bool
 |.bool _ | .int _ _ | .string _ | .pointer none | .slice none _ _ | .map none | .chan none | .nilFunc | .nilIface=>true
 |.func (.func f) ⟨a⟩ ⟨b⟩=>F f&&y5 F a&&y5 F b
 |.iface _ v=>w0 F v
 |.agg ⟨a⟩ | .tuple ⟨a⟩=>y5 F a
 |_=>false
def y5(F:FuncId->Bool):List Value->Bool
 |[]=>true
 |v::af=>w0 F v&&y5 F af
end
def xP(p:Program)(t:TypeId):Bool:=match p.info? t with
 |some i=>(match i.zero with
  |some v=>w0 (λ_=>false) v
  |none=>true)
 |none=>true
def zU(p:Program)(t:TypeId):Bool:=match p.underlying t with
 |some (.slice _)|some .string=>true
 |_=>false
def oo(p:Program)(t:TypeId):Bool:=match p.underlying t with
 |some (.slice e)=>xP p e
 |some (.map _ e)=>xP p e
 |_=>true
section
variable{C:ee}{ρ:bA}{F:FuncId->Bool}
mutual
theorem Et(aw:∀f,F f=true->C.F f):∀(v:Value),w0 F v=true->aZ C ρ v v
 |.bool _,_=>.bool
 |.int _ _,_=>.int
 |.string _,_=>.string
 |.pointer none,_=>.ca
 |.slice none _ _,_=>.bC
 |.map none,_=>.qi
 |.chan none,_=>.vh
 |.nilFunc,_=>.nilFunc
 |.nilIface,_=>.nilIface
 |.func (.func f) ⟨a⟩ ⟨b⟩,h=>by
  simp[w0]at h;have U:=bE.ofList (AE aw a h.1.2);have ab:=bE.ofList (AE aw b h.2);exact .func (.func (aw _ h.1.1)) U.1 U.2 ab.1 ab.2
 |.iface _ v,h=>by exact .iface (Et aw v h)
 |.agg ⟨a⟩,h=>by exact aZ.te (bE.ofList (AE aw a h))
 |.tuple ⟨a⟩,h=>by exact aZ.tuple' (bE.ofList (AE aw a h))
 |.pointer (some _),h | .slice (some _) _ _,h | .map (some _),h | .chan (some _),h | .float _ _,h | .complex _ _ _,h=>by trivial
 |.func (.method _) _ _,h | .func (.methodOf _ _) _ _,h | .func (.via _ _ _ _) _ _,h | .func (.yield _) _ _,h=>by trivial
theorem AE(aw:∀f,F f=true->C.F f):∀(af:List Value),y5 F af=true->df (aZ C ρ) af af
 |[],_=>.nil
 |v::af,h=>by
  simp[y5]at h;exact .cons (Et aw v h.1) (AE aw af h.2)
end
end
structure PP(C:ee)(p p':Program):Prop where
 info:∀t,p'.info? t=p.info? t
 Lt:∀t,p'.underlying t=p.underlying t
 rt:p'.rt=p.rt
 TI:p'.globals.size=p.globals.size
 aiR:∀t,p'.stoodInHeld t=p.stoodInHeld t
 dep:p'.depth=p.depth
 aiS:∀d t,p'.eqGuardType d t=p.eqGuardType d t
 coe:∀t,p'.cellsOf t=p.cellsOf t
 aiT:∀t,p'.bytesOf t=p.bytesOf t
 aiU:∀d t o,byteOfCell p' d t o=byteOfCell p d t o
 aiV:∀d t n o b,cellAtBytes p' d t n o b=cellAtBytes p d t n o b
 agJ:∀f n,C.CL f n->∃fn cC,p.funcs[f]?=some fn/\p'.funcs[f]?=some cC/\fn.name ≠ "runtime.NumGoroutine" /\ cC.name ≠ "runtime.NumGoroutine" /\ fn.body.isSome=true/\cC.body.isSome=true
 fns:∀f,C.F f->∃fn cC,p.funcs[f]?=some fn/\p'.funcs[f]?=some cC/\fn.name ≠ "runtime.NumGoroutine" /\ cC.name ≠ "runtime.NumGoroutine" /\ fn.body.isSome=true/\cC.body.isSome=true
section
variable{C:ee}{p p':Program}{α β γ δ:Type}{A:bA->α->β->Prop}{ρ:bA}
abbrev dx(C:ee)(p p':Program)(ρ:bA)(s s':Sem Value):Prop:=dR C p p' (λσ=>aZ C σ) ρ s s'
abbrev fJ{α:Type}(C:ee)(p p':Program)(ρ:bA)(s s':Sem α):Prop:=dR C p p' (λ_=>Eq) ρ s s'
theorem bp{tR:String}{s:Sem β}:dR C p p' A ρ (stuck tR:Sem α) s:=.halt trivial
theorem cG{u:Unsupported}{s:Sem β}(h:Halt.still (.unsupported u):=by trivial):dR C p p' A ρ (unsupported u:Sem α) s:=.halt h
theorem dc{c:Prop}[Decidable c]{s t:Sem α}{s' bw:Sem β}(h:c->dR C p p' A ρ s s')(k:¬c->dR C p p' A ρ t bw):dR C p p' A ρ (if c then s else t) (if c then s' else bw):=by grind
theorem cg{s s':Sem α}{f:α->Sem γ}{bj:α->Sem δ}{B:bA->γ->δ->Prop}(h:fJ C p p' ρ s s')(ok:b0 C.G ρ)(aQ:∀σ a,cN ρ σ->b0 C.G σ->dR C p p' B σ (f a) (bj a)):dR C p p' B ρ (s >>= f) (s' >>= bj):=
 dR.bind h ok λσ a b ak ar e=>by grind
theorem nK{B:bA->γ->δ->Prop}{f:Program->Sem γ}{bj:Program->Sem δ}(h:dR C p p' B ρ (f p) (bj p')):dR C p p' B ρ (program >>= f) (program >>= bj):=.program h
variable(ae:PP C p p')
include ae
theorem yk(t:TypeId):fJ C p p' ρ (typeInfo t) (typeInfo t):=by
 refine nK ?_;rw[ae.info];cases p.info? t with
 |some i=>exact .pure rfl
 |none=>exact bp
theorem G6(t:TypeId):dR C p p' (λ_ i cm=>cm=i/\p.info? t=some i) ρ (typeInfo t) (typeInfo t):=by
 refine nK ?_;rw[ae.info];cases h:p.info? t with
 |some i=>exact .pure ⟨rfl,rfl⟩
 |none=>exact bp
theorem mh(t:TypeId):fJ C p p' ρ (underlying t) (underlying t):=by
 refine nK ?_;rw[ae.Lt];cases p.underlying t with
 |some i=>exact .pure rfl
 |none=>exact bp
theorem lJ(t:TypeId):dR C p p' (λ_ d dq=>dq=d/\p.underlying t=some d) ρ (underlying t) (underlying t):=by
 refine nK ?_;rw[ae.Lt];cases h:p.underlying t with
 |some i=>exact .pure ⟨rfl,rfl⟩
 |none=>exact bp
theorem mT(ok:b0 C.G ρ)(t:TypeId):fJ C p p' ρ (sizeOf t) (sizeOf t):=
 cg (yk ae t) ok λ_ _ _ _=>.pure rfl
theorem QS(ok:b0 C.G ρ)(t:TypeId):fJ C p p' ρ (isAgg t) (isAgg t):=
 cg (mh ae t) ok λσ d _ _=>by cases d<;>exact .pure rfl
theorem r7(ok:b0 C.G ρ)(t:TypeId)(bO:xP p t=true):dx C p p' ρ (zeroValue t) (zeroValue t):=by
 refine dR.bind (G6 ae t) ok λσ i cm _ _ ⟨U,ab⟩=>?_;subst U;cases h:cm.zero with
 |some v=>
  unfold xP at bO;rw[ab]at bO;dsimp only at bO;rw[h]at bO;exact .pure (Et (λf aQ=>by cases aQ) v bO)
 |none=>exact cG
omit ae
theorem RR{a a':Addr}(h:AdR ρ a a'):dx C p p' ρ (load a) (load a'):=.load h λ_ _ ai=>.pure ai
theorem acE{a a':Addr}(h:AdR ρ a a'){v bg:Value}(ai:aZ C ρ v bg):fJ C p p' ρ (store a v) (store a' bg):=.store h ai (.pure rfl)
theorem Md:∀(n:Nat){ρ:bA}(ok:b0 C.G ρ){a a':Addr}(h:AdR ρ a a')(i:Nat){acc th:Array Value},cv C ρ acc th->dR C p p' (λσ=>cv C σ) ρ (loadCellsFrom a i n acc) (loadCellsFrom a' i n th)
 |0,ρ,ok,a,a',h,i,acc,th,va=>.pure va
 |n+1,ρ,ok,a,a',h,i,acc,th,va=>dR.bind (RR (h.add i)) ok λσ v bg ak ar ai=>Md n ar (h.mono ak) (i+1) (bE.push (cv.mono ak va) ai)
theorem MZ(ok:b0 C.G ρ){a a':Addr}(h:AdR ρ a a')(n:Nat):dR C p p' (λσ=>cv C σ) ρ (loadCells a n) (loadCells a' n):=Md n ok h 0 bE.nil
theorem C1:∀{af cB:List Value}{ρ:bA}(ok:b0 C.G ρ){a a':Addr}(h:AdR ρ a a')(i:Nat),df (aZ C ρ) af cB->fJ C p p' ρ (storeCells a af i) (storeCells a' cB i)
 |_,_,ρ,ok,a,a',h,i,.nil=>.pure rfl
 |_,_,ρ,ok,a,a',h,i,.cons ai ao=>cg (acE (h.add i) ai) ok λσ _ ak ar=>C1 ar (h.mono ak) (i+1) (ao.mono λ_ _ x=>x.mono ak)
theorem ux{v bg:Value}(h:aZ C ρ v bg):cv C ρ v.cells bg.cells:=by
 cases h with
 |agg U ab=>trivial
 |bool=>exact bE.one .bool
 |int=>exact bE.one .int
 |string=>exact bE.one .string
 |ca=>exact bE.one .ca
 |ptr h=>exact bE.one (.ptr h)
 |bC=>exact bE.one .bC
 |sl h=>exact bE.one (.sl h)
 |jc=>exact bE.one .jc
 |qi=>exact bE.one .qi
 |map h=>exact bE.one (.map h)
 |vh=>exact bE.one .vh
 |chan h=>exact bE.one (.chan h)
 |func U ab al aJ bm=>exact bE.one (.func U ab al aJ bm)
 |nilFunc=>exact bE.one .nilFunc
 |iface h=>exact bE.one (.iface h)
 |nilIface=>exact bE.one .nilIface
 |tuple U ab=>exact bE.one (.tuple U ab)
 |vi=>exact bE.one .vi
 |@bT bg U ab al=>
  have:bg.cells=#[bg]:=by cases bg<;>first|rfl|grind
  rw[this];exact bE.one (.bT U ab al)
include ae
theorem OA(ok:b0 C.G ρ)(t:TypeId){a a':Addr}(h:AdR ρ a a'):dx C p p' ρ (loadVar t a) (loadVar t a'):=
 cg (QS ae ok t) ok λσ b ak ar=>dc (λ_=>cg (mT ae ar t) ar λτ n er eC=>dR.bind (MZ eC (h.mono (ak.trans er)) n) eC λυ x y _ _ eI=>.pure (aZ.te eI)) (λ_=>RR (h.mono ak))
theorem XX(ok:b0 C.G ρ)(t:TypeId){a a':Addr}(h:AdR ρ a a'){v bg:Value}(ai:aZ C ρ v bg):fJ C p p' ρ (storeVar t a v) (storeVar t a' bg):=by
 have ah:=ux ai;refine cg (mT ae ok t) ok λσ n ak ar=>?_;rw[ah.1];exact dc (λ_=>bp) λ_=>C1 ar (h.mono ak) 0 (bE.toList (cv.mono ak ah))
omit ae
theorem AF(ok:b0 C.G ρ)(e:TypeId){c c':Array Value}(h:cv C ρ c c'):dR C p p' (λσ=>si σ) ρ (newRow e c) (newRow e c'):=
 .new (.cells h λ_ _ h=>⟨Nat.zero_le _,h⟩) λσ r bR ak ar ad zw=>.pure ⟨⟨ad,rfl,rfl⟩,zw trivial⟩
theorem PC(ok:b0 C.G ρ)(e:TypeId){v bg:Value}(h:aZ C ρ v bg):dR C p p' (λσ=>AdR σ) ρ (newVar e v) (newVar e bg):=(AF ok e (ux h)).TH λ_ _ _ h=>h.toAdR
include ae
theorem uN(ok:b0 C.G ρ)(t:TypeId){cs cs':Array Value}(h:cv C ρ cs cs')(off:Nat):dx C p p' ρ (part t cs off) (part t cs' off):=by
 refine cg (QS ae ok t) ok λσ b ak ar=>dc (λ_=>cg (mT ae ar t) ar λτ n er eC=>.pure (aZ.te (bE.extract (cv.mono (ak.trans er) h) _ _))) (λ_=>?_);rcases bE.get h off with⟨U,ab⟩|⟨x,y,U,ab,ad⟩
 ·grind [bp]
 ·rw[U,ab];exact .pure (ad.mono ak)
omit ae
theorem Au{v bg:Value}(h:aZ C ρ v bg):fJ C p p' ρ (asIntOf v) (asIntOf bg):=by
 cases h with
 |int=>exact .pure rfl
 |ptr=>exact cG
 |_=>exact bp
theorem Eu(ok:b0 C.G ρ){v bg:Value}(h:aZ C ρ v bg):fJ C p p' ρ (asInt v) (asInt bg):=cg (Au h) ok λ_ _ _ _=>.pure rfl
theorem Is{v bg:Value}(h:aZ C ρ v bg):fJ C p p' ρ (asBool v) (asBool bg):=by
 cases h with
 |bool=>exact .pure rfl
 |_=>exact bp
theorem acF{v bg:Value}(h:aZ C ρ v bg):dR C p p' (λσ=>cv C σ) ρ (asAgg v) (asAgg bg):=by
 cases h with
 |agg U ab=>exact .pure ⟨U,ab⟩
 |_=>exact bp
theorem Ev{v bg:Value}(h:aZ C ρ v bg):dR C p p' A ρ (goPanic v:Sem α) (goPanic bg:Sem β):=.panic h
theorem Ba{a b a' a6:Value}(h:aZ C ρ a a')(k:aZ C ρ b a6):cv C ρ #[a,b] #[a',a6]:=bE.push (bE.one h) k
def RuntimeError.ad1:RuntimeError->Prop
 |.typeAssertion .. | .panicNil | .unhashable _=>False
 |_=>True
include ae
theorem me{e:RuntimeError}(he:RuntimeError.ad1 e):dR C p p' A ρ (runtimePanic e:Sem α) (runtimePanic e:Sem β):=by
 refine nK ?_;have:=ae.rt;cases e with
 |bounds x y s c=>
  simp only[this];exact Ev (.iface (aZ.te ((Ba .int .int).push .bool |>.push .int)))
 |error m=>simp only[this];exact Ev (.iface .string)
 |plain m=>simp only[this];exact Ev (.iface .string)
 |nilDeref=>simp only[this];exact Ev (.iface .string)
 |_=>trivial
theorem aaU{v bg:Value}(h:aZ C ρ v bg):dR C p p' (λσ=>AdR σ) ρ (asAddr v) (asAddr bg):=by
 cases h with
 |ptr h=>exact .pure h
 |ca=>exact me (e:=.nilDeref) ae trivial
 |_=>exact bp
theorem vS(ok:b0 C.G ρ)(k:IntKind)(x y:Int)(code:BoundsCode):dR C p p' A ρ (boundsPanic k x y code:Sem α) (boundsPanic k x y code:Sem β):=by
 refine dc (λ_=>?_) (λ_=>?_)
 ·exact .choose λn=>me (e:=.bounds _ _ _ code) ae trivial
 ·exact me (e:=.bounds _ _ _ code) ae trivial
end
end
section
open Go
section
variable{C:ee}{p p':Program}{α β γ δ:Type}{A:bA->α->β->Prop}{B:bA->γ->δ->Prop}{ρ:bA}
theorem rE{a:α}{b:β}{f:α->Sem γ}{bj:β->Sem δ}(h:dR C p p' B ρ (f a) (bj b)):dR C p p' B ρ (pure a >>= f) (pure b >>= bj):=h
theorem jW{tR:String}{f:α->Sem γ}{s:Sem δ}:dR C p p' B ρ ((stuck tR:Sem α) >>= f) s:=.halt trivial
theorem n6{u:Unsupported}{f:α->Sem γ}{s:Sem δ}(h:Halt.still (.unsupported u):=by trivial):dR C p p' B ρ ((unsupported u:Sem α) >>= f) s:=.halt h
theorem yy{q:Question}{f:Nat->Sem γ}{bj:Nat->Sem δ}(h:∀n,dR C p p' B ρ (f n) (bj n)):dR C p p' B ρ (choose q >>= f) (choose q >>= bj):=.choose h
theorem OB(n:Nat):fJ C p p' ρ (askRoom n) (askRoom n):=dc (λ_=>.room (.pure rfl)) λ_=>.pure rfl
theorem ml{r bR:Nat}(ad:ρ r bR){f:Obj->Sem γ}{bj:Obj->Sem δ}(h:∀o o',jj C ρ o o'->dR C p p' B ρ (f o) (bj o')):dR C p p' B ρ (getObj r >>= f) (getObj bR >>= bj):=.getObj ad h
theorem qO{r bR:Nat}(ad:ρ r bR){o o':Obj}(ar:jj C ρ o o'):fJ C p p' ρ (setObj r o) (setObj bR o'):=.setObj ad ar (.pure rfl)
theorem AG{o o':Obj}(ar:jj C ρ o o'):dR C p p' (λσ=>σ) ρ (newObj o) (newObj o'):=.new ar λσ r bR _ _ ad _=>.pure ad
theorem Di{v bg:Value}(h:aZ C ρ v bg):dR C p p' (λσ=>AdR σ) ρ (Instr.sureAddr v) (Instr.sureAddr bg):=by
 cases h with
 |ptr h=>exact .pure h
 |_=>exact bp
inductive gG{α β:Type}(R:α->β->Prop):Option α->Option β->Prop
 |none:gG R none none
 |some {a:α} {b:β}:R a b->gG R (some a) (some b)
theorem gG.mono{R R':α->β->Prop}{x:Option α}{y:Option β}(h:gG R x y)(k:∀a b,R a b->R' a b):gG R' x y:=by
 cases h with
 |none=>exact .none
 |some h=>exact .some (k _ _ h)
theorem Zl{b:Option Addr}{n m:Nat}{bg:Value}(h:aZ C ρ (.slice b n m) bg):∃a6,bg=.slice a6 n m/\(gG (si ρ) b a6\/(n=0/\m=0/\(∃a,b=some a)/\∃a,a6=some a)):=by
 cases h with
 |bC=>exact⟨_,rfl,.inl .none⟩
 |sl h=>exact⟨_,rfl,.inl (.some h)⟩
 |jc=>grind
theorem Yu{z:Array Value}(bO:cv C ρ z z)(n:Nat)(aI:n=0\/z.size≠0):cv C ρ ((Array.range n).map (λx=>z[x%z.size]!)) ((Array.range n).map (λx=>z[x%z.size]!)):=by
 refine⟨by simp,λi x y aj aF=>?_⟩;simp only[Array.getElem?_map]at aj aF;obtain⟨a,au,rfl⟩:=Option.map_eq_some_iff.1 aj;rw[au]at aF;simp  at aF;subst aF;have aX:i<n:=by grind
 rcases aI with aI|aI
 ·omega
 ·have aU:a%z.size<z.size:=Nat.mod_lt _ (by omega);exact bO.2 (a%z.size) _ _ (by simp[aU]) (by simp[aU])
theorem WX{z dy:Array Value}(bO:cv C ρ z dy)(n:Nat)(aI:n=0\/z.size≠0):cv C ρ ((Array.range n).map (λx=>z[x%z.size]!)) ((Array.range n).map (λx=>dy[x%dy.size]!)):=by
 refine⟨by simp,λi x y aj aF=>?_⟩;simp only[Array.getElem?_map]at aj aF;obtain⟨a,au,rfl⟩:=Option.map_eq_some_iff.1 aj;rw[au]at aF;simp  at aF;subst aF;have aX:i<n:=by grind
 rcases aI with aI|aI
 ·omega
 ·have aU:a%z.size<z.size:=Nat.mod_lt _ (by omega);have xh:a%dy.size<dy.size:=by rw[←bO.1];exact aU
  exact bO.2 (a%z.size) _ _ (by simp[aU]) (by rw[bO.1];simp[xh])
theorem Wm{ρ:bA}:aZ C ρ (default:Value) (default:Value):=by exact .bool
theorem CX{z dy:Array Value}(bO:cv C ρ z dy)(n:Nat):cv C ρ ((Array.range n).map (λx=>z[x%z.size]!)) ((Array.range n).map (λx=>dy[x%dy.size]!)):=by
 by_cases aI:z.size=0
 ·have qv:dy.size=0:=by rw[←bO.1];exact aI
  refine⟨by simp,λi x y aj aF=>?_⟩;simp only[Array.getElem?_map]at aj aF;obtain⟨a,au,rfl⟩:=Option.map_eq_some_iff.1 aj;rw[au]at aF;simp  at aF;subst aF;rw[getElem!_neg z _ (by omega),getElem!_neg dy _ (by omega)];exact Wm
 ·exact WX bO n (.inr aI)
variable(ae:PP C p p')
include ae
theorem acG(ok:b0 C.G ρ)(t:TypeId)(bO:xP p t=true):dx C p p' ρ (Instr.alloc t true (.tuple #[])) (Instr.alloc t true (.tuple #[])):=by
 refine dR.bind (r7 ae ok t bO) ok λσ a b ak ar h=>?_;exact dR.bind (PC ar t h) ar λτ x y _ _ eI=>.pure (.ptr eI)
omit ae in
theorem afk(ok:b0 C.G ρ)(t:TypeId){v bg:Value}(h:aZ C ρ v bg):dx C p p' ρ (Instr.box t v) (Instr.box t bg):=
 dR.bind (PC ok t h) ok λτ x y _ _ eI=>.pure (.ptr eI)
theorem aaV(ok:b0 C.G ρ)(t:TypeId){v bg:Value}(h:aZ C ρ v bg):dx C p p' ρ (Instr.loadAt t v) (Instr.loadAt t bg):=
 dR.bind (Di h) ok λσ a b _ ar bL=>OA ae ar t bL
theorem Zm(ok:b0 C.G ρ)(t:TypeId){v bg:Value}(h:aZ C ρ v bg){x bk:Value}(aj:aZ C ρ x bk):fJ C p p' ρ (Instr.storeAt t v x) (Instr.storeAt t bg bk):=
 dR.bind (Di h) ok λσ a b ak ar bL=>XX ae ar t bL (aj.mono ak)
def IV(p:Program)(s:TypeId)(i:Nat):Bool:=match p.underlying s with
 |some (.struct fs)=>match fs[i]? with
  |some f=>match p.info? f.type with
   |some inf=>inf.size != 0
   |none=>true
  |none=>true
 |_=>true
theorem Zn(ok:b0 C.G ρ)(s:TypeId)(i:Nat)(aq:IV p s i=true){v bg:Value}(h:aZ C ρ v bg):dx C p p' ρ (Instr.fieldAt s v i) (Instr.fieldAt s bg i):=by
 refine dR.bind (lJ ae s) ok λσ d dq ak ar ⟨e,aV⟩=>?_;subst e;cases dq with
 |struct fs=>
  dsimp only;cases aQ:fs[i]? with
  |none=>exact bp
  |some f=>
   refine dR.bind (Di (h.mono ak)) ar λτ a b er eC bL=>?_;refine dR.bind (A:=λσ=>AdR σ) ?_ eC λυ x y _ _ eI=>.pure (.ptr eI);refine dR.bind (A:=λ_ n eu=>eu=n/\n≠0) ?_ eC λυ n eu agK _ ⟨aK,aO⟩=>?_
   ·refine dR.bind (G6 ae f.type) eC λυ i1 i2 _ _ ⟨aK,aO⟩=>?_;subst aK;refine .pure ⟨rfl,?_⟩;grind [IV]
   ·subst aK;rw[if_neg aO,if_neg aO];exact .pure ((bL.mono agK).add _)
 |_=>exact bp
theorem JU(ok:b0 C.G ρ){b a6:Option Addr}(h:gG (AdR ρ) b a6)(k:IntKind)(i:Int)(len:Nat)(elem:TypeId)(TJ:Bool):
  dx C p p' ρ (match b with
   |some a=>if 0<=i/\i<len then(do pure (.pointer (some (a.add (i.toNat*(←sizeOf elem))))))else if TJ=true then unsupported (.noEntry "op/indexAddr.an index out of range at an array of length 0 or 1 (ledger 616)")else boundsPanic k i len .index
   |none=>boundsPanic k i 0 .index) (match a6 with
   |some a=>if 0<=i/\i<len then(do pure (.pointer (some (a.add (i.toNat*(←sizeOf elem))))))else if TJ=true then unsupported (.noEntry "op/indexAddr.an index out of range at an array of length 0 or 1 (ledger 616)")else boundsPanic k i len .index
   |none=>boundsPanic k i 0 .index):=by
 cases h with
 |none=>grind [vS]
 |some h=>
  refine dc (λ_=>cg (mT ae ok elem) ok λσ n ak _=>.pure (.ptr ((h.mono ak).add _))) λ_=>?_;exact dc (λ_=>cG) λ_=>vS ae ok _ _ _ _
theorem Zo(ok:b0 C.G ρ)(t:TypeId){v bg:Value}(h:aZ C ρ v bg){x bk:Value}(aj:aZ C ρ x bk):dx C p p' ρ (Instr.indexAt t v x) (Instr.indexAt t bg bk):=by
 refine cg (Au aj) ok λσ CS ak ar=>?_;obtain⟨k,i⟩:=CS;refine cg (mh ae t) ar λτ d er eC=>?_;have bc:=h.mono (ak.trans er);cases d with
 |array len elem=>
  refine dR.bind (Di bc) eC λυ a b bQ cz bL=>rE ?_;exact cg (mh ae t) cz λω d dC eY=>JU ae eY (.some (bL.mono dC)) k i len elem _
 |slice elem=>
  cases bc with
  |@bC n m=>exact rE (cg (mh ae t) eC λω d dC eY=>JU ae eY .none k i n elem false)
  |sl au=>exact rE (cg (mh ae t) eC λω d dC eY=>JU ae eY (.some (au.toAdR.mono dC)) k i _ elem _)
  |jc=>
   refine rE (cg (mh ae t) eC λω d dC eY=>?_);exact dc (λh=>absurd h.2 (by omega)) λ_=>dc (λ_=>cG) λ_=>vS ae eY _ _ _ _
  |_=>exact jW
 |_=>exact jW
theorem C3(ok:b0 C.G ρ){x bk:Value}(aj:aZ C ρ x bk)(y:Nat)(code:BoundsCode):fJ C p p' ρ (Instr.sliceBound x y code) (Instr.sliceBound bk y code):=by
 refine cg (Au aj) ok λσ CS ak ar=>?_;exact dc (λ_=>.pure rfl) λ_=>vS ae ar _ _ _ _
theorem JV(ok:b0 C.G ρ){l aG:Option Value}(c:BoundsCode)(ai m:Nat):gG (aZ C ρ) l aG->fJ C p p' ρ (match l with|some v=>(do let l ←Instr.sliceBound v ai c;pure (l,ai,m))|none=>(do let l ←pure 0;pure (l,ai,m))) (match aG with|some v=>(do let l ←Instr.sliceBound v ai c;pure (l,ai,m))|none=>(do let l ←pure 0;pure (l,ai,m))):=by
 intro ak;cases ak with
 |none=>exact .pure rfl
 |some ak=>exact cg (C3 ae ok ak _ _) ok λ_ _ _ _=>.pure rfl
theorem GU(ok:b0 C.G ρ)(is:Bool)(len cap:Nat){l aG h bc m m':Option Value}(ak:gG (aZ C ρ) l aG)(bq:gG (aZ C ρ) h bc)(hm:gG (aZ C ρ) m m'):fJ C p p' ρ (Instr.sliceBounds is len cap l h m) (Instr.sliceBounds is len cap aG bc m'):=by
 cases hm with
 |none=>
  refine rE ?_;cases bq with
  |none=>exact rE (JV ae ok _ _ _ ak)
  |some bq=>exact cg (C3 ae ok bq _ _) ok λσ a hle ar=>JV ae ar _ _ _ (ak.mono λ_ _ x=>aZ.mono hle x)
 |some hm=>
  refine cg (C3 ae ok hm _ _) ok λσ iz hle ar=>?_;cases bq with
  |none=>exact jW
  |some bq=>exact cg (C3 ae ar (bq.mono hle) _ _) ar λτ a BH cz=>JV ae cz _ _ _ (ak.mono λ_ _ x=>aZ.mono (hle.trans BH) x)
theorem CY(ok:b0 C.G ρ){x bk:Value}(aj:aZ C ρ x bk)(code:BoundsCode):dR C p p' (λ_ a b=>a=0/\b=0) ρ (Instr.sliceBound x 0 code) (Instr.sliceBound bk 0 code):=by
 refine cg (Au aj) ok λσ CS ak ar=>?_;exact dc (λh=>.pure (by omega)) λ_=>vS ae ar _ _ _ _
theorem Jr(ok:b0 C.G ρ){l aG:Option Value}(c:BoundsCode):gG (aZ C ρ) l aG->dR C p p' (λ_ q dF=>q=(0,0,0)/\dF=(0,0,0)) ρ (match l with|some v=>(do let l ←Instr.sliceBound v 0 c;pure (l,0,0))|none=>(do let l ←pure 0;pure (l,0,0))) (match aG with|some v=>(do let l ←Instr.sliceBound v 0 c;pure (l,0,0))|none=>(do let l ←pure 0;pure (l,0,0))):=by
 intro ak;cases ak with
 |none=>exact .pure ⟨rfl,rfl⟩
 |some ak=>exact dR.bind (CY ae ok ak _) ok λ_ _ _ _ _ h=>by rw[h.1,h.2];exact .pure ⟨rfl,rfl⟩
theorem VG(ok:b0 C.G ρ)(is:Bool){l aG h bc m m':Option Value}(ak:gG (aZ C ρ) l aG)(bq:gG (aZ C ρ) h bc)(hm:gG (aZ C ρ) m m'):dR C p p' (λ_ q dF=>q=(0,0,0)/\dF=(0,0,0)) ρ (Instr.sliceBounds is 0 0 l h m) (Instr.sliceBounds is 0 0 aG bc m'):=by
 cases hm with
 |none=>
  refine rE ?_;cases bq with
  |none=>exact rE (Jr ae ok _ ak)
  |some bq=>
   refine dR.bind (CY ae ok bq _) ok λσ a b hle ar h=>?_;rw[h.1,h.2];exact Jr ae ar _ (ak.mono λ_ _ x=>aZ.mono hle x)
 |some hm=>
  refine dR.bind (CY ae ok hm _) ok λσ a b hle ar h=>?_;rw[h.1,h.2];cases bq with
  |none=>exact jW
  |some bq=>
   refine dR.bind (CY ae ar (bq.mono hle) _) ar λτ a b BH cz h=>?_;rw[h.1,h.2];exact Jr ae cz _ (ak.mono λ_ _ x=>aZ.mono (hle.trans BH) x)
theorem acH(ok:b0 C.G ρ)(t:TypeId)(bO:zU p t=true){x bk:Value}(aj:aZ C ρ x bk){l aG h bc m m':Option Value}(ak:gG (aZ C ρ) l aG)(bq:gG (aZ C ρ) h bc)(hm:gG (aZ C ρ) m m'):dx C p p' ρ (Instr.slice t x l h m) (Instr.slice t bk aG bc m'):=by
 refine dR.bind (lJ ae t) ok λσ dq d hle ar ⟨gH,hu⟩=>?_;subst gH;unfold zU at bO;rw[hu]at bO;have hc:=aj.mono hle;have er:=ak.mono λ_ _ x=>aZ.mono (C:=C) hle x;have tm:=bq.mono λ_ _ x=>aZ.mono (C:=C) hle x;have eX:=hm.mono λ_ _ x=>aZ.mono (C:=C) hle x;cases d with
 |string=>
  cases hc with
  |@string s=>
   have tail:dx C p p' σ (Instr.sliceBounds false s.size s.size l h none >>= λx=>match x with|(l,h,_)=>pure (.string (s.extract l h))) (Instr.sliceBounds false s.size s.size aG bc none >>= λx=>match x with|(l,h,_)=>pure (.string (s.extract l h))):=
    cg (GU ae ar _ _ _ er tm .none) ar λ_ q _ _=>by exact .pure .string
   cases eX with
   |none=>exact tail
   |some eX=>exact jW
  |_=>exact bp
 |slice elem=>
  cases hc with
  |bC=>
   refine cg (GU ae ar _ _ _ er tm eX) ar λτ q bQ cz=>?_;obtain⟨a,b,c⟩:=q;refine cg (mT ae cz elem) cz λυ n dC eY=>.pure ?_;by_cases e:c=a
   ·simp ;exact .bC
   ·simp ;exact .bC
  |sl au=>
   refine cg (GU ae ar _ _ _ er tm eX) ar λτ q bQ cz=>?_;obtain⟨a,b,c⟩:=q;refine cg (mT ae cz elem) cz λυ n dC eY=>.pure ?_;by_cases e:c=a
   ·simp only[e,if_true];exact .sl (au.mono (bQ.trans dC))
   ·simp only[if_neg e];exact .sl ((au.mono (bQ.trans dC)).add _)
  |jc=>
   refine dR.bind (VG ae ar _ er tm eX) ar λτ q dF bQ cz aH=>?_;rw[aH.1,aH.2];exact cg (mT ae cz elem) cz λυ n dC eY=>.pure .jc
  |_=>exact bp
 |_=>cases bO
theorem Zp(ok:b0 C.G ρ)(t:TypeId)(bO:zU p t=true){x bk:Value}(aj:aZ C ρ x bk){l aG h bc m m':Option Value}(ak:gG (aZ C ρ) l aG)(bq:gG (aZ C ρ) h bc)(hm:gG (aZ C ρ) m m'):dx C p p' ρ (Instr.sliceAt t x l h m) (Instr.sliceAt t bk aG bc m'):=by
 refine dR.bind (lJ ae t) ok λσ dq d hle ar ⟨gH,hu⟩=>?_;unfold zU at bO;have hc:=aj.mono hle;have er:=ak.mono λ_ _ x=>aZ.mono (C:=C) hle x;have tm:=bq.mono λ_ _ x=>aZ.mono (C:=C) hle x;have eX:=hm.mono λ_ _ x=>aZ.mono (C:=C) hle x;grind [zU,acH]
theorem acI(ok:b0 C.G ρ)(t:TypeId){x bk:Value}(aj:aZ C ρ x bk)(i:Nat):dx C p p' ρ (Instr.field t x i) (Instr.field t bk i):=by
 refine cg (mh ae t) ok λσ d hle ar=>?_;cases d with
 |struct fs=>
  dsimp only;cases fs[i]? with
  |some f=>exact dR.bind (acF (aj.mono hle)) ar λτ a b bQ cz bL=>uN ae cz _ bL _
  |none=>exact bp
 |_=>exact bp
theorem acJ(ok:b0 C.G ρ)(t:TypeId){x bk:Value}(aj:aZ C ρ x bk){i cm:Value}(aX:aZ C ρ i cm):dx C p p' ρ (Instr.index t x i) (Instr.index t bk cm):=by
 refine cg (Au aX) ok λσ CS ak ar=>?_;obtain⟨k,i⟩:=CS;refine cg (mh ae t) ar λσ d hle ar=>?_;have hc:=aj.mono (ak.trans hle);cases d with
 |array len elem=>
  cases hc with
  |agg U ab=>exact dc (λ_=>cg (mT ae ar elem) ar λτ n bQ cz=>uN ae cz _ (cv.mono bQ ⟨U,ab⟩) _) λ_=>vS ae ar _ _ _ _
  |_=>exact bp
 |string=>
  cases hc with
  |@string s=>
   dsimp only;cases(if 0<=i then s[i.toNat]? else none)with
   |some b=>exact .pure .int
   |none=>grind [vS]
  |_=>exact bp
 |_=>cases hc<;>exact bp
theorem WY(ok:b0 C.G ρ)(t:TypeId)(bO:oo p t=true){x bk:Value}(aj:aZ C ρ x bk){i cm:Value}(aX:aZ C ρ i cm):dx C p p' ρ (Instr.makeSlice t x i) (Instr.makeSlice t bk cm):=by
 refine dR.bind (lJ ae t) ok λσ d dq hle ar ⟨e,hu⟩=>?_;subst e;unfold oo at bO;rw[hu]at bO;cases dq with
 |slice elem=>
  refine cg (Eu ar (aj.mono hle)) ar λσ len bQ ar=>?_;refine cg (Eu ar (aX.mono (hle.trans bQ))) ar λσ cap dC ar=>?_;refine cg (yk ae elem) ar λσ inf pN ar=>?_;refine dc (λ_=>dc (λ_=>me (e:=.error _) ae trivial) λ_=>dc (λ_=>me (e:=.error _) ae trivial) λ_=>yy λn=>me (e:=.error _) ae trivial) λ_=>?_;refine cg (OB _) ar λσ _ Gh ar=>?_;refine cg (mT ae ar elem) ar λσ sz amj ar=>?_;refine dc (λe=>rE ?_) λ_=>?_
  ·exact dR.bind (AF ar elem (CX bE.nil _)) ar λτ a b _ _ bL=>.pure (.sl bL)
  ·refine dR.bind (r7 ae ar elem bO) ar λσ a b amk ar bL=>rE ?_;exact dR.bind (AF ar elem (CX (ux bL) _)) ar λτ a b _ _ bL=>.pure (.sl bL)
 |_=>exact bp
theorem Zq(ok:b0 C.G ρ)(t:TypeId):dx C p p' ρ (Instr.makeMap t none) (Instr.makeMap t none):=
 dR.bind (AG (.map bE.nil)) ok λτ a b _ _ bL=>.pure (.map bL)
theorem VD(ok:b0 C.G ρ)(t:TypeId){x bk:Value}(aj:aZ C ρ x bk):dx C p p' ρ (Instr.makeInterface t x) (Instr.makeInterface t bk):=by
 refine cg (mh ae t) ok λσ d hle ar=>?_;cases d<;>first|exact bp|exact .pure (.iface (aj.mono hle))
omit ae in
theorem Zr{x bk:Value}(aj:aZ C ρ x bk)(i:Nat):dx C p p' ρ (Instr.extract x i) (Instr.extract bk i):=by
 cases aj with
 |tuple U ab=>
  unfold Instr.extract;dsimp only;rcases bE.get ⟨U,ab⟩ i with⟨aK,aO⟩|⟨a,b,aK,aO,ad⟩
  ·grind [bp]
  ·rw[aK,aO];exact .pure ad
 |_=>exact bp
end
end
end Go.Proofs.YtlminnpaeaganaaGreat
