/- Part of the proof of RuleBeside. No condition. -/
import Derived.Test.YtlminnpaeaganaaGreatMBesideAG
namespace Go.Proofs.YtlminnpaeaganaaGreat
set_option maxRecDepth 100000
set_option linter.all false
section
open Go
section
variable{C:ee}{p p':Program}{α β γ δ:Type}{A:bA->α->β->Prop}{B:bA->γ->δ->Prop}{ρ:bA}
theorem rE{a:α}{b:β}{f:α->Sem γ}{bj:β->Sem δ}(h:dR C p p' B ρ (f a) (bj b)):dR C p p' B ρ (pure a >>= f) (pure b >>= bj):=h
theorem jW{tR:String}{f:α->Sem γ}{s:Sem δ}:dR C p p' B ρ ((stuck tR:Sem α) >>= f) s:=.halt trivial
theorem n6{u:Unsupported}{f:α->Sem γ}{s:Sem δ}(h:Halt.still (.unsupported u):=by trivial):dR C p p' B ρ ((unsupported u:Sem α) >>= f) s:=.halt h
theorem yy{q:Question}{f:Nat->Sem γ}{bj:Nat->Sem δ}(h:∀n,dR C p p' B ρ (f n) (bj n)):dR C p p' B ρ (choose q >>= f) (choose q >>= bj):=.choose h
theorem OB(n:Nat):fJ C p p' ρ (askRoom n) (askRoom n):=dc (λ_=>.room (.pure rfl)) λ_=>.pure rfl
theorem ml{r bR:Nat}(ad:ρ r bR){f:Obj->Sem γ}{bj:Obj->Sem δ}(h:∀o o',jj C ρ o o'->dR C p p' B ρ (f o) (bj o')):dR C p p' B ρ (getObj r >>= f) (getObj bR >>= bj):=.getObj ad h
theorem qO{r bR:Nat}(ad:ρ r bR){o o':Obj}(ar:jj C ρ o o'):fJ C p p' ρ (setObj r o) (setObj bR o'):=.setObj ad ar (.pure rfl)
theorem AG{o o':Obj}(ar:jj C ρ o o'):dR C p p' (λσ=>σ) ρ (newObj o) (newObj o'):=.new ar λσ r bR _ _ ad _=>.pure ad
theorem Di{v bg:Value}(h:aZ C ρ v bg):dR C p p' (λσ=>AdR σ) ρ (Instr.sureAddr v) (Instr.sureAddr bg):=by
 cases h with
 |ptr h=>exact .pure h
 |_=>exact bp
inductive gG{α β:Type}(R:α->β->Prop):Option α->Option β->Prop
 |none:gG R none none
 |some {a:α} {b:β}:R a b->gG R (some a) (some b)
theorem gG.mono{R R':α->β->Prop}{x:Option α}{y:Option β}(h:gG R x y)(k:∀a b,R a b->R' a b):gG R' x y:=by
 cases h with
 |none=>exact .none
 |some h=>exact .some (k _ _ h)
theorem Zl{b:Option Addr}{n m:Nat}{bg:Value}(h:aZ C ρ (.slice b n m) bg):∃a6,bg=.slice a6 n m/\(gG (si ρ) b a6\/(n=0/\m=0/\(∃a,b=some a)/\∃a,a6=some a)):=by
 cases h with
 |bC=>exact⟨_,rfl,.inl .none⟩
 |sl h=>exact⟨_,rfl,.inl (.some h)⟩
 |jc=>grind
theorem WX{z dy:Array Value}(bO:cv C ρ z dy)(n:Nat)(aI:n=0\/z.size≠0):cv C ρ ((Array.range n).map (λx=>z[x%z.size]!)) ((Array.range n).map (λx=>dy[x%dy.size]!)):=by
 refine⟨by simp,λi x y aj aF=>?_⟩;simp only[Array.getElem?_map]at aj aF;obtain⟨a,au,rfl⟩:=Option.map_eq_some_iff.1 aj;rw[au]at aF;simp  at aF;subst aF;have hi:i<n:=by grind
 rcases aI with aI|aI
 ·omega
 ·have aU:a%z.size<z.size:=Nat.mod_lt _ (by omega);have xh:a%dy.size<dy.size:=by rw[←bO.1];exact aU
  exact bO.2 (a%z.size) _ _ (by simp[aU]) (by rw[bO.1];simp[xh])
theorem Wm{ρ:bA}:aZ C ρ (default:Value) (default:Value):=by exact .bool
theorem CX{z dy:Array Value}(bO:cv C ρ z dy)(n:Nat):cv C ρ ((Array.range n).map (λx=>z[x%z.size]!)) ((Array.range n).map (λx=>dy[x%dy.size]!)):=by
 by_cases aI:z.size=0
 ·have qv:dy.size=0:=by rw[←bO.1];exact aI
  refine⟨by simp,λi x y aj aF=>?_⟩;simp only[Array.getElem?_map]at aj aF;obtain⟨a,au,rfl⟩:=Option.map_eq_some_iff.1 aj;rw[au]at aF;simp  at aF;subst aF;rw[getElem!_neg z _ (by omega),getElem!_neg dy _ (by omega)];exact Wm
 ·exact WX bO n (.inr aI)
variable(ae:PP C p p')
include ae
theorem acG(ok:b0 C.G ρ)(t:TypeId)(bO:xP p t=true):dx C p p' ρ (Instr.alloc t true (.tuple #[])) (Instr.alloc t true (.tuple #[])):=by
 refine dR.bind (r7 ae ok t bO) ok λσ a b ak ar h=>?_;exact dR.bind (PC ar t h) ar λτ x y _ _ eI=>.pure (.ptr eI)
omit ae in
theorem afk(ok:b0 C.G ρ)(t:TypeId){v bg:Value}(h:aZ C ρ v bg):dx C p p' ρ (Instr.box t v) (Instr.box t bg):=
 dR.bind (PC ok t h) ok λτ x y _ _ eI=>.pure (.ptr eI)
theorem aaV(ok:b0 C.G ρ)(t:TypeId){v bg:Value}(h:aZ C ρ v bg):dx C p p' ρ (Instr.loadAt t v) (Instr.loadAt t bg):=
 dR.bind (Di h) ok λσ a b _ ar bL=>OA ae ar t bL
theorem Zm(ok:b0 C.G ρ)(t:TypeId){v bg:Value}(h:aZ C ρ v bg){x bk:Value}(aj:aZ C ρ x bk):fJ C p p' ρ (Instr.storeAt t v x) (Instr.storeAt t bg bk):=
 dR.bind (Di h) ok λσ a b ak ar bL=>XX ae ar t bL (aj.mono ak)
def IV(p:Program)(s:TypeId)(i:Nat):Bool:=match p.underlying s with
 |some (.struct fs)=>match fs[i]? with
  |some f=>match p.info? f.type with
   |some inf=>inf.size != 0
   |none=>true
  |none=>true
 |_=>true
theorem Zn(ok:b0 C.G ρ)(s:TypeId)(i:Nat)(aq:IV p s i=true){v bg:Value}(h:aZ C ρ v bg):dx C p p' ρ (Instr.fieldAt s v i) (Instr.fieldAt s bg i):=by
 refine dR.bind (lJ ae s) ok λσ d dq ak ar ⟨e,aV⟩=>?_;subst e;cases dq with
 |struct fs=>
  dsimp only;cases aQ:fs[i]? with
  |none=>exact bp
  |some f=>
   refine dR.bind (Di (h.mono ak)) ar λτ a b er eC bL=>?_;refine dR.bind (A:=λσ=>AdR σ) ?_ eC λυ x y _ _ eI=>.pure (.ptr eI);refine dR.bind (A:=λ_ n eu=>eu=n/\n≠0) ?_ eC λυ n eu agK _ ⟨aK,aO⟩=>?_
   ·refine dR.bind (G6 ae f.type) eC λυ i1 i2 _ _ ⟨aK,aO⟩=>?_;subst aK;refine .pure ⟨rfl,?_⟩;grind [IV]
   ·subst aK;rw[if_neg aO,if_neg aO];exact .pure ((bL.mono agK).add _)
 |_=>exact bp
theorem JU(ok:b0 C.G ρ){b a6:Option Addr}(h:gG (AdR ρ) b a6)(k:IntKind)(i:Int)(len:Nat)(elem:TypeId)(TJ:Bool):
  dx C p p' ρ (match b with
   |some a=>if 0<=i/\i<len then(do pure (.pointer (some (a.add (i.toNat*(←sizeOf elem))))))else if TJ=true then unsupported (.noEntry "op/indexAddr.an index out of range at an array of length 0 or 1 (ledger 616)")else boundsPanic k i len .index
   |none=>boundsPanic k i 0 .index) (match a6 with
   |some a=>if 0<=i/\i<len then(do pure (.pointer (some (a.add (i.toNat*(←sizeOf elem))))))else if TJ=true then unsupported (.noEntry "op/indexAddr.an index out of range at an array of length 0 or 1 (ledger 616)")else boundsPanic k i len .index
   |none=>boundsPanic k i 0 .index):=by
 cases h with
 |none=>grind [vS]
 |some h=>
  refine dc (λ_=>cg (mT ae ok elem) ok λσ n ak _=>.pure (.ptr ((h.mono ak).add _))) λ_=>?_;exact dc (λ_=>cG) λ_=>vS ae ok _ _ _ _
theorem Zo(ok:b0 C.G ρ)(t:TypeId){v bg:Value}(h:aZ C ρ v bg){x bk:Value}(aj:aZ C ρ x bk):dx C p p' ρ (Instr.indexAt t v x) (Instr.indexAt t bg bk):=by
 refine cg (Au aj) ok λσ CS ak ar=>?_;obtain⟨k,i⟩:=CS;refine cg (mh ae t) ar λτ d er eC=>?_;have bc:=h.mono (ak.trans er);cases d with
 |array len elem=>
  refine dR.bind (Di bc) eC λυ a b bQ cz bL=>rE ?_;exact cg (mh ae t) cz λω d dC eY=>JU ae eY (.some (bL.mono dC)) k i len elem _
 |slice elem=>
  cases bc with
  |@bC n m=>exact rE (cg (mh ae t) eC λω d dC eY=>JU ae eY .none k i n elem false)
  |sl au=>exact rE (cg (mh ae t) eC λω d dC eY=>JU ae eY (.some (au.toAdR.mono dC)) k i _ elem _)
  |jc=>
   refine rE (cg (mh ae t) eC λω d dC eY=>?_);exact dc (λh=>absurd h.2 (by omega)) λ_=>dc (λ_=>cG) λ_=>vS ae eY _ _ _ _
  |_=>exact jW
 |_=>exact jW
theorem C3(ok:b0 C.G ρ){x bk:Value}(aj:aZ C ρ x bk)(y:Nat)(code:BoundsCode):fJ C p p' ρ (Instr.sliceBound x y code) (Instr.sliceBound bk y code):=by
 refine cg (Au aj) ok λσ CS ak ar=>?_;exact dc (λ_=>.pure rfl) λ_=>vS ae ar _ _ _ _
theorem JV(ok:b0 C.G ρ){l aG:Option Value}(c:BoundsCode)(ai m:Nat):gG (aZ C ρ) l aG->fJ C p p' ρ (match l with|some v=>(do let l ←Instr.sliceBound v ai c;pure (l,ai,m))|none=>(do let l ←pure 0;pure (l,ai,m))) (match aG with|some v=>(do let l ←Instr.sliceBound v ai c;pure (l,ai,m))|none=>(do let l ←pure 0;pure (l,ai,m))):=by
 intro ak;cases ak with
 |none=>exact .pure rfl
 |some ak=>exact cg (C3 ae ok ak _ _) ok λ_ _ _ _=>.pure rfl
theorem GU(ok:b0 C.G ρ)(is:Bool)(len cap:Nat){l aG h bc m m':Option Value}(ak:gG (aZ C ρ) l aG)(bq:gG (aZ C ρ) h bc)(hm:gG (aZ C ρ) m m'):fJ C p p' ρ (Instr.sliceBounds is len cap l h m) (Instr.sliceBounds is len cap aG bc m'):=by
 cases hm with
 |none=>
  refine rE ?_;cases bq with
  |none=>exact rE (JV ae ok _ _ _ ak)
  |some bq=>exact cg (C3 ae ok bq _ _) ok λσ a hle ar=>JV ae ar _ _ _ (ak.mono λ_ _ x=>aZ.mono hle x)
 |some hm=>
  refine cg (C3 ae ok hm _ _) ok λσ iz hle ar=>?_;cases bq with
  |none=>exact jW
  |some bq=>exact cg (C3 ae ar (bq.mono hle) _ _) ar λτ a BH cz=>JV ae cz _ _ _ (ak.mono λ_ _ x=>aZ.mono (hle.trans BH) x)
theorem CY(ok:b0 C.G ρ){x bk:Value}(aj:aZ C ρ x bk)(code:BoundsCode):dR C p p' (λ_ a b=>a=0/\b=0) ρ (Instr.sliceBound x 0 code) (Instr.sliceBound bk 0 code):=by
 refine cg (Au aj) ok λσ CS ak ar=>?_;exact dc (λh=>.pure (by omega)) λ_=>vS ae ar _ _ _ _
theorem Jr(ok:b0 C.G ρ){l aG:Option Value}(c:BoundsCode):gG (aZ C ρ) l aG->dR C p p' (λ_ q dF=>q=(0,0,0)/\dF=(0,0,0)) ρ (match l with|some v=>(do let l ←Instr.sliceBound v 0 c;pure (l,0,0))|none=>(do let l ←pure 0;pure (l,0,0))) (match aG with|some v=>(do let l ←Instr.sliceBound v 0 c;pure (l,0,0))|none=>(do let l ←pure 0;pure (l,0,0))):=by
 intro ak;cases ak with
 |none=>exact .pure ⟨rfl,rfl⟩
 |some ak=>exact dR.bind (CY ae ok ak _) ok λ_ _ _ _ _ h=>by rw[h.1,h.2];exact .pure ⟨rfl,rfl⟩
theorem VG(ok:b0 C.G ρ)(is:Bool){l aG h bc m m':Option Value}(ak:gG (aZ C ρ) l aG)(bq:gG (aZ C ρ) h bc)(hm:gG (aZ C ρ) m m'):dR C p p' (λ_ q dF=>q=(0,0,0)/\dF=(0,0,0)) ρ (Instr.sliceBounds is 0 0 l h m) (Instr.sliceBounds is 0 0 aG bc m'):=by
 cases hm with
 |none=>
  refine rE ?_;cases bq with
  |none=>exact rE (Jr ae ok _ ak)
  |some bq=>
   refine dR.bind (CY ae ok bq _) ok λσ a b hle ar h=>?_;rw[h.1,h.2];exact Jr ae ar _ (ak.mono λ_ _ x=>aZ.mono hle x)
 |some hm=>
  refine dR.bind (CY ae ok hm _) ok λσ a b hle ar h=>?_;rw[h.1,h.2];cases bq with
  |none=>exact jW
  |some bq=>
   refine dR.bind (CY ae ar (bq.mono hle) _) ar λτ a b BH cz h=>?_;rw[h.1,h.2];exact Jr ae cz _ (ak.mono λ_ _ x=>aZ.mono (hle.trans BH) x)
theorem acH(ok:b0 C.G ρ)(t:TypeId)(bO:zU p t=true){x bk:Value}(aj:aZ C ρ x bk){l aG h bc m m':Option Value}(ak:gG (aZ C ρ) l aG)(bq:gG (aZ C ρ) h bc)(hm:gG (aZ C ρ) m m'):dx C p p' ρ (Instr.slice t x l h m) (Instr.slice t bk aG bc m'):=by
 refine dR.bind (lJ ae t) ok λσ dq d hle ar ⟨gH,hu⟩=>?_;subst gH;unfold zU at bO;rw[hu]at bO;have hc:=aj.mono hle;have er:=ak.mono λ_ _ x=>aZ.mono (C:=C) hle x;have tm:=bq.mono λ_ _ x=>aZ.mono (C:=C) hle x;have eX:=hm.mono λ_ _ x=>aZ.mono (C:=C) hle x;cases d with
 |string=>
  cases hc with
  |@string s=>
   have tail:dx C p p' σ (Instr.sliceBounds false s.size s.size l h none >>= λx=>match x with|(l,h,_)=>pure (.string (s.extract l h))) (Instr.sliceBounds false s.size s.size aG bc none >>= λx=>match x with|(l,h,_)=>pure (.string (s.extract l h))):=
    cg (GU ae ar _ _ _ er tm .none) ar λ_ q _ _=>by exact .pure .string
   cases eX with
   |none=>exact tail
   |some eX=>exact jW
  |_=>exact bp
 |slice elem=>
  cases hc with
  |bC=>
   refine cg (GU ae ar _ _ _ er tm eX) ar λτ q bQ cz=>?_;obtain⟨a,b,c⟩:=q;refine cg (mT ae cz elem) cz λυ n dC eY=>.pure ?_;by_cases e:c=a
   ·simp ;exact .bC
   ·simp ;exact .bC
  |sl au=>
   refine cg (GU ae ar _ _ _ er tm eX) ar λτ q bQ cz=>?_;obtain⟨a,b,c⟩:=q;refine cg (mT ae cz elem) cz λυ n dC eY=>.pure ?_;by_cases e:c=a
   ·simp only[e,if_true];exact .sl (au.mono (bQ.trans dC))
   ·simp only[if_neg e];exact .sl ((au.mono (bQ.trans dC)).add _)
  |jc=>
   refine dR.bind (VG ae ar _ er tm eX) ar λτ q dF bQ cz aH=>?_;rw[aH.1,aH.2];exact cg (mT ae cz elem) cz λυ n dC eY=>.pure .jc
  |_=>exact bp
 |_=>cases bO
theorem Zp(ok:b0 C.G ρ)(t:TypeId)(bO:zU p t=true){x bk:Value}(aj:aZ C ρ x bk){l aG h bc m m':Option Value}(ak:gG (aZ C ρ) l aG)(bq:gG (aZ C ρ) h bc)(hm:gG (aZ C ρ) m m'):dx C p p' ρ (Instr.sliceAt t x l h m) (Instr.sliceAt t bk aG bc m'):=by
 refine dR.bind (lJ ae t) ok λσ dq d hle ar ⟨gH,hu⟩=>?_;unfold zU at bO;have hc:=aj.mono hle;have er:=ak.mono λ_ _ x=>aZ.mono (C:=C) hle x;have tm:=bq.mono λ_ _ x=>aZ.mono (C:=C) hle x;have eX:=hm.mono λ_ _ x=>aZ.mono (C:=C) hle x;grind [zU,acH]
theorem acI(ok:b0 C.G ρ)(t:TypeId){x bk:Value}(aj:aZ C ρ x bk)(i:Nat):dx C p p' ρ (Instr.field t x i) (Instr.field t bk i):=by
 refine cg (mh ae t) ok λσ d hle ar=>?_;cases d with
 |struct fs=>
  dsimp only;cases fs[i]? with
  |some f=>exact dR.bind (acF (aj.mono hle)) ar λτ a b bQ cz bL=>uN ae cz _ bL _
  |none=>exact bp
 |_=>exact bp
theorem acJ(ok:b0 C.G ρ)(t:TypeId){x bk:Value}(aj:aZ C ρ x bk){i cm:Value}(hi:aZ C ρ i cm):dx C p p' ρ (Instr.index t x i) (Instr.index t bk cm):=by
 refine cg (Au hi) ok λσ CS ak ar=>?_;obtain⟨k,i⟩:=CS;refine cg (mh ae t) ar λσ d hle ar=>?_;have hc:=aj.mono (ak.trans hle);cases d with
 |array len elem=>
  cases hc with
  |agg U ab=>exact dc (λ_=>cg (mT ae ar elem) ar λτ n bQ cz=>uN ae cz _ (cv.mono bQ ⟨U,ab⟩) _) λ_=>vS ae ar _ _ _ _
  |_=>exact bp
 |string=>
  cases hc with
  |@string s=>
   dsimp only;cases(if 0<=i then s[i.toNat]? else none)with
   |some b=>exact .pure .int
   |none=>grind [vS]
  |_=>exact bp
 |_=>cases hc<;>exact bp
theorem WY(ok:b0 C.G ρ)(t:TypeId)(bO:oo p t=true){x bk:Value}(aj:aZ C ρ x bk){i cm:Value}(hi:aZ C ρ i cm):dx C p p' ρ (Instr.makeSlice t x i) (Instr.makeSlice t bk cm):=by
 refine dR.bind (lJ ae t) ok λσ d dq hle ar ⟨e,hu⟩=>?_;subst e;unfold oo at bO;rw[hu]at bO;cases dq with
 |slice elem=>
  refine cg (Eu ar (aj.mono hle)) ar λσ len bQ ar=>?_;refine cg (Eu ar (hi.mono (hle.trans bQ))) ar λσ cap dC ar=>?_;refine cg (yk ae elem) ar λσ inf pN ar=>?_;refine dc (λ_=>dc (λ_=>me (e:=.error _) ae trivial) λ_=>dc (λ_=>me (e:=.error _) ae trivial) λ_=>yy λn=>me (e:=.error _) ae trivial) λ_=>?_;refine cg (OB _) ar λσ _ Gh ar=>?_;refine cg (mT ae ar elem) ar λσ sz amj ar=>?_;refine dc (λe=>rE ?_) λ_=>?_
  ·exact dR.bind (AF ar elem (CX bE.nil _)) ar λτ a b _ _ bL=>.pure (.sl bL)
  ·refine dR.bind (r7 ae ar elem bO) ar λσ a b amk ar bL=>rE ?_;exact dR.bind (AF ar elem (CX (ux bL) _)) ar λτ a b _ _ bL=>.pure (.sl bL)
 |_=>exact bp
theorem Zq(ok:b0 C.G ρ)(t:TypeId):dx C p p' ρ (Instr.makeMap t none) (Instr.makeMap t none):=
 dR.bind (AG (.map bE.nil)) ok λτ a b _ _ bL=>.pure (.map bL)
theorem VD(ok:b0 C.G ρ)(t:TypeId){x bk:Value}(aj:aZ C ρ x bk):dx C p p' ρ (Instr.makeInterface t x) (Instr.makeInterface t bk):=by
 refine cg (mh ae t) ok λσ d hle ar=>?_;cases d<;>first|exact bp|exact .pure (.iface (aj.mono hle))
omit ae in
theorem Zr{x bk:Value}(aj:aZ C ρ x bk)(i:Nat):dx C p p' ρ (Instr.extract x i) (Instr.extract bk i):=by
 cases aj with
 |tuple U ab=>
  unfold Instr.extract;dsimp only;rcases bE.get ⟨U,ab⟩ i with⟨aK,aO⟩|⟨a,b,aK,aO,ad⟩
  ·grind [bp]
  ·rw[aK,aO];exact .pure ad
 |_=>exact bp
end
end
section
open Go
section
variable{C:ee}{p p':Program}{α β γ δ:Type}{A:bA->α->β->Prop}{B:bA->γ->δ->Prop}{ρ:bA}
theorem It{κ σ:Type}:∀(xs:List κ){ρ:bA}(ok:b0 C.G ρ)(s:σ)(body qe:κ->σ->Sem (ForInStep σ)),(∀τ x s,x∈xs->cN ρ τ->b0 C.G τ->fJ C p p' τ (body x s) (qe x s))->fJ C p p' ρ (forIn xs s body) (forIn xs s qe)
 |[],ρ,ok,s,body,qe,hb=>.pure rfl
 |x::xs,ρ,ok,s,body,qe,hb=>by
  rw[List.forIn_cons,List.forIn_cons];refine cg (hb ρ x s (by simp) (cN.refl _) ok) ok λτ r ak ar=>?_;cases r with
  |done b=>exact .pure rfl
  |yield b=>exact It xs ar b body qe λυ x s aj er eC=>hb υ x s (by simp[aj]) (ak.trans er) eC
theorem PD{κ σ:Type}(xs:Array κ)(ok:b0 C.G ρ)(s:σ)(body qe:κ->σ->Sem (ForInStep σ))(hb:∀τ x s,x∈xs->cN ρ τ->b0 C.G τ->fJ C p p' τ (body x s) (qe x s)):fJ C p p' ρ (forIn xs s body) (forIn xs s qe):=by
 rw[←Array.forIn_toList,←Array.forIn_toList];grind [It]
theorem PE{σ:Type}(n:Nat)(ok:b0 C.G ρ)(s:σ)(body qe:Nat->σ->Sem (ForInStep σ))(hb:∀τ x s,cN ρ τ->b0 C.G τ->fJ C p p' τ (body x s) (qe x s)):fJ C p p' ρ (forIn [0:n] s body) (forIn [0:n] s qe):=by grind [Std.Legacy.Range.forIn_eq_forIn_range',It]
def eZ(p:Program):Nat->TypeId->Bool
 |0,_=>false
 |d+1,t=>match p.underlying t with
  |some .bool|some (.float _)|some (.complex _)|some .string|some (.slice _)|some (.map ..)|some (.func ..)=>true
  |some (.int _)=>match p.info? t with
   |some i=>match i.desc with
    |.named "sync.copyChecker" _=>false
    |_=>true
   |none=>true
  |some (.struct fs)=>fs.all λf=>f.name == "_" || eZ p d f.type
  |some (.array _ e)=>eZ p d e
  |_=>false
variable(ae:PP C p p')
include ae
theorem PF(ok:b0 C.G ρ){r bR:Nat}(ad:ρ r bR):dR C p p' (λ_ a b=>a=none/\b=none) ρ (viewAt r) (viewAt bR):=by
 refine .shape ad λs=>?_;refine dc (λ_=>.pure ⟨rfl,rfl⟩) λ_=>?_;refine ml ad λo o' ar=>?_;cases ar<;>exact .pure ⟨rfl,rfl⟩
theorem XY(ok:b0 C.G ρ){r bR:Nat}(ad:ρ r bR):dR C p p' (λσ=>gG λx y=>AdR σ x.1 y.1/\y.2=x.2) ρ (numberAt r) (numberAt bR):=by
 refine .shape ad λs=>?_;refine dc (λ_=>.pure .none) λ_=>?_;refine ml ad λo o' ar=>?_;cases ar with
 |number h=>exact .pure (.some ⟨h,rfl⟩)
 |_=>exact .pure .none
theorem mf(ok:b0 C.G ρ){a a':Addr}(h:AdR ρ a a'):dR C p p' (λσ x bk=>AdR σ x.1 bk.1/\bk.2=x.2) ρ (behindNumber a) (behindNumber a'):=by
 refine dR.bind (XY ae ok h.b) ok λσ x y ak _ eI=>?_;cases eI with
 |none=>exact .pure ⟨h.mono ak,rfl⟩
 |some h=>exact .pure h
theorem AH(ok:b0 C.G ρ){a a':Addr}(h:AdR ρ a a'):fJ C p p' ρ (byteOf a) (byteOf a'):=by
 unfold byteOf;rw[h.s];cases a.spot with
 |some s=>exact .pure rfl
 |none=>
  refine nK ?_;refine dR.bind (A:=λ_ _ _=>True) ?_ ok λσ _ _ ak ar _=>?_
  ·refine dR.bind (PF ae ok h.b) ok λσ x y ak _ ⟨aK,aO⟩=>?_;subst aK aO;exact .pure trivial
  ·refine .shape (ak _ _ h.b) λs=>?_;cases s with
   |none=>exact bp
   |some q=>
    obtain⟨e,n⟩:=q;show dR C p p' _ σ (if p.cellsOf e=0 then _ else _) (if p'.cellsOf e=0 then _ else _);rw[ae.coe,ae.dep,h.o,ae.aiU,ae.aiT];refine dc (λ_=>.pure rfl) λ_=>?_;cases byteOfCell p p.depth e (a.off%p.cellsOf e)with
    |none=>exact bp
    |some b=>exact .pure rfl
theorem MF(ok:b0 C.G ρ)(t:TypeId){x bk y dj:Value}(aj:aZ C ρ x bk)(aF:aZ C ρ y dj):dR C p p' (λσ v bg=>aZ C σ v bg/\∃a,v=.pointer a) ρ (Builtin.unsafeAdd_ #[] t #[x,y]) (Builtin.unsafeAdd_ #[] t #[bk,dj]):=by
 cases aj with
 |ca=>
  refine cg (Eu ok aF) ok λσ n ak ar=>?_;refine dc (λ_=>cG) λ_=>dc (λ_=>n6) λ_=>cG
 |ptr h=>
  refine cg (Eu ok aF) ok λσ n ak ar=>?_;refine dc (λ_=>?_) λ_=>dc (λ_=>n6) λ_=>?_
  ·refine dR.bind (PF ae ar (ak _ _ h.b)) ar λτ x y bQ _ ⟨aK,aO⟩=>?_;subst aK aO;exact .pure ⟨.ptr (h.mono (ak.trans bQ)),_,rfl⟩
  ·refine .shape (ak _ _ h.b) λs=>?_;cases s with
   |none=>exact cG
   |some q=>
    obtain⟨e,cells⟩:=q;refine nK ?_;rw[ae.aiV,ae.coe,ae.dep,h.o];cases cellAtBytes p p.depth e (cells/p.cellsOf e) _ n with
    |none=>exact cG
    |some off=>exact .pure ⟨.ptr ⟨ak _ _ h.b,rfl,h.s⟩,_,rfl⟩
 |_=>exact bp
theorem WZ(ok:b0 C.G ρ)(t:TypeId){x bk y dj:Value}(aj:aZ C ρ x bk)(aF:aZ C ρ y dj):dx C p p' ρ (Builtin.unsafeAdd_ #[] t #[x,y]) (Builtin.unsafeAdd_ #[] t #[bk,dj]):=(MF ae ok t aj aF).TH λ_ _ _ h=>h.1
theorem Ac(ok:b0 C.G ρ)(t:TypeId){x bk y dj:Value}(aj:aZ C ρ x bk)(aF:aZ C ρ y dj):dx C p p' ρ (movedNumber t x y) (movedNumber t bk dj):=by
 refine cg (mh ae t) ok λσ u ak ar=>?_;have tail:dx C p p' σ (match(generalizing:=false) x with | .pointer (some n)=>(do let(a,lost) ←behindNumber n;match ←Builtin.unsafeAdd_ #[] t #[.pointer (some a),y]with | .pointer (some b)=>asNumber b lost|v=>pure v)|_=>Builtin.unsafeAdd_ #[] t #[x,y]) (match(generalizing:=false) bk with | .pointer (some n)=>(do let(a,lost) ←behindNumber n;match ←Builtin.unsafeAdd_ #[] t #[.pointer (some a),dj]with | .pointer (some b)=>asNumber b lost|v=>pure v)|_=>Builtin.unsafeAdd_ #[] t #[bk,dj]):=by
  replace aj:=aj.mono ak;replace aF:=aF.mono ak;cases aj with
  |ptr h=>
   refine dR.bind (mf ae ar h) ar λτ q dF bQ cz ⟨aK,aO⟩=>?_;obtain⟨a,lost⟩:=q;subst aO;refine dR.bind (MF ae cz t (.ptr aK) (aF.mono bQ)) cz λυ v bg dC eY ⟨ai,amR,ay⟩=>?_;subst ay;cases ai with
   |ptr h=>exact dR.bind (AG (.number h)) eY λ_ r bR _ _ ad=>.pure (.ptr ⟨ad,rfl,rfl⟩)
   |ca=>exact .pure .ca
  |ca=>exact WZ ae ar t .ca aF
  |_=>exact bp
 cases u<;>first|exact n6|exact tail
theorem Af(aN:p.globals.size<=C.G)(ok:b0 C.G ρ){a a' b a6:Addr}(au:AdR ρ a a')(hb:AdR ρ b a6){f:Nat×Nat->Sem γ}{bj:Nat×Nat->Sem δ}(aQ:∀σ x,cN ρ σ->b0 C.G σ->dR C p p' B σ (f x) (bj x)):dR C p p' B ρ (Op.twoPlaces a b >>= f) (Op.twoPlaces a' a6 >>= bj):=by
 refine cg ?_ ok λσ x ak ar=>aQ σ x ak ar;refine nK ?_;by_cases z:(a.block != b.block||decide (a.block>=p.globals.size))=true
 ·simp only[z,if_true];exact n6
 ·have dy:¬(a'.block != a6.block||decide (a'.block>=p'.globals.size))=true:=by
   simp  at z⊢;obtain⟨L2,z2⟩:=z;rcases ok.low au.b with⟨_,e⟩|⟨U,_⟩
   ·refine⟨?_,by rw[ae.TI,e];exact z2⟩;have:=hb.b;rw[←L2]at this;exact ok.fn au.b this
   ·omega
  rw[if_neg z,if_neg dy];exact cg (AH ae ok au) ok λσ x ak ar=>cg (AH ae ar (hb.mono ak)) ar λ_ _ _ _=>.pure rfl
theorem HL(ok:b0 C.G ρ)(k:IntKind){a a':Addr}(h:AdR ρ a a')(n:Int):dx C p p' ρ (Op.addrMod k a n) (Op.addrMod k a' n):=by
 refine .shape h.b λs=>?_;cases s with
 |none=>exact cG
 |some q=>
  obtain⟨e,m⟩:=q;show dx C p p' ρ (typeInfo e >>= _) (typeInfo e >>= _);refine cg (yk ae e) ok λσ i ak ar=>dc (λ_=>n6) λ_=>?_;exact cg (AH ae ar (h.mono ak)) ar λ_ _ _ _=>.pure .int
theorem HM(aN:p.globals.size<=C.G):∀(d:Nat){ρ:bA}(ok:b0 C.G ρ)(t:TypeId){x bk y dj:Value},eZ p d t=true->aZ C ρ x bk->aZ C ρ y dj->fJ C p p' ρ (Op.equalIn d t x y) (Op.equalIn d t bk dj)
 |0,ρ,ok,t,x,bk,y,dj,ah,aj,aF=>cG
 |d+1,ρ,ok,t,x,bk,y,dj,ah,aj,aF=>by
  unfold Op.equalIn;refine dR.bind (lJ ae t) ok λσ u u' ak ar ⟨e,hu⟩=>?_;subst e;replace aj:=aj.mono ak;replace aF:=aF.mono ak;unfold eZ at ah;rw[hu]at ah;cases u' with
  |bool=>cases aj<;>first|exact bp|(cases aF<;>first|exact bp|exact .pure rfl)
  |int k=>
   cases aj with
   |@int j n=>cases aF with
    |int=>exact dc (λ_=>.pure rfl) λ_=>bp
    |ptr _=>cases n with
     |ofNat m=>cases m with
      |zero=>exact .pure rfl
      |succ m=>exact cG
     |negSucc m=>exact cG
    |ca=>exact cG
    |_=>exact bp
   |ptr au=>cases aF with
    |@int j n=>cases n with
     |ofNat m=>cases m with
      |zero=>exact .pure rfl
      |succ m=>exact cG
     |negSucc m=>exact cG
    |ptr hb=>
     refine dR.bind (mf ae ar au) ar λτ q dF bQ cz ⟨aK,aO⟩=>?_;refine dR.bind (mf ae cz (hb.mono bQ)) cz λυ r bR dC eY ⟨f1,f2⟩=>?_;refine nK ?_;have aiW:=ae.TI;have z:(dF.1.block==bR.1.block&&decide (dF.1.block<p'.globals.size))=(q.1.block==r.1.block&&decide (q.1.block<p.globals.size)):=by
      have zV:=dC _ _ aK.b;rcases eY.low zV with⟨U,e⟩|⟨U,ab⟩
      ·rw[aiW,e,Bool.eq_iff_iff];simp ;intro _;constructor
       ·intro h;have al:=f1.b;rw[←h,←e]at al;exact eY.inj zV al
       ·intro h;have al:=f1.b;rw[←h]at al;have:=eY.fn zV al;rw[←this,e]
      ·have L2:decide (q.1.block<p.globals.size)=false:=by simp;omega
       have z2:decide (dF.1.block<p'.globals.size)=false:=by simp;omega
       rw[L2,z2,Bool.and_false,Bool.and_false]
     rw[z];refine dc (λ_=>cg (AH ae eY (aK.mono dC)) eY λσ x ak ar=>cg (AH ae ar (f1.mono ak)) ar λ_ _ _ _=>.pure rfl) λ_=>?_;refine dR.bind (G6 ae t) eY λω i cm _ _ ⟨g1,g2⟩=>?_;subst g1;dsimp only at ah;rw[g2]at ah;dsimp only at ah⊢;split at ah
     ·cases ah
     ·rename_i bU;split
      ·rename_i u he;exact absurd he (bU u)
      ·exact cG
    |_=>exact cG
   |ca=>cases aF<;>exact cG
   |_=>cases aF<;>first|exact bp|exact cG
  |float k=>cases aj<;>exact bp
  |complex k=>cases aj<;>exact bp
  |string=>cases aj<;>first|exact bp|(cases aF<;>first|exact bp|exact .pure rfl)
  |slice e=>cases aj<;>first|exact bp|(cases aF<;>first|exact bp|exact .pure rfl)
  |map k e=>cases aj<;>first|exact bp|(cases aF<;>first|exact bp|exact .pure rfl)
  |func a b c=>cases aj<;>first|exact bp|(cases aF<;>first|exact bp|exact .pure rfl)
  |struct fs=>
   cases aj with
   |agg U ab=>cases aF with
    |agg k1 bf=>
     refine nK ?_;rw[ae.aiR];refine dc (λ_=>n6) λ_=>?_;have gv:∀f∈fs,(f.name == "_" || eZ p d f.type)=true:=λf aQ=>by
      obtain⟨i,hi,rfl⟩:=Array.mem_iff_getElem.1 aQ;exact(Array.all_eq_true.1 ah) i hi
     refine cg (PD _ ar _ _ _ λυ f s aQ dC eY=>?_) ar λυ r dC eY=>?_
     ·refine dc (λbU=>?_) λ_=>.pure rfl;have Lu:eZ p d f.type=true:=by
       have:=gv f aQ;simpa[bU]using this
      refine dR.bind (uN ae eY _ (cv.mono dC ⟨U,ab⟩) _) eY λυ a b pN nw bL=>?_;refine dR.bind (uN ae nw _ (cv.mono (dC.trans pN) ⟨k1,bf⟩) _) nw λυ a2 gB Gh Cv Kt=>?_;refine cg (HM aN d Cv _ Lu (bL.mono Gh) Kt) Cv λυ r _ _=>?_;exact dc (λ_=>.pure rfl) λ_=>.pure rfl
     ·obtain⟨r,_⟩:=r;cases r<;>exact .pure rfl
    |_=>exact bp
   |_=>exact bp
  |array n e=>
   cases aj with
   |agg U ab=>cases aF with
    |agg k1 bf=>
     refine cg (mT ae ar e) ar λτ sz bQ cz=>?_;refine cg (PE _ cz _ _ _ λυ i s dC eY=>?_) cz λυ r dC eY=>?_
     ·refine dR.bind (uN ae eY e (cv.mono (bQ.trans dC) ⟨U,ab⟩) _) eY λυ a b pN nw bL=>?_;refine dR.bind (uN ae nw e (cv.mono (bQ.trans (dC.trans pN)) ⟨k1,bf⟩) _) nw λυ a2 gB Gh Cv Kt=>?_;refine cg (HM aN d Cv e ah (bL.mono Gh) Kt) Cv λυ r _ _=>?_;exact dc (λ_=>.pure rfl) λ_=>.pure rfl
     ·obtain⟨r,_⟩:=r;cases r<;>exact .pure rfl
    |_=>exact bp
   |_=>exact bp
  |_=>cases ah
theorem GN(y:Value){s:Sem δ}{f:Bool->Sem γ}:∀(d:Nat)(t:TypeId),eZ p d t=true->dR C p p' B ρ (Op.equalIn d t undef y >>= f) s
 |0,t,ah=>by cases ah
 |d+1,t,ah=>by
  unfold eZ at ah;refine .uw ?_;show dR C p p' B ρ (((match p.underlying t with|some d=>pure d|none=>stuck "no such type") >>= _) >>= f) s;cases hu:p.underlying t with
  |none=>simp_all
  |some u=>cases u<;>first|(done)|exact jW|(cases y<;>first|exact jW|exact n6|(cases a<;>first|exact jW|exact n6))
theorem x0{x bk:Value}(aj:aZ C ρ x bk){s:Sem δ}{f:Bool->Sem γ}:∀(d:Nat)(t:TypeId),eZ p d t=true->dR C p p' B ρ (Op.equalIn d t x undef >>= f) s
 |0,t,ah=>by cases ah
 |d+1,t,ah=>by
  unfold eZ at ah;refine .uw ?_;show dR C p p' B ρ (((match p.underlying t with|some d=>pure d|none=>stuck "no such type") >>= _) >>= f) s;cases hu:p.underlying t with
  |none=>simp_all
  |some u=>cases u<;>first|(done)|(cases aj<;>first|exact jW|exact n6|(cases n<;>first|exact jW|exact n6|(cases n<;>first|exact jW|exact n6)))
end
end
section
open Go
section
variable{C:ee}{p p':Program}{α β γ δ:Type}{A:bA->α->β->Prop}{B:bA->γ->δ->Prop}{ρ:bA}
theorem Dj(op:BinOp)(k:IntKind)(a b:Int):dx C p p' ρ (Op.intArith op k a b) (Op.intArith op k a b):=by cases op<;>first|exact bp|exact .pure .int
theorem Av(op:BinOp)(k:IntKind)(a b:Int):dx C p p' ρ (Op.intBits op k a b) (Op.intBits op k a b):=by cases op<;>first|exact bp|exact .pure .int
theorem yz(op:BinOp)(a b:Int):dx C p p' ρ (Op.intCmp op a b) (Op.intCmp op a b):=by cases op<;>first|exact bp|exact .pure .bool
theorem kE(op:BinOp)(a b:ByteArray):dx C p p' ρ (Op.stringOp op a b) (Op.stringOp op a b):=by cases op<;>first|exact bp|exact .pure .bool|exact dc (λ_=>cG) λ_=>.pure .string
variable(ae:PP C p p')
include ae
theorem PG(op:BinOp)(k:IntKind)(a b:Int):dx C p p' ρ (Op.intDiv op k a b) (Op.intDiv op k a b):=by
 refine dc (λ_=>me (e:=.error _) ae trivial) λ_=>?_;cases op<;>first|exact bp|exact .pure .int
theorem QT(op:BinOp)(k:IntKind)(a:Int)(Vp:IntKind)(b:Int):dx C p p' ρ (Op.shift op k a Vp b) (Op.shift op k a Vp b):=by
 refine dc (λ_=>me (e:=.error _) ae trivial) λ_=>?_;cases op<;>first|exact bp|exact .pure .int
def sZ(p:Program)(op:BinOp)(t:TypeId):Bool:=match op with
 |.eql | .neq=>eZ p 40 t&&!p.eqGuardType p.depth t
 |_=>match p.underlying t with
  |some (.int _)|some .string=>true
  |_=>false
theorem IW(aN:p.globals.size<=C.G)(ok:b0 C.G ρ)(t:TypeId)(ah:eZ p 40 t=true){x bk y dj:Value}(aj:aZ C ρ x bk)(aF:aZ C ρ y dj):fJ C p p' ρ (Op.equal t x y) (Op.equal t bk dj):=by
 refine HM ae aN _ ok t ?_ aj aF;have mono:∀(d:Nat)(t:TypeId),eZ p d t=true->eZ p (d+1) t=true:=by
  intro d;induction d with
  |zero=>intro t h;cases h
  |succ d az=>
   intro t h;unfold eZ at h⊢;grind
 have SX:∀(k:Nat),eZ p (40+k) t=true:=by
  intro k;induction k with
  |zero=>exact ah
  |succ k az=>grind
 exact SX 9960
omit ae in
theorem uk{t:TypeId}(ah:eZ p 40 t=true):eZ p 10000 t=true:=by
 have mono:∀(d:Nat)(t:TypeId),eZ p d t=true->eZ p (d+1) t=true:=by
  intro d;induction d with
  |zero=>intro t h;cases h
  |succ d az=>
   intro t h;unfold eZ at h⊢;grind
 have SX:∀(k:Nat),eZ p (40+k) t=true:=by
  intro k;induction k with
  |zero=>exact ah
  |succ k az=>grind
 grind
theorem acK(aN:p.globals.size<=C.G)(ok:b0 C.G ρ)(op:BinOp)(t:TypeId)(ah:sZ p op t=true){x bk y dj:Value}(aj:aZ C ρ x bk)(aF:aZ C ρ y dj):dx C p p' ρ (binOp op t x y) (binOp op t bk dj):=by
 have heq:eZ p 40 t=true->dx C p p' ρ (do pure (.bool (←Op.equal t x y))) (do pure (.bool (←Op.equal t bk dj))):=λh=>cg (IW ae aN ok t h aj aF) ok λ_ _ _ _=>.pure .bool;have bU:eZ p 40 t=true->dx C p p' ρ (do pure (.bool (!(←Op.equal t x y)))) (do pure (.bool (!(←Op.equal t bk dj)))):=λh=>cg (IW ae aN ok t h aj aF) ok λ_ _ _ _=>.pure .bool;cases op with
 |eql=>
  have aI:eZ p 40 t=true:=by simp only[sZ,Bool.and_eq_true]at ah;exact ah.1
  cases aj with
  |int=>cases aF with
   |int=>exact dc (λ_=>bp) λ_=>yz _ _ _
   |bT=>exact x0 ae (aZ.int (C:=C) (ρ:=ρ)) _ _ (uk aI)
   |_=>exact heq aI
  |@string a=>cases aF with
   |@string b=>exact kE .eql a b
   |bT=>exact x0 ae (aZ.string (C:=C) (ρ:=ρ)) _ _ (uk aI)
   |_=>exact heq aI
  |bT=>exact GN ae _ _ _ (uk aI)
  |_=>exact heq aI
 |neq=>
  have aI:eZ p 40 t=true:=by simp only[sZ,Bool.and_eq_true]at ah;exact ah.1
  cases aj with
  |int=>cases aF with
   |int=>exact dc (λ_=>bp) λ_=>yz _ _ _
   |bT=>exact x0 ae (aZ.int (C:=C) (ρ:=ρ)) _ _ (uk aI)
   |_=>exact bU aI
  |@string a=>cases aF with
   |@string b=>exact kE .neq a b
   |bT=>exact x0 ae (aZ.string (C:=C) (ρ:=ρ)) _ _ (uk aI)
   |_=>exact bU aI
  |bT=>exact GN ae _ _ _ (uk aI)
  |_=>exact bU aI
 |add=>
  have hu:∃u,p.underlying t=some u/\u≠.unsafePointer:=by
   simp only[sZ]at ah;split at ah
   ·rename_i h;exact⟨_,h,by simp⟩
   ·rename_i h;exact⟨_,h,by simp⟩
   ·cases ah
  obtain⟨u,hu,bU⟩:=hu;have UK:∀{x bk y dj:Value},aZ C ρ x bk->aZ C ρ y dj->dx C p p' ρ (do if(←underlying t) matches .unsafePointer then movedPointer t x y else movedNumber t x y) (do if(←underlying t) matches .unsafePointer then movedPointer t bk dj else movedNumber t bk dj):=by
   intro x bk y dj aj aF;refine dR.bind (lJ ae t) ok λσ d dq ak ar ⟨e,aV⟩=>?_;subst e;rw[hu]at aV;cases aV;have:=Ac ae ar t (aj.mono ak) (aF.mono ak);cases u<;>first|exact absurd rfl bU|exact this
  cases aj with
  |int=>cases aF with
   |int=>exact dc (λ_=>bp) λ_=>Dj _ _ _ _
   |ptr h=>exact Ac ae ok t (.ptr h) .int
   |ca=>exact Ac ae ok t .ca .int
   |_=>exact bp
  |@string a=>cases aF with
   |@string b=>exact kE .add a b
   |_=>first|exact bp|exact cG
  |ptr h=>cases aF with
   |int=>exact UK (.ptr h) .int
   |_=>exact cG
  |ca=>cases aF with
   |int=>exact UK .ca .int
   |_=>exact cG
  |_=>cases aF<;>first|exact bp|exact cG
 |sub=>
  cases aj with
  |int=>cases aF with
   |int=>exact dc (λ_=>bp) λ_=>Dj _ _ _ _
   |_=>first|exact bp|exact cG
  |@string a=>cases aF with
   |@string b=>exact kE .sub a b
   |_=>first|exact bp|exact cG
  |ptr h=>cases aF with
   |int=>exact Ac ae ok t (.ptr h) .int
   |ptr k=>
    refine dR.bind (mf ae ok h) ok λσ q dF ak ar ⟨aK,aO⟩=>?_;refine dR.bind (mf ae ar (k.mono ak)) ar λτ r bR bQ cz ⟨f1,f2⟩=>?_;exact Af ae aN cz (aK.mono bQ) f1 λσ x _ _=>.pure .int
   |_=>first|exact bp|exact cG
  |ca=>cases aF with
   |int=>exact Ac ae ok t .ca .int
   |_=>first|exact bp|exact cG
  |_=>cases aF<;>first|exact bp|exact cG
 |rem=>
  cases aj with
  |int=>cases aF with
   |int=>exact dc (λ_=>bp) λ_=>PG ae _ _ _ _
   |_=>first|exact bp|exact cG
  |@string a=>cases aF with
   |@string b=>exact kE .rem a b
   |_=>first|exact bp|exact cG
  |ptr h=>cases aF with
   |int=>exact dR.bind (mf ae ok h) ok λσ q dF ak ar ⟨aK,aO⟩=>HL ae ar _ aK _
   |_=>first|exact bp|exact cG
  |_=>cases aF<;>first|exact bp|exact cG
 |and=>
  cases aj with
  |int=>cases aF with
   |int=>exact dc (λ_=>bp) λ_=>Av _ _ _ _
   |ptr h=>exact dR.bind (mf ae ok h) ok λσ q dF ak ar ⟨aK,aO⟩=>HL ae ar _ aK _
   |_=>first|exact bp|exact cG
  |@string a=>cases aF with
   |@string b=>exact kE .and a b
   |_=>first|exact bp|exact cG
  |ptr h=>cases aF with
   |int=>exact dR.bind (mf ae ok h) ok λσ q dF ak ar ⟨aK,aO⟩=>HL ae ar _ aK _
   |_=>first|exact bp|exact cG
  |_=>cases aF<;>first|exact bp|exact cG
 |shl=>
  cases aj with
  |@int k n=>cases aF with
   |@int j m=>exact QT ae .shl k n j m
   |_=>first|exact bp|exact cG
  |@string a=>cases aF with
   |@string b=>exact kE .shl a b
   |_=>first|exact bp|exact cG
  |_=>cases aF<;>first|exact bp|exact cG
 |shr=>
  cases aj with
  |@int k n=>cases aF with
   |@int j m=>exact QT ae .shr k n j m
   |_=>first|exact bp|exact cG
  |@string a=>cases aF with
   |@string b=>exact kE .shr a b
   |_=>first|exact bp|exact cG
  |_=>cases aF<;>first|exact bp|exact cG
 |mul=>
  cases aj with
  |int=>cases aF with
   |int=>exact dc (λ_=>bp) λ_=>Dj _ _ _ _
   |_=>first|exact bp|exact cG
  |@string a=>cases aF with
   |@string b=>exact kE .mul a b
   |_=>first|exact bp|exact cG
  |_=>cases aF<;>first|exact bp|exact cG
 |quo=>
  cases aj with
  |int=>cases aF with
   |int=>exact dc (λ_=>bp) λ_=>PG ae _ _ _ _
   |_=>first|exact bp|exact cG
  |@string a=>cases aF with
   |@string b=>exact kE .quo a b
   |_=>first|exact bp|exact cG
  |_=>cases aF<;>first|exact bp|exact cG
 |or=>
  cases aj with
  |int=>cases aF with
   |int=>exact dc (λ_=>bp) λ_=>Av _ _ _ _
   |_=>first|exact bp|exact cG
  |@string a=>cases aF with
   |@string b=>exact kE .or a b
   |_=>first|exact bp|exact cG
  |_=>cases aF<;>first|exact bp|exact cG
 |xor=>
  cases aj with
  |int=>cases aF with
   |int=>exact dc (λ_=>bp) λ_=>Av _ _ _ _
   |_=>first|exact bp|exact cG
  |@string a=>cases aF with
   |@string b=>exact kE .xor a b
   |_=>first|exact bp|exact cG
  |_=>cases aF<;>first|exact bp|exact cG
 |andNot=>
  cases aj with
  |int=>cases aF with
   |int=>exact dc (λ_=>bp) λ_=>Av _ _ _ _
   |_=>first|exact bp|exact cG
  |@string a=>cases aF with
   |@string b=>exact kE .andNot a b
   |_=>first|exact bp|exact cG
  |_=>cases aF<;>first|exact bp|exact cG
 |lss=>
  cases aj with
  |int=>cases aF with
   |int=>exact dc (λ_=>bp) λ_=>yz _ _ _
   |_=>first|exact bp|exact cG
  |@string a=>cases aF with
   |@string b=>exact kE .lss a b
   |_=>first|exact bp|exact cG
  |ptr h=>cases aF with
   |ptr k=>
    refine dR.bind (mf ae ok h) ok λσ q dF ak ar ⟨aK,aO⟩=>?_;refine dR.bind (mf ae ar (k.mono ak)) ar λτ r bR bQ cz ⟨f1,f2⟩=>?_;exact Af ae aN cz (aK.mono bQ) f1 λσ x _ _=>.pure .bool
   |_=>first|exact bp|exact cG
  |_=>cases aF<;>first|exact bp|exact cG
 |leq=>
  cases aj with
  |int=>cases aF with
   |int=>exact dc (λ_=>bp) λ_=>yz _ _ _
   |_=>first|exact bp|exact cG
  |@string a=>cases aF with
   |@string b=>exact kE .leq a b
   |_=>first|exact bp|exact cG
  |ptr h=>cases aF with
   |ptr k=>
    refine dR.bind (mf ae ok h) ok λσ q dF ak ar ⟨aK,aO⟩=>?_;refine dR.bind (mf ae ar (k.mono ak)) ar λτ r bR bQ cz ⟨f1,f2⟩=>?_;exact Af ae aN cz (aK.mono bQ) f1 λσ x _ _=>.pure .bool
   |_=>first|exact bp|exact cG
  |_=>cases aF<;>first|exact bp|exact cG
 |gtr=>
  cases aj with
  |int=>cases aF with
   |int=>exact dc (λ_=>bp) λ_=>yz _ _ _
   |_=>first|exact bp|exact cG
  |@string a=>cases aF with
   |@string b=>exact kE .gtr a b
   |_=>first|exact bp|exact cG
  |ptr h=>cases aF with
   |ptr k=>
    refine dR.bind (mf ae ok h) ok λσ q dF ak ar ⟨aK,aO⟩=>?_;refine dR.bind (mf ae ar (k.mono ak)) ar λτ r bR bQ cz ⟨f1,f2⟩=>?_;exact Af ae aN cz (aK.mono bQ) f1 λσ x _ _=>.pure .bool
   |_=>first|exact bp|exact cG
  |_=>cases aF<;>first|exact bp|exact cG
 |geq=>
  cases aj with
  |int=>cases aF with
   |int=>exact dc (λ_=>bp) λ_=>yz _ _ _
   |_=>first|exact bp|exact cG
  |@string a=>cases aF with
   |@string b=>exact kE .geq a b
   |_=>first|exact bp|exact cG
  |ptr h=>cases aF with
   |ptr k=>
    refine dR.bind (mf ae ok h) ok λσ q dF ak ar ⟨aK,aO⟩=>?_;refine dR.bind (mf ae ar (k.mono ak)) ar λτ r bR bQ cz ⟨f1,f2⟩=>?_;exact Af ae aN cz (aK.mono bQ) f1 λσ x _ _=>.pure .bool
   |_=>first|exact bp|exact cG
  |_=>cases aF<;>first|exact bp|exact cG
end
end
section
open Go
section
variable{C:ee}{p p':Program}{α β γ δ:Type}{A:bA->α->β->Prop}{B:bA->γ->δ->Prop}{ρ:bA}
theorem QU{κ σ:Type}(f:κ->Sem σ):∀(xs:List κ){ρ:bA}(ok:b0 C.G ρ),(∀τ x,b0 C.G τ->fJ C p p' τ (f x) (f x))->fJ C p p' ρ (xs.mapM f) (xs.mapM f)
 |[],ρ,ok,h=>.pure rfl
 |x::xs,ρ,ok,h=>by
  rw[List.mapM_cons];exact cg (h ρ x ok) ok λσ y _ ar=>cg (QU f xs ar h) ar λ_ _ _ _=>.pure rfl
theorem acL{κ σ:Type}(f:κ->Sem σ)(xs:Array κ)(ok:b0 C.G ρ)(h:∀τ x,b0 C.G τ->fJ C p p' τ (f x) (f x)):fJ C p p' ρ (xs.mapM f) (xs.mapM f):=by
 rw[Array.mapM_eq_mapM_toList];exact cg (QU f _ ok h) ok λ_ _ _ _=>.pure rfl
variable(ae:PP C p p')
include ae
theorem Zs(ok:b0 C.G ρ)(src dst:TypeId)(ao:(match p.underlying src with|some (.int _)=>true|_=>false)=true)(aV:(match p.underlying dst with|some (.int _)=>true|_=>false)=true){x bk:Value}(aj:aZ C ρ x bk):dx C p p' ρ (convert src dst x) (convert src dst bk):=by
 refine dR.bind (lJ ae src) ok λσ u u' ak ar ⟨e,hu⟩=>?_;subst e;refine dR.bind (lJ ae dst) ar λτ w w' bQ cz ⟨e,hw⟩=>?_;subst e;rw[hu]at ao;rw[hw]at aV;cases u'<;>first|cases ao|skip
 cases w'<;>first|cases aV|skip
 cases aj.mono (ak.trans bQ)<;>first|exact .pure .int|exact cG
theorem acM(op:UnOp){x bk:Value}(aj:aZ C ρ x bk):dx C p p' ρ (Op.unary op x) (Op.unary op bk):=by
 cases op with
 |neg=>cases aj with
  |@int k n=>exact Dj .sub k 0 n
  |_=>first|exact bp|exact cG
 |xor=>cases aj with
  |@int k n=>exact Av .xor k _ n
  |_=>first|exact bp|exact cG
 |not=>cases aj with
  |bool=>exact .pure .bool
  |_=>first|exact bp|exact cG
 |plus=>cases aj<;>exact bp
theorem afl(ok:b0 C.G ρ)(fl:Array TypeId)(t:TypeId){xs hD:Array Value}(aj:cv C ρ xs hD):dx C p p' ρ (Builtin.len_ fl t xs) (Builtin.len_ fl t hD):=by
 unfold Builtin.len_;cases fl[0]? with
 |none=>exact bp
 |some t=>
  rcases bE.get aj 0 with⟨U,ab⟩|⟨x,y,U,ab,eI⟩
  ·grind [bp]
  ·rw[U,ab];refine cg (mh ae t) ok λσ u ak ar=>?_;replace eI:=eI.mono ak;cases u with
   |string=>cases eI<;>first|exact bp|exact .pure .int
   |array n e=>exact .pure .int
   |pointer e=>
    refine cg (mh ae e) ar λσ u ak ar=>?_;cases u<;>first|exact bp|exact .pure .int
   |slice e=>cases eI<;>first|exact bp|exact .pure .int
   |map k e=>
    cases eI with
    |qi=>exact .pure .int
    |map ad=>
     refine ml ad λo o' h=>?_;cases h with
     |map h=>dsimp only;rw[h.1];exact .pure .int
     |_=>exact bp
    |_=>exact bp
   |chan d e=>
    cases eI with
    |vh=>exact .pure .int
    |chan ad=>
     refine ml ad λo o' h=>?_;cases h<;>exact bp
    |_=>exact bp
   |_=>exact bp
theorem afm(ok:b0 C.G ρ)(fl:Array TypeId)(t:TypeId){xs hD:Array Value}(aj:cv C ρ xs hD):dx C p p' ρ (Builtin.cap_ fl t xs) (Builtin.cap_ fl t hD):=by
 unfold Builtin.cap_;cases fl[0]? with
 |none=>exact bp
 |some t=>
  rcases bE.get aj 0 with⟨U,ab⟩|⟨x,y,U,ab,eI⟩
  ·grind [bp]
  ·rw[U,ab];refine cg (mh ae t) ok λσ u ak ar=>?_;replace eI:=eI.mono ak;cases u with
   |array n e=>exact .pure .int
   |pointer e=>
    refine cg (mh ae e) ar λσ u ak ar=>?_;cases u<;>first|exact bp|exact .pure .int
   |slice e=>cases eI<;>first|exact bp|exact .pure .int
   |chan d e=>
    cases eI with
    |vh=>exact .pure .int
    |chan ad=>
     refine ml ad λo o' h=>?_;cases h<;>exact bp
    |_=>exact bp
   |_=>exact bp
theorem ad2(ok:b0 C.G ρ){x bk y dj:Value}(aj:aZ C ρ x bk)(aF:aZ C ρ y dj):dx C p p' ρ (Builtin.min2 x y) (Builtin.min2 bk dj):=by cases aj<;>cases aF<;>first|exact bp|exact cG|exact .pure .int|exact dR.bind (kE _ _ _) ok λσ a b _ ar bL=>cg (Is bL) ar λ_ _ _ _=>.pure .string
theorem ad3(ok:b0 C.G ρ){x bk y dj:Value}(aj:aZ C ρ x bk)(aF:aZ C ρ y dj):dx C p p' ρ (Builtin.max2 x y) (Builtin.max2 bk dj):=by cases aj<;>cases aF<;>first|exact bp|exact cG|exact .pure .int|exact dR.bind (kE _ _ _) ok λσ a b _ ar bL=>cg (Is bL) ar λ_ _ _ _=>.pure .string
omit ae in
theorem IX{f bj:Value->Value->Sem Value}(aQ:∀τ x bk y dj,b0 C.G τ->aZ C τ x bk->aZ C τ y dj->dx C p p' τ (f x y) (bj bk dj)):∀{xs hD:List Value}{ρ:bA}(ok:b0 C.G ρ){x bk:Value},aZ C ρ x bk->df (aZ C ρ) xs hD->dx C p p' ρ (xs.foldlM f x) (hD.foldlM bj bk)
 |_,_,ρ,ok,x,bk,aj,.nil=>.pure aj
 |_,_,ρ,ok,x,bk,aj,.cons h ao=>by exact dR.bind (aQ ρ _ _ _ _ ok aj h) ok λσ a b ak ar bL=>IX aQ ar bL (ao.mono λ_ _ x=>x.mono ak)
theorem afn(ok:b0 C.G ρ)(fl:Array TypeId)(t:TypeId){xs hD:Array Value}(aj:cv C ρ xs hD):dx C p p' ρ (Builtin.min_ fl t xs) (Builtin.min_ fl t hD):=by
 have h:=bE.toList aj;unfold Builtin.min_;revert h;generalize xs.toList=l;generalize hD.toList=aG;rintro(_|⟨h,ao⟩);all_goals grind [bp,IX,ad2]
theorem afo(ok:b0 C.G ρ)(fl:Array TypeId)(t:TypeId){xs hD:Array Value}(aj:cv C ρ xs hD):dx C p p' ρ (Builtin.max_ fl t xs) (Builtin.max_ fl t hD):=by
 have h:=bE.toList aj;unfold Builtin.max_;revert h;generalize xs.toList=l;generalize hD.toList=aG;rintro(_|⟨h,ao⟩);all_goals grind [bp,IX,ad3]
omit ae in
theorem aaW{x bk:Value}(h:aZ C ρ x bk):dR C p p' (λ_ n eu=>eu=n/\∀a b c,x=.slice a b c->n=b) ρ (Builtin.lenOf x) (Builtin.lenOf bk):=by cases h<;>first|exact bp|exact .pure ⟨rfl,by simp⟩|exact .pure ⟨rfl,λa b c e=>by rfl⟩
omit ae in
theorem V1(size:Nat){x bk:Value}(h:aZ C ρ x bk):dR C p p' (λ_ a b=>a=#[]/\b=#[]) ρ (Builtin.firstCells size 0 x) (Builtin.firstCells size 0 bk):=by
 have e:∀a:Addr,loadCells a (0*size)=(pure #[]:Sem (Array Value)):=λa=>by rw[Nat.zero_mul];rfl
 cases h with
 |bC=>exact .pure ⟨rfl,rfl⟩
 |sl h=>simp only[Builtin.firstCells,e];exact .pure ⟨rfl,rfl⟩
 |jc=>simp only[Builtin.firstCells,e];exact .pure ⟨rfl,rfl⟩
 |@string s=>
  have:(s.extract 0 0).data=#[]:=by simp_all
  exact .pure ⟨by simp,by simp⟩
 |_=>exact bp
omit ae in
theorem MG(ok:b0 C.G ρ)(size n:Nat){x bk:Value}(h:aZ C ρ x bk)(aI:∀a b c,x=.slice a b c->n=b):dR C p p' (λσ=>cv C σ) ρ (Builtin.firstCells size n x) (Builtin.firstCells size n bk):=by
 cases h with
 |bC=>exact .pure bE.nil
 |sl h=>exact MZ ok h.toAdR _
 |@jc a a'=>
  have e:∀a:Addr,loadCells a (0*size)=(pure #[]:Sem (Array Value)):=λa=>by rw[Nat.zero_mul];rfl
  obtain rfl:=aI _ _ _ rfl;simp only[Builtin.firstCells,e];exact .pure bE.nil
 |string=>
  refine .pure ⟨by simp,λi x y aj aF=>?_⟩;simp only[Array.getElem?_map]at aj aF;obtain⟨a,au,rfl⟩:=Option.map_eq_some_iff.1 aj;obtain⟨b,hb,rfl⟩:=Option.map_eq_some_iff.1 aF;rw[au]at hb;cases hb;exact .int
 |_=>exact bp
omit ae in
theorem Ml{z dy:Array Value}(h:cv C ρ z dy)(n:Nat):cv C ρ (Builtin.zeroCells z n) (Builtin.zeroCells dy n):=by
 unfold Builtin.zeroCells;rw[←h.1];have:=CX h (n*z.size);rw[←h.1]at this;exact this
omit ae in
theorem XZ(size oF n:Nat)(b:Option Addr)(x:Value){u:Unsupported}(hu:Halt.still (.unsupported u)){B:bA->γ->δ->Prop}{f:Bool->Sem γ}(s:Sem δ)(aQ:∀b,f b=unsupported u\/f b=.mark .noRoom (unsupported u)):dR C p p' B ρ (Builtin.mayShare size oF n b x >>= f) s:=by
 have dead:∀b,dR C p p' B ρ (f b) s:=λb=>by
  rcases aQ b with h|h
  ·grind [cG]
  ·rw[h];exact .y4 (cG hu)
 have tail:dR C p p' B ρ ((match x with | .slice (some fj) _ _=>(do pure (!(←Builtin.holdsCells fj (n*size))||b.any (·.block==fj.block)))|_=>pure false) >>= f) s:=by
  split
  ·refine .wL λq=>?_;cases q with
   |none=>exact dead _
   |some q=>exact dead _
  grind
 cases b with
 |none=>exact tail
 |some a=>
  refine .wL λq=>?_;cases q with
  |none=>exact .wy λz=>dead _
  |some q=>
   refine .wy λz=>?_;show dR C p p' B ρ ((if _ then _ else _:Sem Bool).bind f) s;split
   ·exact dead _
   omega
theorem aaX(ok:b0 C.G ρ)(fl:Array TypeId)(Gi:(match fl[1]? with|some t=>(match p.underlying t with|some (.int _)=>false|_=>true)|none=>true)=true)(bO:(match fl[0]? with|some st=>oo p st|none=>true)=true)(t:TypeId){xs hD:Array Value}(aj:cv C ρ xs hD):dx C p p' ρ (Builtin.append_ fl t xs) (Builtin.append_ fl t hD):=by
 unfold Builtin.append_;cases nc:fl[0]? with
 |none=>exact bp
 |some st=>
  rw[nc]at bO;dsimp only at bO;rcases bE.get aj 0 with⟨U,ab⟩|⟨s,s',U,ab,ao⟩
  ·grind [bp]
  rcases bE.get aj 1 with⟨k1,bf⟩|⟨x,bk,k1,bf,Lv⟩
  ·grind [bp]
  rw[U,ab,k1,bf];refine dR.bind (lJ ae st) ok λσ ud u ak ar ⟨e,hu⟩=>?_;subst e;unfold oo at bO;rw[hu]at bO;cases u with
  |slice elem=>
   dsimp only at bO;by_cases hB:∃b n c,s=.slice b n c
   ·obtain⟨b,n0,cO,rfl⟩:=hB;obtain⟨a6,rfl,hb⟩:=Zl ao;refine cg (mT ae ar elem) ar λσ size bQ ar=>?_;have hle:=ak.trans bQ;clear ak bQ;have zero:∀{τ:bA}{f bj:Bool->Sem Value}(ar:b0 C.G τ),cN σ τ->(∀υ,b0 C.G υ->cN σ υ->dx C p p' υ (f false) (bj false))->dx C p p' τ (match fl[1]? with|some JW=>(do let d ←underlying JW;let w5 ←pure (match d with | .int _=>true|_=>false);f w5)|none=>(do let w5 ←pure false;f w5)) (match fl[1]? with|some JW=>(do let d ←underlying JW;let w5 ←pure (match d with | .int _=>true|_=>false);bj w5)|none=>(do let w5 ←pure false;bj w5)):=by
     intro τ f bj ar ak h;cases aH:fl[1]? with
     |none=>exact h τ ar ak
     |some ajw=>
      rw[aH]at Gi;dsimp only at Gi⊢;refine dR.bind (lJ ae ajw) ar λυ d dq bQ cz ⟨e,aV⟩=>?_;subst e;rw[aV]at Gi;have:=h υ cz (ak.trans bQ);cases dq<;>first|exact this|cases Gi
    refine zero ar (cN.refl _) λτ ar ak=>?_;replace hle:=hle.trans ak;clear zero ak;refine dc (λh=>by cases h) λ_=>?_;refine dR.bind (aaW (Lv.mono hle)) ar λτ n eu ak ar Cw=>?_;obtain⟨e,Cw⟩:=Cw;rw[e];clear e;replace hle:=hle.trans ak;have app:∀{υ:bA}(ar:b0 C.G υ),cN ρ υ->dR C p p' (λσ=>cv C σ) υ (if(!false)=true then Builtin.firstCells size n x else if n*size=0 then pure #[]else do pure (Builtin.zeroCells (←zeroValue elem).cells n)) (if(!false)=true then Builtin.firstCells size n bk else if n*size=0 then pure #[]else do pure (Builtin.zeroCells (←zeroValue elem).cells n)):=λar ak=>dc (λ_=>MG ar size n (Lv.mono ak) Cw) λh=>absurd rfl h;refine dc (λlg=>?_) λ_=>?_
    ·rcases hb with hb|⟨rfl,rfl,⟨fj,rfl⟩,gB,rfl⟩
     rotate_left
     ·obtain rfl:n=0:=by omega
      refine dR.bind (A:=λ_ a b=>a=#[]/\b=#[]) (dc (λ_=>V1 size (Lv.mono hle)) λh=>absurd rfl h) ar λυ a a' bQ cz au=>?_;rw[au.1,au.2];exact .pure .jc
     refine dR.bind (app ar hle) ar λυ a a' bQ cz au=>?_;have dB:=hb.mono λ_ _ h=>si.mono (hle.trans bQ) h;cases dB with
     |none=>exact .pure .bC
     |some dB=>exact cg (C1 cz (dB.toAdR.add _) 0 (bE.toList au)) cz λω _ dC _=>.pure (.sl (dB.mono dC))
    ·refine cg (yk ae elem) ar λυ i bQ cz=>?_;replace hle:=hle.trans bQ;refine dc (λ_=>dR.bind (A:=λ_ _ _=>False) (me (e:=.error _) ae trivial) cz λ_ _ _ _ _ h=>h.elim) λ_=>?_;refine cg (yk ae elem) cz λυ i bQ cz=>?_;replace hle:=hle.trans bQ;refine dc (λ_=>?_) λ_=>?_
     ·refine dR.bind (A:=λ_ _ _=>False) ?_ cz λ_ _ _ _ _ h=>h.elim;refine dc (λh=>by cases h) λ_=>?_;exact XZ _ _ _ _ _ (u:=.resourceLimit _) trivial _ λb=>by
       cases b with
       |true=>exact .inl rfl
       |false=>exact .inr rfl
     ·refine yy λamS=>?_;refine cg (yk ae elem) cz λυ i bQ cz=>?_;replace hle:=hle.trans bQ;refine cg (OB _) cz λυ _ bQ cz=>?_;replace hle:=hle.trans bQ;refine dR.bind (MG cz size n0 (ao.mono hle) λ_ _ _ e=>(by cases e;rfl)) cz λυ o o' bQ cz hold=>?_;replace hle:=hle.trans bQ;refine dR.bind (app cz hle) cz λυ a a' bQ cz au=>?_;replace hle:=hle.trans bQ;replace hold:=cv.mono bQ hold;refine dR.bind (r7 ae cz elem bO) cz λυ z dy bQ cz bO=>?_;refine dR.bind (AF cz elem (((cv.mono bQ hold).append (cv.mono bQ au)).append (Ml (ux bO) _))) cz λυ r bR bQ cz ad=>.pure (.sl ad)
   ·cases ao<;>first|exact bp|exact absurd ⟨_,_,_,rfl⟩ hB
  |_=>exact bp
end
end
end Go.Proofs.YtlminnpaeaganaaGreat
