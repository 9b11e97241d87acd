/- Part of the proof of RuleKnown. No condition. -/
import Derived.Conc.Events
import Derived.Laws.Sem
import Derived.Test.YtlminnpaeaganaaGreatMKnownAJ
namespace Go.Proofs.YtlminnpaeaganaaGreat
set_option maxRecDepth 100000
set_option linter.all false
section
open Go
section
variable{C:ee}{p p':Program}{α β γ δ:Type}{A:bA->α->β->Prop}{B:bA->γ->δ->Prop}{ρ:bA}
theorem df.filter{α β:Type}{R:α->β->Prop}{f:α->Bool}{g:β->Bool}(zW:∀x y,R x y->g y=f x){xs:List α}{ys:List β}(h:df R xs ys):df R (xs.filter f) (ys.filter g):=by
 induction h with
 |nil=>exact .nil
 |cons h _ az=>
  rename_i x y xs ys _;rw[List.filter_cons,List.filter_cons,zW x y h];split
  ·exact .cons h az
  ·exact az
theorem bE.filter{α β:Type}{R:α->β->Prop}{f:α->Bool}{g:β->Bool}(zW:∀x y,R x y->g y=f x){xs:Array α}{ys:Array β}(h:bE R xs ys):bE R (xs.filter f) (ys.filter g):=by
 have:=(bE.toList h).filter zW;grind [bE.As]
theorem bE.all{α β:Type}{R:α->β->Prop}{f:α->Bool}{g:β->Bool}(zW:∀x y,R x y->g y=f x){xs:Array α}{ys:Array β}(h:bE R xs ys):ys.all g=xs.all f:=by
 have:=bE.toList h;rw[←Array.all_toList,←Array.all_toList];revert this;generalize xs.toList=l;generalize ys.toList=m;intro h;induction h with
 |nil=>rfl
 |cons h _ az=>grind
theorem bE.isEmpty{α β:Type}{R:α->β->Prop}{xs:Array α}{ys:Array β}(h:bE R xs ys):ys.isEmpty=xs.isEmpty:=by simp[Array.isEmpty,h.1]
theorem bE.find{α β:Type}{R:α->β->Prop}{f:α->Bool}{g:β->Bool}(zW:∀x y,R x y->g y=f x){xs:Array α}{ys:Array β}(h:bE R xs ys):gG R (xs.find? f) (ys.find? g):=by
 have:=bE.toList h;rw[←Array.find?_toList,←Array.find?_toList];revert this;generalize xs.toList=l;generalize ys.toList=m;intro h;induction h with
 |nil=>exact .none
 |cons h _ az=>
  rename_i x y _ _ _;rw[List.find?_cons,List.find?_cons,zW x y h];cases f x with
  |true=>exact .some h
  |false=>exact az
inductive sk(C:ee)(ρ:bA):Next->Next->Prop
 |value {v bg:Value}:aZ C ρ v bg->sk C ρ (.value v) (.value bg)
 |skip:sk C ρ .skip .skip
 |enter {f:FuncId} {a a':Array Value}:C.F f->cv C ρ a a'->sk C ρ (.enter f a) (.enter f a')
 |RS {f:FuncId} {a a':Array Value}:C.CL f a.size->cv C ρ a a'->sk C ρ (.enter f a) (.enter f a')
 |round {l aG:Nat} {f:FuncId} {a a':Array Value} {x y:Code}:ρ l aG->cv C ρ a a'->C.K x->C.K y->sk C ρ (.round l f a x y) (.round aG f a' x y)
abbrev vR(C:ee)(p p':Program)(ρ:bA)(s s':Sem Next):Prop:=dR C p p' (λσ=>sk C σ) ρ s s'
theorem ih(ok:b0 C.G ρ){s s':Sem Value}(h:dx C p p' ρ s s'):vR C p p' ρ (do pure (.value (←s))) (do pure (.value (←s'))):=dR.bind h ok λ_ _ _ _ _ h=>.pure (.value h)
theorem Js(ok:b0 C.G ρ){s s':Sem Unit}(h:fJ C p p' ρ s s'):vR C p p' ρ (do s;pure .skip) (do s';pure .skip):=cg h ok λ_ _ _ _=>.pure .skip
variable(ae:PP C p p')
include ae
theorem acQ(ok:b0 C.G ρ)(t:TypeId){x bk:Value}(aj:aZ C ρ x bk):dx C p p' ρ (Instr.range t x) (Instr.range t bk):=by
 refine cg (mh ae t) ok λσ u ak ar=>?_;have fin:∀{τ:bA}{o o':Obj},b0 C.G τ->jj C τ o o'->dx C p p' τ (do pure (.pointer (some ⟨←newObj o,0,none⟩))) (do pure (.pointer (some ⟨←newObj o',0,none⟩))):=λar h=>dR.bind (AG h) ar λ_ r bR _ _ ad=>.pure (.ptr ⟨ad,rfl,rfl⟩);cases u with
 |string=>cases aj.mono ak with
  |string=>exact fin ar .Bn
  |_=>exact jW
 |map k e=>cases aj.mono ak with
  |qi=>exact fin ar .EN
  |map ad=>
   refine ml ad λo o' h=>?_;cases h with
   |map h=>exact fin ar (.y3 ad)
   |_=>exact jW
  |_=>exact jW
 |_=>cases aj<;>exact jW
theorem ad4(ok:b0 C.G ρ)(is:Bool)(t:TypeId){x bk:Value}(aj:aZ C ρ x bk):dx C p p' ρ (Instr.next x is t) (Instr.next bk is t):=by
 have over:∀{τ:bA},aZ C τ (.tuple #[.bool false]) (.tuple #[.bool false]):=aZ.tuple' (bE.one .bool);cases aj with
 |@ptr a a' h=>
  obtain⟨b,o,s⟩:=a;obtain⟨a6,o',s'⟩:=a';obtain⟨U,ab,al⟩:=h;subst ab al;cases o' with
  |succ n=>exact bp
  |zero=>
   refine ml U λo o' h=>?_;cases h with
   |Bn=>
    cases is with
    |false=>exact bp
    |true=>
     refine dc (λ_=>?_) λ_=>.pure over;exact cg (qO U .Bn) ok λ_ _ _ _=>.pure (aZ.tuple' ((Ba .bool .int).push .int))
   |EN=>cases is with
    |true=>exact bp
    |false=>exact .pure over
   |@y3 m m' since seen last hm=>
    cases is with
    |true=>exact bp
    |false=>
     refine ml hm λo o' h=>?_;cases h with
     |@map es ec eS hf=>
      dsimp only;have aK:(!seen.isEmpty&&!ec.isEmpty&&ec.all λx=>decide (x.born>=last))=(!seen.isEmpty&&!es.isEmpty&&es.all λx=>decide (x.born>=last)):=by rw[bE.isEmpty hf,bE.all (λx y eI=>by rw[eI.born]) hf]
      rw[aK];refine dc (λ_=>n6) λ_=>?_;have ak:=bE.filter (f:=λe=>!seen.contains e.born) (g:=λe=>!seen.contains e.born) (λx y eI=>by rw[eI.born]) hf;have ar:=bE.filter (f:=λe=>decide (e.born<since)) (g:=λe=>decide (e.born<since)) (λx y eI=>by rw[eI.born]) ak;have aI:=bE.filter (f:=λe=>decide (e.born>=since)) (g:=λe=>decide (e.born>=since)) (λx y eI=>by rw[eI.born]) ak;have ah:bE (gG (om C ρ)) ((if((es.filter λe=>!seen.contains e.born).filter λe=>decide (e.born<since)).isEmpty=true then #[none]else #[])++(((es.filter λe=>!seen.contains e.born).filter λe=>decide (e.born<since))++((es.filter λe=>!seen.contains e.born).filter λe=>decide (e.born>=since))).map some) ((if((ec.filter λe=>!seen.contains e.born).filter λe=>decide (e.born<since)).isEmpty=true then #[none]else #[])++(((ec.filter λe=>!seen.contains e.born).filter λe=>decide (e.born<since))++((ec.filter λe=>!seen.contains e.born).filter λe=>decide (e.born>=since))).map some):=by
       refine bE.append ?_ ((ar.append aI).map λ_ _ h=>.some h);rw[bE.isEmpty ar];split
       ·exact bE.one .none
       ·exact bE.nil
      rw[←ah.1];refine yy λn=>?_;rcases bE.get ah n with⟨cy,dM⟩|⟨x,y,cy,dM,eI⟩
      ·rw[cy,dM];exact bp
      ·rw[cy,dM];cases eI with
       |none=>exact .pure over
       |some eI=>
        dsimp only;rw[eI.born];exact cg (qO U (.y3 hm)) ok λσ _ bQ _=>.pure (aZ.tuple' ((Ba .bool (eI.key.mono bQ)).push (eI.val.mono bQ)))
     |_=>exact bp
   |_=>cases is<;>exact bp
 |_=>exact bp
theorem acR(ok:b0 C.G ρ){x bk:Value}(aj:aZ C ρ x bk):dx C p p' ρ (Instr.entry x) (Instr.entry bk):=by
 cases aj with
 |@ptr a a' h=>
  obtain⟨b,o,s⟩:=a;obtain⟨a6,o',s'⟩:=a';obtain⟨U,ab,al⟩:=h;subst ab al;cases o' with
  |succ n=>exact bp
  |zero=>
   refine ml U λo o' h=>?_;cases h with
   |@y3 m m' since seen last hm=>
    dsimp only;cases seen.back? with
    |none=>exact bp
    |some st=>
     refine ml hm λo o' h=>?_;cases h with
     |@map es ec eS hf=>
      refine dc (λ_=>n6) λ_=>?_;have:=bE.find (f:=λe=>e.born==st) (g:=λe=>e.born==st) (λx y eI=>by rw[eI.born]) hf;revert this;generalize es.find? (λe=>e.born==st)=a;generalize ec.find? (λe=>e.born==st)=b;rintro(_|bL)
      ·exact cG
      ·exact .pure (aZ.tuple' (Ba bL.key bL.val))
     |_=>exact bp
   |_=>exact bp
 |_=>exact bp
omit ae in
theorem SY{c:Prop}[Decidable c]{s:Sem α}{s' bw:Sem β}(h:dR C p p' A ρ s s')(k:dR C p p' A ρ s bw):dR C p p' A ρ s (if c then s' else bw):=by grind
theorem X1(op:BinOp)(t:TypeId)(hb:sZ p op t=true)(x y:Operand){a' a6:Value}(h:(∀c,a'≠.agg c)\/(∀c,a6≠.agg c)):fJ C p p' ρ (pure ()) (eqGuard op t x y a' a6):=by
 have he:(op=.eql\/op=.neq)->eZ p 40 t=true:=by grind [sZ]
 have c1:eZ p 40 t=true->∀(f:Bool->Sem Unit),f false=pure ()->fJ C p p' ρ (pure ()) (Op.eqGuardIn Op.maxDepth t .nilIface .nilIface >>= f):=by
  intro he f aQ;refine .yx ?_;show dR C p p' _ ρ _ (((match p'.underlying t with|some d=>pure d|none=>stuck "no such type") >>= _) >>= _);rw[ae.Lt];unfold eZ at he;cases hu:p.underlying t with
  |none=>grind
  |some u=>
   rw[hu]at he;cases u<;>first|(cases he;done)|(show dR C p p' _ ρ _ (f false);rw[aQ];exact .pure rfl)
 have two:(op=.eql\/op=.neq)->fJ C p p' ρ (pure ()) (eqGuard op t x y a' a6):=by
  intro ar;have aI:=c1 (he ar);rcases ar with rfl|rfl;all_goals
   cases a' with
   |nilIface=>cases a6 with
    |nilIface=>exact SY (.pure rfl) (SY (.pure rfl) (aI _ rfl))
    |_=>exact .pure rfl
   |agg c=>cases a6 with
    |agg c'=>grind
    |_=>exact .pure rfl
   |_=>cases a6<;>exact .pure rfl
 cases op with
 |eql=>grind
 |neq=>grind
 |_=>exact .pure rfl
theorem Zt(op:BinOp)(t:TypeId)(hb:sZ p op t=true)(x y:Operand)(ok:b0 C.G ρ){a a' b a6:Value}(au:aZ C ρ a a')(dB:aZ C ρ b a6):fJ C p p' ρ (eqGuard op t x y a b) (eqGuard op t x y a' a6):=by
 by_cases aC:a=undef\/b=undef
 ·have aT:eqGuard op t x y a b=pure ():=by
   rcases aC with rfl|rfl
   ·cases op<;>rfl
   ·cases op<;>cases a<;>rfl
  rw[aT];refine X1 ae op t hb x y ?_;rcases aC with rfl|rfl
  ·cases au with
   |bT U _ _=>grind
   |tuple=>grind
  ·cases dB with
   |bT U _ _=>grind
   |tuple=>grind
 refine dc (λ_=>.pure rfl) λaE=>?_;have he:p.eqGuardType p.depth t=false/\eZ p 40 t=true:=by grind [sZ]
 cases au with
 |nilIface=>cases dB with
  |nilIface=>
   refine dc (λ_=>.pure rfl) λ_=>?_;refine dR.bind (A:=λ_ a b=>a=false/\b=false) ?_ ok λσ q dF _ _ ⟨aK,aO⟩=>?_
   ·refine dR.bind (lJ ae t) ok λσ u u' ak ar ⟨e,hu⟩=>?_;subst e;have aI:=he.2;unfold eZ at aI;rw[hu]at aI;cases u'<;>first|exact .pure ⟨rfl,rfl⟩|cases aI
   ·subst aK aO;exact .pure rfl
  |bT=>grind
  |_=>exact .pure rfl
 |agg U ab=>cases dB with
  |agg k1 k2=>
   refine nK (nK ?_);rw[ae.dep,ae.aiS,he.1];exact .pure rfl
  |bT=>grind
  |_=>exact .pure rfl
 |bT=>grind
 |_=>first|exact .pure rfl|(cases dB<;>first|exact .pure rfl|exact absurd rfl aml)
theorem X2(f:FuncId)(aQ:C.F f){a a':Array Value}(au:cv C ρ a a'):vR C p p' ρ (callFunc f a) (callFunc f a'):=by
 refine nK ?_;obtain⟨fn,cC,U,ab,al,aJ,bm,bI⟩:=ae.fns f aQ;rw[U,ab];have aK:(fn.name == "runtime.NumGoroutine")=false:=by grind
 have aO:(cC.name == "runtime.NumGoroutine")=false:=by grind
 have bS:fn.body.isNone=false:=by simp_all
 have b8:cC.body.isNone=false:=by simp_all
 simp[aK,aO,bS,b8,if_false];exact .pure (.enter aQ au)
theorem W2(f:FuncId){a a':Array Value}(aQ:C.CL f a.size)(au:cv C ρ a a'):vR C p p' ρ (callFunc f a) (callFunc f a'):=by
 refine nK ?_;obtain⟨fn,cC,U,ab,al,aJ,bm,bI⟩:=ae.agJ f _ aQ;rw[U,ab];have aK:(fn.name == "runtime.NumGoroutine")=false:=by grind
 have aO:(cC.name == "runtime.NumGoroutine")=false:=by grind
 have bS:fn.body.isNone=false:=by simp_all
 have b8:cC.body.isNone=false:=by simp_all
 simp[aK,aO,bS,b8,if_false];exact .pure (.RS aQ au)
theorem acS(ok:b0 C.G ρ){l aG:Nat}(ak:ρ l aG){a a':Array Value}(au:cv C ρ a a'):vR C p p' ρ (Instr.yield l a) (Instr.yield aG a'):=by
 refine dR.bind (A:=λσ=>zO C σ) ?_ ok λσ r bR bQ cz ad=>?_
 ·refine ml ak λo o' h=>?_;cases h with
  |loop h=>exact .pure h
  |_=>exact bp
 ·rw[ad.params,au.1];refine dc (λ_=>jW) λ_=>.pure ?_;rw[ad.fn,ad.assign,ad.body];refine .round (bQ _ _ ak) ?_ ad.zQ ad.zR;have key:∀(l aG:List (Tmp×Value))(t bw:Array Value),df (λx y=>y.1=x.1/\aZ C σ x.2 y.2) l aG->cv C σ t bw->cv C σ (l.foldl (λtmps x=>match x with|(t,a)=>tmps.setIfInBounds t a) t) (aG.foldl (λtmps x=>match x with|(t,a)=>tmps.setIfInBounds t a) bw):=by
   intro l aG t bw h;induction h generalizing t bw with
   |nil=>exact id
   |cons h _ az=>grind [bE.set]
  rw[←Array.foldl_toList,←Array.foldl_toList];refine key _ _ _ _ ?_ ad.tmps;refine bE.toList ⟨by simp[au.1],λi x y aj aF=>?_⟩;rw[Array.getElem?_zip_eq_some]at aj aF;refine⟨?_,(au.2 i x.2 y.2 aj.2 aF.2).mono bQ⟩;grind
end
end
section
open Go
def ij(F:FuncId->Bool):Operand->Bool
 |.tmp _=>true
 |.const v=>w0 F v
 |.func f=>F f
 |.global _=>false
def SZ(p:Program):Builtin->Array TypeId->Bool
 |.append,fl=>(match fl[1]? with
  |some t=>(match p.underlying t with|some (.int _)=>false|_=>true)
  |none=>true)&&(match fl[0]? with|some st=>oo p st|none=>true)
 |.clear,fl=>(match fl[0]? with|some st=>oo p st|none=>true)
 |.cap,_ | .len,_ | .max,_ | .min,_=>true
 |_,_=>false
def FE(p:Program)(t:TypeId):Bool:=match p.underlying t with
 |some (.int _)=>true
 |_=>false
def o4(p:Program)(f:FuncId):Bool:=match p.funcs[f]? with
 |some fn=>(match fn.body with
  |some c=>jU p c
  |none=>false)
 |none=>false
def arity(p:Program)(f:FuncId):Nat:=match p.funcs[f]? with
 |some fn=>fn.params.size+fn.nfree
 |none=>0
def E3(p:Program)(F:FuncId->Bool):Op->Bool
 |.call ⟨.value (.func f),args,_⟩=>args.all (ij F)&&o4 p f&&args.size==arity p f
 |_=>false
def mx(p:Program)(F:FuncId->Bool)(o:Op):Bool:=E3 p F o||(o.operands.all (ij F)&&match o with
 |.alloc t | .build t _=>xP p t
 |.slice t _ _ _ _=>zU p t
 |.buildSlice t _ _ | .makeSlice t _ _=>oo p t
 |.move _ | .assign _ | .pick .. | .box .. | .load .. | .store .. | .nilCheck _ | .unOp .. | .makeInterface .. | .field .. | .indexAddr .. | .index .. | .range .. | .next .. | .entry _ | .extract ..=>true
 |.binOp op t _ _ _=>sZ p op t
 |.convert s d _=>FE p s&&FE p d
 |.makeFunc (.func f) _ _=>F f
 |.makeMap _ none=>true
 |.fieldAddr s _ i=>IV p s i
 |.lookup t _ _ _=>y6 p t&&oo p t
 |.mapUpdate t _ _ _ | .insert t _ _ _=>y6 p t
 |.call ⟨.value _,_,_⟩=>true
 |.call ⟨.builtin b,_,fl⟩=>SZ p b fl
 |.panic _=>true
 |_=>false)
section
variable{C:ee}{p p':Program}{α β γ δ:Type}{A:bA->α->β->Prop}{B:bA->γ->δ->Prop}{ρ:bA}{F:FuncId->Bool}
def BI(C:ee)(ρ:bA)(F:FuncId->Bool)(e e':Operand->Value):Prop:=∀x,ij F x=true->aZ C ρ (e x) (e' x)
theorem Bb{e e':Operand->Value}(he:BI C ρ F e e'){xs:Array Operand}(h:xs.all (ij F)=true):cv C ρ (xs.map e) (xs.map e'):=by
 refine⟨by simp,λi x y aj aF=>?_⟩;simp only[Array.getElem?_map]at aj aF;obtain⟨a,au,rfl⟩:=Option.map_eq_some_iff.1 aj;obtain⟨b,hb,rfl⟩:=Option.map_eq_some_iff.1 aF;rw[au]at hb;cases hb;obtain⟨aX,rfl⟩:=Array.getElem?_eq_some_iff.1 au;exact he _ ((Array.all_eq_true.1 h) i aX)
theorem PH{e e':Operand->Value}(he:BI C ρ F e e'){a7:Array (Nat×Operand)}(h:((a7.toList.map (·.2)).toArray).all (ij F)=true):df (λ(x y:Nat×Value)=>y.1=x.1/\aZ C ρ x.2 y.2) (a7.map λ(i,x)=>(i,e x)).toList (a7.map λ(i,x)=>(i,e' x)).toList:=by
 refine bE.toList ⟨by simp,λi x y aj aF=>?_⟩;simp only[Array.getElem?_map]at aj aF;obtain⟨a,au,rfl⟩:=Option.map_eq_some_iff.1 aj;obtain⟨b,hb,rfl⟩:=Option.map_eq_some_iff.1 aF;rw[au]at hb;cases hb;refine⟨rfl,he _ ?_⟩;grind
theorem Jt{e e':Operand->Value}(he:BI C ρ F e e'){x:Option Operand}(h:∀y,x=some y->ij F y=true):gG (aZ C ρ) (x.map e) (x.map e'):=by
 cases x with
 |none=>exact .none
 |some x=>exact .some (he _ (h x rfl))
def n7(p:Program)(s:Sem α):Prop:=∀W h bF,s.run p W=.halt h bF->(∃v,h=.panic v)\/Halt.still h
def sm(p:Program)(s:Sem α):Prop:=∀W,∃h bF,s.run p W=.halt h bF/\((∃v,h=.panic v)\/Halt.still h)
theorem wa{a:α}:n7 p (.pure a):=λW h bF e=>by simp_all
theorem HN{h:Halt}(bq:(∃v,h=.panic v)\/Halt.still h):n7 p (.halt h:Sem α):=λW x bF e=>by simp_all
theorem OE{k:Program->Sem α}(h:n7 p (k p)):n7 p (.program k):=λW x bF e=>h W x bF e
theorem PI{o:Obj}{k:Nat->Sem α}(h:∀n,n7 p (k n)):n7 p (.new o k):=λW x bF e=>h _ _ x bF e
theorem aaZ{c:Sys}{k:SysRet->Sem α}(h:∀n,n7 p (k n)):n7 p (.sys c k):=λW x bF e=>h _ _ x bF e
theorem HO{s:Sem β}{f:β->Sem α}(ao:n7 p s)(h:∀b,n7 p (f b)):n7 p (s >>= f):=λW x bF e=>by
 rw[Sem.run_bind]at e;cases U:s.run p W with
 |ok b iA=>rw[U]at e;exact h b _ _ _ e
 |halt y iA=>rw[U]at e;cases e;exact ao _ _ _ U
theorem yA{h:Halt}(bq:(∃v,h=.panic v)\/Halt.still h):sm p (.halt h:Sem α):=λW=>⟨h,W,rfl,bq⟩
theorem aa0{k:Program->Sem α}(h:sm p (k p)):sm p (.program k):=λW=>h W
theorem AI{s:Sem β}{f:β->Sem α}(ao:n7 p s)(h:∀b,sm p (f b)):sm p (s >>= f):=λW=>by
 rw[Sem.run_bind];cases U:s.run p W with
 |ok b iA=>exact h b iA
 |halt x iA=>exact⟨x,iA,rfl,ao _ _ _ U⟩
theorem aa1{s:Sem β}{f:β->Sem α}(h:sm p s):sm p (s >>= f):=λW=>by
 obtain⟨x,bF,U,ab⟩:=h W;simp_all
theorem M1(t:TypeId):n7 p (elemOf t):=by
 refine HO (OE ?_) λd=>?_
 ·show n7 p (match p.underlying t with|some d=>pure d|none=>stuck "no such type");cases p.underlying t with
  |some d=>exact wa
  |none=>exact HN (.inr trivial)
 ·cases d<;>first|exact wa|exact HN (.inr trivial)
theorem G7(e:RuntimeError):sm p (runtimePanic e:Sem α):=by
 refine aa0 ?_;cases e with
 |typeAssertion=>
  refine AI (s:=elemOf _) (M1 _) λt=>?_;refine AI (s:=newVar t _) (HO (PI λ_=>wa) λ_=>wa) λr=>yA (.inl ⟨_,rfl⟩)
 |panicNil=>
  refine AI (s:=elemOf _) (M1 _) λt=>?_;refine AI (s:=newVar t _) (HO (PI λ_=>wa) λ_=>wa) λr=>yA (.inl ⟨_,rfl⟩)
 |_=>exact yA (.inl ⟨_,rfl⟩)
theorem Zu(v:Value):sm p (Instr.panic v):=by
 unfold Instr.panic;split
 ·exact yA (.inl ⟨_,rfl⟩)
 ·refine AI ?_ λn=>?_
  ·refine aaZ λr=>?_;cases r<;>first|exact HN (.inr trivial)|exact OE wa
  ·split
   ·exact yA (.inl ⟨_,rfl⟩)
   ·exact G7 _
 ·exact yA (.inr trivial)
variable(ae:PP C p p')(aw:∀f,F f=true->C.F f)(aN:p.globals.size<=C.G)(aI:C.cp=true)
include ae aw aN aI
theorem Zv(ok:b0 C.G ρ)(b:Builtin)(fl:Array TypeId)(t:TypeId)(cs:Array Bool)(hb:SZ p b fl=true){a a':Array Value}(au:cv C ρ a a'):vR C p p' ρ (builtin b fl t cs a) (builtin b fl t cs a'):=by
 cases b<;>first|cases hb|skip
 all_goals unfold builtin
 ·exact ih ok (aaX ae ok fl (Bool.and_eq_true_iff.1 hb).1 (Bool.and_eq_true_iff.1 hb).2 t au)
 ·grind [ih,afm]
 ·exact ih ok (acO ae ok fl hb t au)
 all_goals grind [ih,afl,afo,afn]
theorem M3(ok:b0 C.G ρ){v bg:Value}(ai:aZ C ρ v bg){a a':Array Value}(au:cv C ρ a a'):vR C p p' ρ (do let d ←Deferred.ofValue v a;invoke d.target d.args) (do let d ←Deferred.ofValue bg a';invoke d.target d.args):=by
 cases ai with
 |func U ab al aJ bm=>
  cases U with
  |func aQ=>exact X2 ae _ aQ ((bE.append ⟨ab,al⟩ au).append ⟨aJ,bm⟩)
  |yield ak=>exact acS ae ok ak (bE.append ⟨ab,al⟩ au)
 |nilFunc=>exact me (e:=.nilDeref) ae trivial
 |@vi n b a6=>
  refine .never aI ?_;show sm p (invoke (.fn (.method n) #[]) (#[.nilIface]++a));grind [invoke,callMethod,G7]
 |_=>exact bp
theorem aa2(ok:b0 C.G ρ)(o:Oper)(ar:mx p F o.op=true){e e':Operand->Value}(he:BI C ρ F e e')(lA:∀f,e (.func f)=.func (.func f) #[] #[]/\e' (.func f)=.func (.func f) #[] #[])(amm:∀f,o4 p f=true->C.CL f (arity p f)):vR C p p' ρ (execOp e o) (execOp e' o):=by
 obtain⟨dst,op,type,pos,after,guard⟩:=o;unfold mx at ar;rw[Bool.or_eq_true]at ar;rcases ar with ar|ar
 ·dsimp only at ar;unfold E3 at ar;split at ar
  ·rename_i f args fl;simp only[Bool.and_eq_true,beq_iff_eq]at ar;obtain⟨⟨tP,cz⟩,eY⟩:=ar;have hm:=Bb he tP;have key:∀(x:Operand->Value),x (.func f)=.func (.func f) #[] #[]->execOp x ⟨dst,.call ⟨.value (.func f),args,fl⟩,type,pos,after,guard⟩=callFunc f (args.map x):=λx aj=>by
    have:execOp x ⟨dst,.call ⟨.value (.func f),args,fl⟩,type,pos,after,guard⟩=(do let d ←Deferred.ofValue (x (.func f)) (args.map x);invoke d.target d.args):=rfl;rw[this,aj];show callFunc f ((#[]++args.map x)++#[])=_;simp
   grind [W2]
  ·cases ar
 rw[Bool.and_eq_true]at ar;obtain⟨U,ab⟩:=ar;dsimp only at U ab;have one:∀x,#[x].all (ij F)=true->ij F x=true:=λx h=>by grind
 have two:∀x y,#[x,y].all (ij F)=true->ij F x=true/\ij F y=true:=λx y h=>by grind
 have three:∀x y z,#[x,y,z].all (ij F)=true->ij F x=true/\ij F y=true/\ij F z=true:=λx y z h=>by grind
 cases op with
 |move x=>exact .pure (.value (he x (one x U)))
 |assign x=>exact .pure (.value (he x (one x U)))
 |pick c a b=>
  obtain⟨ah,au,hb⟩:=three _ _ _ U;refine cg (Is (he c ah)) ok λσ t ak _=>.pure (.value ?_);cases t
  ·exact(he b hb).mono ak
  ·exact(he a au).mono ak
 |alloc t=>exact ih ok (acG ae ok t ab)
 |box t x=>exact ih ok (afk ok t (he x (one x U)))
 |build t a7=>exact ih ok (acN ae ok t ab (PH he U))
 |buildSlice t n a7=>exact ih ok (Wn ae ok t ab n (PH he U))
 |load t x=>exact ih ok (aaV ae ok t (he x (one x U)))
 |store t x y=>exact Js ok (Zm ae ok t (he x (two _ _ U).1) (he y (two _ _ U).2))
 |nilCheck x=>
  have aj:=he x (one x U);unfold execOp;dsimp only;revert aj;generalize e x=v;generalize e' x=bg;intro aj;cases aj with
  |ca=>exact me (e:=.nilDeref) ae trivial
  |nilIface=>exact me (e:=.nilDeref) ae trivial
  |nilFunc=>exact me (e:=.nilDeref) ae trivial
  |func k1 k2 bP cX fi=>cases k1 with
   |func aQ=>exact .pure (.value (.func (.func aQ) k2 bP cX fi))
   |yield ak=>exact .pure (.value (.func (.yield ak) k2 bP cX fi))
  |bool=>exact .pure (.value .bool)
  |int=>exact .pure (.value .int)
  |string=>exact .pure (.value .string)
  |ptr h=>exact .pure (.value (.ptr h))
  |bC=>exact .pure (.value .bC)
  |sl h=>exact .pure (.value (.sl h))
  |jc=>exact .pure (.value .jc)
  |qi=>exact .pure (.value .qi)
  |map h=>exact .pure (.value (.map h))
  |vh=>exact .pure (.value .vh)
  |chan h=>exact .pure (.value (.chan h))
  |iface h=>exact .pure (.value (.iface h))
  |agg k1 k2=>exact .pure (.value (.agg k1 k2))
  |tuple k1 k2=>exact .pure (.value (.tuple k1 k2))
  |vi=>exact .never aI (G7 _)
  |@bT bg k1 k2 bP=>
   cases bg with
   |pointer a=>cases a with
    |none=>exact absurd rfl bP.1.1
    |some a=>exact .pure (.value (.bT k1 k2 bP))
   |nilIface=>exact absurd rfl bP.1.2.1
   |nilFunc=>exact absurd rfl bP.1.2.2
   |func f a b=>cases f with
    |method n=>exact absurd rfl (bP.2.1 _ _ _)
    |_=>exact .pure (.value (.bT k1 k2 bP))
   |_=>exact .pure (.value (.bT k1 k2 bP))
 |binOp op t x y ty=>
  have aj:=he x (two _ _ U).1;have aF:=he y (two _ _ U).2;refine ih ok (cg (Zt ae op t ab x y ok aj aF) ok λσ _ ak ar=>acK ae aN ar op t ab (aj.mono ak) (aF.mono ak))
 |unOp op t x=>exact ih ok (acM ae op (he x (one x U)))
 |convert s d x=>
  rw[Bool.and_eq_true]at ab;refine ih ok (Zs ae ok s d ?_ ?_ (he x (one x U)))
  ·have:=ab.1;unfold FE at this;split at this<;>simp_all
  ·have:=ab.2;unfold FE at this;split at this<;>simp_all
 |makeInterface t x=>exact ih ok (VD ae ok t (he x (one x U)))
 |makeFunc f a b=>
  cases f with
  |func f=>
   have bL:a.all (ij F)=true/\b.all (ij F)=true:=by
    have:(a++b).all (ij F)=true:=U;rw[Array.all_append,Bool.and_eq_true]at this;exact this
   have k1:=Bb he bL.1;have k2:=Bb he bL.2;exact .pure (.value (.func (.func (aw _ ab)) k1.1 k1.2 k2.1 k2.2))
  |_=>cases ab
 |makeMap t r=>cases r with
  |none=>exact ih ok (Zq ae ok t)
  |some r=>cases ab
 |makeSlice t x y=>exact ih ok (WY ae ok t ab (he x (two _ _ U).1) (he y (two _ _ U).2))
 |slice t x l h m=>
  have fG:(((#[x]++l.toArray)++h.toArray)++m.toArray).all (ij F)=true:=U;rw[Array.all_append,Array.all_append,Array.all_append,Bool.and_eq_true,Bool.and_eq_true,Bool.and_eq_true]at fG;refine ih ok (Zp ae ok t ab (he x (by simpa using fG.1.1.1)) (Jt he ?_) (Jt he ?_) (Jt he ?_))
  ·rintro y rfl;simpa using fG.1.1.2
  ·rintro y rfl;simpa using fG.1.2
  ·rintro y rfl;simpa using fG.2
 |fieldAddr t x i=>exact ih ok (Zn ae ok t i ab (he x (one x U)))
 |field t x i=>exact ih ok (acI ae ok t (he x (one x U)) i)
 |indexAddr t x y=>exact ih ok (Zo ae ok t (he x (two _ _ U).1) (he y (two _ _ U).2))
 |index t x y=>exact ih ok (acJ ae ok t (he x (two _ _ U).1) (he y (two _ _ U).2))
 |lookup t x y c=>
  rw[Bool.and_eq_true]at ab;exact ih ok (aaY ae aN ok t ab.1 ab.2 (he x (two _ _ U).1) (he y (two _ _ U).2) c)
 |mapUpdate t x y z=>exact Js ok (M0 ae aN ok t ab (he x (three _ _ _ U).1) (he y (three _ _ _ U).2.1) (he z (three _ _ _ U).2.2))
 |insert t x y z=>exact Js ok (M0 ae aN ok t ab (he x (three _ _ _ U).1) (he y (three _ _ _ U).2.1) (he z (three _ _ _ U).2.2))
 |range t x=>exact ih ok (acQ ae ok t (he x (one x U)))
 |next x is=>exact ih ok (ad4 ae ok is _ (he x (one x U)))
 |entry x=>exact ih ok (acR ae ok (he x (one x U)))
 |extract x i=>exact ih ok (Zr (he x (one x U)) i)
 |call c=>
  obtain⟨callee,args,fl⟩:=c;cases callee with
  |value f=>
   have fG:(#[f]++args).all (ij F)=true:=U;rw[Array.all_append,Bool.and_eq_true]at fG;exact M3 ae aw aN aI ok (he f (by simpa using fG.1)) (Bb he fG.2)
  |builtin b=>
   have fG:(#[]++args).all (ij F)=true:=U;rw[Array.all_append,Bool.and_eq_true]at fG;exact Zv ae aw aN aI ok b fl type _ ab (Bb he fG.2)
  |invoke r m=>cases ab
 |panic x=>exact .never aI (aa1 (Zu _))
 |_=>cases ab
end
end
section
open Go Go.Conc
def q1(o:Oper):Bool:=match o.op with
 |.assign (.const (.int .i64 n))=>n==990099
 |_=>false
def codeOk(p:Program)(F:FuncId->Bool):Code->Bool
 |.region _ ops _=>ops.toList.all λo=>mx p F o.op&&!q1 o
 |.seq a b=>codeOk p F a&&codeOk p F b
 |.cond c a b=>ij F c&&codeOk p F a&&codeOk p F b
 |.block _ c | .loop c | .scope c=>codeOk p F c
 |.rangeFunc f _ a b=>ij F f&&codeOk p F a&&codeOk p F b
 |.refuse _=>false
 |_=>true
def akN(fn:Func):Bool:=fn.results.all fun | .tmp _=>true | .cell ..=>true
section
variable(p:Program)(F:FuncId->Bool)
structure px(ops ops':Array Oper):Prop where
 dst:∀i:Nat,(ops'[i]?).map (·.dst)=(ops[i]?).map (·.dst)
 same:∀(i:Nat) o,ops[i]?=some o->q1 o=false->ops'[i]?=some o
 sched:∀m t,Region.schedule m ops' t=Region.schedule m ops t
 size:ops'.size=ops.size
 ok:(ops'.toList.all λo=>mx p F o.op)=true
inductive je(iF:Prop)(C:ee)(ρ:bA):Item->Item->Prop
 |code {c:Code}:codeOk p F c=true->je iF C ρ (.code c) (.code c)
 |reg {i:Nat} {ops ops':Array Oper} {d:Bool}:(ops.toList.all λo=>mx p F o.op)=true->px p F ops ops'->((∃o∈ops,q1 o=true)->iF)->je iF C ρ (.code (.region i ops d)) (.code (.region i ops' d))
 |inBlock {i:Nat}:je iF C ρ (.inBlock i) (.inBlock i)
 |inLoop {c:Code}:codeOk p F c=true->je iF C ρ (.inLoop c) (.inLoop c)
 |inScope {c:Code}:codeOk p F c=true->je iF C ρ (.inScope c) (.inScope c)
 |inRegion {ops ops':Array Oper} {todo:List Nat}:(ops.toList.all λo=>mx p F o.op)=true->px p F ops ops'->((∃o∈ops,q1 o=true)->iF)->je iF C ρ (.inRegion ops todo) (.inRegion ops' todo)
 |wz {l aG:Nat}:ρ l aG->je iF C ρ (.inRangeFunc l) (.inRangeFunc aG)
 |uy {l aG:Nat}:ρ l aG->je iF C ρ (.endRangeFunc l) (.endRangeFunc aG)
 |begin:je iF C ρ .beginRound .beginRound
inductive Gj:FrameMode->FrameMode->Prop
 |run:Gj .run .run
 |ret:Gj .returning .returning
def rr:Option (List Deferred×FuncId×Bool)->Prop
 |some x=>x.2.2=true
 |none=>False
variable(p':Program)
structure hh(C:ee)(ρ:bA)(X:Option (List Deferred×FuncId×Bool))(f bj:Frame):Prop where
 fn:bj.fn=f.fn
 tmps:cv C ρ f.tmps bj.tmps
 todo:df (je p F (rr X) C ρ) f.todo bj.todo
 defers:∃ds,df (sj C ρ) f.defers ds/\bj.defers=ds++(X.map (·.1)).getD []
 mode:Gj f.mode bj.mode
 kind:f.kind=.normal
 mZ:X=none->bj.kind=.normal
 round:gG ρ f.roundOf bj.roundOf
 bot:X.isSome=true->f.roundOf=none
 res:X=none->f.roundOf=none->(p'.funcs[f.fn]?).map (·.results)=(p.funcs[f.fn]?).map (·.results)
 cE:f.mode=.returning->f.roundOf=none
 nn:∀x,X=some x->f.fn=x.2.1
 tV:bj.kind≠.report
 cU:∀x,X=some x->x.2.2=false->bj.kind=.normal
inductive h5(C:ee)(ρ:bA)(X:List Deferred×FuncId×Bool)(cO:Frame)(dV:List Frame):List Frame->List Frame->Prop
 |bot {f bj:Frame}:hh p F p' C ρ (some X) f bj->h5 C ρ X cO dV [f,cO] (bj::dV)
 |cons {f bj:Frame} {fs oU:List Frame}:hh p F p' C ρ none f bj->h5 C ρ X cO dV fs oU->h5 C ρ X cO dV (f::fs) (bj::oU)
def aiX(C:ee)(ρ:bA)(X:List Deferred×FuncId×Bool)(cO:Frame)(dV:List Frame)(fs oU:List Frame):Prop:=
 ∃g a a' us us',fs=Frame.enter p g a .normal::us/\oU=Frame.enter p' g a' .normal::us'/\nO p g/\a.size=arity p g/\cv C ρ a a'/\h5 p F p' C ρ X cO dV us us'
end
section
variable(p:Program)
def u5(v:Value):List Frame->Sem (Frame×List Frame)
 |c::cs=>pure (c.finish v,cs)
 |[]=>stuck ""
def L5:Option Code->Bool
 |none=>true
 |some .ret=>true
 |_=>false
def lL(fr:Frame)(cs:List Frame)(jump:Option Code):Sem (Frame×List Frame):=
 match fr.roundOf with
 |none=>if L5 jump then pure ({ fr with mode:=.returning },cs)else stuck ""
 |some l=>do u5 (←Instr.endRound l jump) cs
def uS(fr:Frame)(cs:List Frame):Next->Sem (Frame×List Frame)
 |.value v=>pure (fr.finish v,cs)
 |.skip=>pure (fr.finish undef,cs)
 |.enter f a=>pure (Frame.enter p f a .normal,fr::cs)
 |.round l f t a b=>pure (Frame.round l f t a b .normal,fr::cs)
 |_=>.halt .blocked
def xc(fr:Frame)(cs:List Frame):Sem (Frame×List Frame):=
 let to (todo:List Item):Sem (Frame×List Frame):=pure ({ fr with todo },cs)
 match fr.todo with
 |[]=>lL fr cs none
 |.code .ret::_=>lL fr cs (some .ret)
 |.code .skip::k | .code (.label _)::k | .inBlock _::k | .inScope _::k | .inRegion _ []::k=>to k
 |.code (.seq a b)::k=>to (.code a::.code b::k)
 |.code (.cond c a b)::k=>match fr.eval c with
  |.bool t=>to (.code (if t then a else b)::k)
  |_=>stuck ""
 |.code (.block id c)::k=>to (.code c::.inBlock id::k)
 |.code (.loop c)::k | .inLoop c::k=>to (.code c::.inLoop c::k)
 |.code (.scope c)::k=>to (.code c::.inScope c::k)
 |.code (.exit id)::k=>match exitTo id k with
  |some bB=>to bB
  |none=>lL fr cs (some (.exit id))
 |.code (.goto l)::k=>match gotoIn l k with
  |some bB=>to bB
  |none=>lL fr cs (some (.goto l))
 |.code (.rangeFunc f a7 a b)::k=>do
  let(l,mark) ←Instr.enterLoop fr.fn fr.tmps a7 a b fr.roundOf
  let fr:Frame:={ fr with todo:=.inRangeFunc l::k,defers:=mark++fr.defers }
  uS p fr cs (←(do let d ←Deferred.ofValue (fr.eval f) #[.func (.yield l) #[] #[]];invoke d.target d.args))
 |.beginRound::_=>do uS p fr cs (←(do fr.roundOf.elim (stuck "beginRound: no round") Instr.beginRound;pure .skip))
 |.endRangeFunc l::k=>do to (((←Instr.endLoop l).map Item.code).toList++k)
 |.code (.region id ops draw)::k=>
  if draw then(do to (.inRegion ops (Region.schedule (p.follows .mixedOrders) ops (←choose (.order fr.fn id)))::k))else to (.inRegion ops (List.range ops.size)::k)
 |.inRegion ops (i::_)::_=>match ops[i]? with
  |some o=>if Region.wanted o (yielded ops fr.tmps)then(do uS p fr cs (←execOp fr.eval o))else pure (fr.finish undef,cs)
  |none=>pure (fr.finish undef,cs)
 |_=>stuck ""
def lD(fr:Frame)(cs:List Frame):Sem (Frame×List Frame):=
 match fr.mode with
 |.run=>xc p fr cs
 |.returning=>match fr.defers with
  |{ target:=.collected r,.. }::ds=>do pure ({ fr with defers:=(←Instr.takeDeferred r)++ds },cs)
  |_::_=>stuck ""
  |[]=>match p.funcs[fr.fn]? with
   |some fn=>do u5 (←results fn fr.tmps) cs
   |none=>u5 (fr.tmps.getD 0 undef) cs
 |_=>stuck ""
end
def p8(p:Program)(main:Bool)(fr:Frame)(cs:List Frame)(w:World):Result (Frame×List Frame)×Array Event->Prop
 |(.ok x w1,es)=>∃es2,stepG p main (G fr cs) w=.go (G x.1 x.2) w1 es2/\∀e∈es2,e∈es
 |(.halt (.panic v) w1,es)=>(∃f af w2 es2,stepG p main (G fr cs) w=.go (G (f.raise af) cs) w2 es2/\((∀g a7 a b k,fr.todo≠.code (.rangeFunc g a7 a b)::k)->f=fr))\/∃o w2 es2,stepG p main (G fr cs) w=.ended o w2 es2
 |(.halt h w1,es)=>Halt.still h->∃o w2 es2,stepG p main (G fr cs) w=.ended o w2 es2
section
variable{p:Program}{main:Bool}{w:World}
theorem lK{fr:Frame}{cs:List Frame}{x:Frame×List Frame}(h:stepG p main (G fr cs) w=.go (G x.1 x.2) w #[]):p8 p main fr cs w ((pure x:Sem (Frame×List Frame)).runT p w #[]):=⟨#[],h,by simp⟩
theorem C4{fr:Frame}{cs:List Frame}{tR:String}(h:∃o w2 es2,stepG p main (G fr cs) w=.ended o w2 es2):p8 p main fr cs w ((stuck tR:Sem (Frame×List Frame)).runT p w #[]):=λ_=>h
theorem uv(fn:FuncId)(es:Array Event):∀e∈seen p fn es,e∈es:=by
 unfold seen;dsimp only;rw[←Array.foldl_toList];have key:∀(l:List Event)(q:Bool)(kept:Array Event),∀e∈(l.foldl (λ(x:Bool×Array Event) e=>match x with|(q,kept)=>match e.loc with | .mark (.extern f)=>((p.funcs[f]?).any (·.norace),kept)|_=>(q,if q&&!e.sync then kept else kept.push e)) (q,kept)).2,e∈l\/e∈kept:=by
  intro l;induction l with
  |nil=>intro q kept e he;exact .inr he
  |cons a l az=>
   intro q kept e he;rw[List.foldl_cons]at he;dsimp only at he;split at he
   ·rcases az _ _ e he with h|h
    ·exact .inl (by simp[h])
    ·exact .inr h
   ·rcases az _ _ e he with h|h
    ·exact .inl (by simp[h])
    ·split at h
     ·exact .inr h
     ·rcases Array.mem_push.1 h with h|h
      ·exact .inr h
      ·exact .inl (by simp[h])
 intro e he;rcases key _ _ _ e he with h|h
 ·simpa using h
 ·simp at h
theorem OF{α β:Type}(s:Sem α)(f:α->Sem β):∀(w:World)(es:Array Event),(s >>= f).runT p w es=match s.runT p w es with
  |(.ok a w1,es1)=>(f a).runT p w1 es1
  |(.halt h w1,es1)=>(.halt h w1,es1):=by
 intro w es;show(s.bind f).runT p w es=_;induction s generalizing w es with
 |pure a=>rfl
 |load m a k az=>grind [Sem.bind,Sem.runT]
 |store m a v k az=>
  cases v<;>simp only[Sem.bind,Sem.runT]<;>(
   cases w.cell? a with
   |some v=>
    dsimp only;split
    ·rfl
    ·exact az _ _
   |none=>
    dsimp only;split
    ·exact az _ _
    ·rfl)
 |new o k az=>exact az _ _ _
 |shape r k az=>exact az _ _ _
 |freeze a n k az=>exact az _ _
 |frozen a k az=>exact az _ _ _
 |getObj r k az=>grind [Sem.bind,Sem.runT]
 |setObj r o k az=>grind [Sem.bind,Sem.runT]
 |choose q k az=>grind [Sem.bind,Sem.runT]
 |sys c k az=>exact az _ _ _
 |program k az=>exact az _ _ _
 |mark m k az=>exact az _ _
 |halt h=>rfl
end
end
section
open Go Go.Conc
def BJ(p:Program)(F:FuncId->Bool):Item->Prop
 |.code c=>∀y,c≠.refuse y
 |.inLoop _ | .inScope _=>True
 |.inRegion ops _=>(ops.toList.all λo=>mx p F o.op)=true
 |.inBlock _ | .inRangeFunc _ | .endRangeFunc _ | .beginRound=>True
 |_=>False
structure BK(p:Program)(F:FuncId->Bool)(fr:Frame):Prop where
 items:∀it∈fr.todo,BJ p F it
 mode:fr.mode=.run\/fr.mode=.returning
 defers:fr.mode=.returning->∀d ds,fr.defers=d::ds->∃r,d.target=.collected r
def JX(fr:Frame)(cs:List Frame):Prop:=(fr.kind=.normal/\cs≠[])\/(fr.roundOf=none/\(fr.mode=.returning->fr.defers≠[]))
section
variable{p q:Program}{F:FuncId->Bool}{main:Bool}{w:World}{fr:Frame}{cs:List Frame}
theorem yM{α:Type}{s:Sem α}{f:α->Sem (Frame×List Frame)}
  (fU:∀a w1 es1,s.runT p w #[]=(.ok a w1,es1)->p8 p main fr cs w ((f a).runT p w1 es1))
  (akW:∀v w1 es1,s.runT p w #[]=(.halt (.panic v) w1,es1)->p8 p main fr cs w (.halt (.panic v) w1,es1))
  (bh:∀h w1 es1,Halt.still h->s.runT p w #[]=(.halt h w1,es1)->∃o w2 es2,stepG p main (G fr cs) w=.ended o w2 es2):p8 p main fr cs w ((s >>= f).runT p w #[]):=by
 rw[OF];cases h:s.runT p w #[]with
 |mk r es1=>
  cases r with
  |ok a w1=>grind
  |halt x w1=>
   cases x with
   |panic v=>grind
   |stuck y=>exact λao=>bh _ _ _ ao h
   |unsupported y=>cases y<;>exact λao=>bh _ _ _ ao h
   |_=>exact λao=>ao.elim
theorem IZ{x:Value}{w1:World}{es1 es2:Array Event}{c:Frame}(ah:∀e∈es2,e∈es1)(h:stepG p main (G fr (c::cs)) w=.go (G (c.finish x) cs) w1 es2):p8 p main fr (c::cs) w ((u5 x (c::cs)).runT p w1 es1):=⟨es2,h,ah⟩
theorem NF{jump:Option Code}(ad:fr.roundOf=none)(aC:L5 jump=true)(h:stepG p main (G fr cs) w=.go (G { fr with mode:=.returning } cs) w #[]):p8 p main fr cs w ((lL fr cs jump).runT p w #[]):=by
 obtain⟨fn,tmps,todo,defers,mode,kind,round⟩:=fr;subst ad;unfold lL;grind [lK]
theorem GV{v:Value}{w1:World}{c:Frame}(aq:fr.kind=.normal):doReturn p main fr (c::cs) none v w1=.go (G (c.finish v) cs) w1 #[]:=by
 unfold doReturn;rw[aq];rfl
theorem Db{jump:Option Code}{l:Nat}(ad:fr.roundOf=some l)(ao:JX fr cs)
  (h:∀r es,(Instr.endRound l jump).runT p w #[]=(r,es)->stepG p main (G fr cs) w=GStep.after (seen p fr.fn es) (match r with | .ok v w=>doReturn p main fr cs none v w | .halt _ w=>.ended (.stuck "range over a function: no such loop" (fr.pos p)) w)):p8 p main fr cs w ((lL fr cs jump).runT p w #[]):=by
 unfold lL;rw[ad];rcases ao with⟨aq,bU⟩|⟨U,_⟩
 ·obtain⟨c,cs',rfl⟩:=List.exists_cons_of_ne_nil bU;refine yM (λv w1 es1 e=>?_) (λv w1 es1 e=>?_) λx w1 es1 ao e=>?_
  ·grind [GV,IZ,uv,GStep.after]
  ·have:=h _ _ e;exact .inr ⟨_,_,_,this⟩
  ·have:=h _ _ e;exact⟨_,_,_,this⟩
 grind
theorem Jb(s:GStep):GStep.after #[] s=s:=by cases s<;>simp[GStep.after]
def RU:List Item->Bool
 |.call ..::_ | .extern ..::_=>false
 |_=>true
theorem NG(fr:Frame)(af:List PanicEntry):¬calm (fr.raise af):=by grind [Frame.raise,calm]
theorem DY{fr0:Frame}{s:Sem Next}{w1:World}{esA es1:Array Event}(aH:(∀g a7 a b k,fr0.todo≠.code (.rangeFunc g a7 a b)::k)->fr=fr0)(aV:RU fr.todo=true)(FB:∀e∈esA,e∈es1)
  (h:stepG p main (G fr0 cs) w=GStep.after esA (stepG.apply p true fr cs none s w1)):p8 p main fr0 cs w ((s >>= uS p fr cs).runT p w1 es1):=by
 rw[OF];have aK:s.runT p w1 es1=((s.runT p w1 #[]).1,es1++(s.runT p w1 #[]).2):=by rw[Sem.runT_eq,Sem.runT_eq,Sem.events_acc]
 rw[aK];unfold stepG.apply at h;dsimp only at h;rw[if_pos rfl]at h;generalize s.runT p w1 #[]=r at h⊢;obtain⟨r,es⟩:=r;have key:∀(ec:Array Event)(hf:∀e∈ec,e∈es),∀e∈(esA++(seen p fr.fn ec++#[])),e∈es1++es:=by
  intro ec hf e he;simp only[Array.append_empty,Array.mem_append]at he⊢;rcases he with he|he
  ·exact .inl (FB e he)
  ·exact .inr (hf e (uv _ _ e he))
 have FF:∀(x:Array Event),(∀e∈x,e∈es)->∀e∈(if(fr.kind==CallKind.early)=true then #[]else x),e∈es:=λx aj e he=>by
  split at he
  ·simp at he
  ·exact aj e he
 have cr:∀e∈es,e∈es:=λe he=>he;cases r with
 |ok n w2=>
  dsimp only at h⊢;cases n with
  |value v=>exact⟨_,h.trans rfl,key _ (FF es cr)⟩
  |skip=>exact⟨_,h.trans rfl,key _ (FF es cr)⟩
  |enter f a=>
   have ej:=FF es cr;dsimp only at h;generalize(if(fr.kind==CallKind.early)=true then #[]else es)=E at h ej;split at h
   ·rename_i e;rw[e]at aV;simp[RU]at aV
   ·exact⟨_,h.trans rfl,key _ ej⟩
  |round l f t a b=>exact⟨_,h.trans rfl,key _ (FF es cr)⟩
  |_=>exact λx=>x.elim
 |halt x w2=>
  dsimp only at h⊢;cases x with
  |panic v=>exact .inl ⟨fr,_,_,_,h.trans rfl,aH⟩
  |stuck y=>exact λ_=>⟨_,_,_,h.trans rfl⟩
  |unsupported y=>cases y<;>first|exact λ_=>⟨_,_,_,h.trans rfl⟩|exact λx=>x.elim
  |_=>exact λx=>x.elim
theorem QV(h:BK q F fr)(ao:JX fr cs):p8 p main fr cs w ((lD p fr cs).runT p w #[]):=by
 obtain⟨fn,tmps,todo,defers,mode,kind,round⟩:=fr;obtain⟨q2,jZ,iY⟩:=h;dsimp only at q2 jZ iY;rcases jZ with rfl|rfl
 ·unfold lD xc;dsimp only;cases todo with
  |nil=>
   cases round with
   |none=>exact NF rfl rfl (by simp[G,stepG,stepG.exec])
   |some l=>exact Db rfl ao λr es e=>by simp only[G,stepG,stepG.exec];rw[e];cases r<;>rfl
  |cons it k=>
   have aX:=q2 it (by simp);cases it with
   |code ajx=>
    cases ajx with
    |skip=>exact lK (by simp[G,stepG,stepG.exec])
    |label l=>exact lK (by simp[G,stepG,stepG.exec])
    |seq a b=>exact lK (by simp[G,stepG,stepG.exec])
    |block i a=>exact lK (by simp[G,stepG,stepG.exec])
    |loop a=>exact lK (by simp[G,stepG,stepG.exec])
    |scope a=>exact lK (by simp[G,stepG,stepG.exec])
    |cond x a b=>
     dsimp only;split
     ·rename_i t e;exact lK (by simp[G,stepG,stepG.exec,e])
     ·rename_i e;refine C4 ?_;simp only[G,stepG,stepG.exec];cases aj:Frame.eval ⟨fn,tmps,.code (.cond x a b)::k,defers,.run,kind,round⟩ x with
      |bool b=>exact absurd aj (e b)
      |_=>exact⟨_,_,_,rfl⟩
    |ret=>
     cases round with
     |none=>exact NF rfl rfl (by simp[G,stepG,stepG.exec])
     |some l=>exact Db rfl ao λr es e=>by simp only[G,stepG,stepG.exec];rw[e];cases r<;>rfl
    |exit i=>
     dsimp only;split
     ·rename_i bB e;exact lK (by simp[G,stepG,stepG.exec,e])
     ·rename_i e;cases round with
      |none=>exact C4 ⟨_,_,_,by simp[G,stepG,stepG.exec,e];exact⟨rfl,rfl,rfl⟩⟩
      |some l=>exact Db rfl ao λr es e'=>by simp only[G,stepG,stepG.exec,e,Option.elim];rw[e'];cases r<;>rfl
    |goto i=>
     dsimp only;split
     ·rename_i bB e;exact lK (by simp[G,stepG,stepG.exec,e])
     ·rename_i e;cases round with
      |none=>exact C4 ⟨_,_,_,by simp[G,stepG,stepG.exec,e];exact⟨rfl,rfl,rfl⟩⟩
      |some l=>exact Db rfl ao λr es e'=>by simp only[G,stepG,stepG.exec,e,Option.elim];rw[e'];cases r<;>rfl
    |refuse y=>exact absurd rfl (aX y)
    |rangeFunc f a7 a b=>
     dsimp only;refine yM (λx w1 es1 e=>?_) (λv w1 es1 e=>?_) λx w1 es1 ao e=>?_
     ·obtain⟨l,mark⟩:=x;dsimp only;refine DY (esA:=seen p fn es1) (λh=>absurd rfl (h _ _ _ _ _)) rfl (uv _ _) ?_;simp only[G,stepG,stepG.exec];rw[e];simp only[resolve,Frame.eval,List.map_toArray,List.map_cons,List.map_nil]
     ·exact .inr (by simp only[G,stepG,stepG.exec];rw[e];exact⟨_,_,_,rfl⟩)
     ·simp only[G,stepG,stepG.exec];rw[e];exact⟨_,_,_,rfl⟩
    |region i ops draw=>
     dsimp only;cases draw with
     |false=>exact lK (by simp[G,stepG,stepG.exec])
     |true=>
      rw[if_pos rfl];refine yM (λx w1 es1 e=>?_) (λv w1 es1 e=>?_) λx w1 es1 ao e=>?_
      ·refine⟨#[],?_,by simp⟩;have e':(choose (.order fn i)).run p w=.ok x w1:=by rw[←Sem.runT_fst p _ w #[],e]
       simp only[G,stepG,stepG.exec,Bool.not_true,Bool.false_eq_true,if_false];rw[e']
      all_goals
       have e':=congrArg Prod.fst e;rw[Sem.runT_fst]at e';simp only[choose,Sem.run]at e';split at e'<;>cases e'
   |inBlock i=>exact lK (by simp[G,stepG,stepG.exec])
   |inLoop a=>exact lK (by simp[G,stepG,stepG.exec])
   |inScope a=>exact lK (by simp[G,stepG,stepG.exec])
   |inRegion ops todo=>
    cases todo with
    |nil=>exact lK (by simp[G,stepG,stepG.exec])
    |cons i rest=>
     dsimp only;cases ar:ops[i]? with
     |none=>exact lK (by simp[G,stepG,stepG.exec,ar])
     |some o=>
      dsimp only;by_cases hw:Region.wanted o (yielded ops tmps)=true
      ·rw[if_pos hw];refine DY (esA:=#[]) (λ_=>rfl) rfl (by simp) ?_;simp only[G,stepG,stepG.exec,ar,Option.map_some,Option.getD_some,hw,if_true,stepG.oper,Frame.oper?];have aq:∀c,o.op≠.defer c:=λc e=>by
        have:=List.all_eq_true.1 aX o (Array.mem_toList_iff.2 (Array.mem_of_getElem? ar));rw[e]at this;simp[mx,E3]at this
       split
       ·rename_i e;exact absurd e (aq _)
       ·rw[Jb]
      ·rw[if_neg hw];refine lK ?_;simp only[G,stepG,stepG.exec,ar,Option.map_some,Option.getD_some,hw];rfl
   |inRangeFunc l=>exact C4 ⟨_,_,_,rfl⟩
   |endRangeFunc l=>
    dsimp only;refine yM (λx w1 es1 e=>?_) (λv w1 es1 e=>?_) λx w1 es1 ao e=>?_
    ·refine⟨seen p fn es1,?_,uv _ _⟩;simp only[G,stepG,stepG.exec];rw[e];simp[GStep.after]
    ·refine .inl ⟨_,[{ v,recovered:=false }],w1,seen p fn es1++#[],?_,λ_=>rfl⟩;simp only[G,stepG,stepG.exec];rw[e];rfl
    ·simp only[G,stepG,stepG.exec];rw[e];cases x<;>first|exact⟨_,_,_,rfl⟩|exact ao.elim
   |beginRound=>
    dsimp only;refine DY (esA:=#[]) (λ_=>rfl) rfl (by simp) ?_;rw[Jb];rfl
   |call d x y z=>simp[BJ]at aX
   |extern x y=>simp[BJ]at aX
 ·unfold lD;dsimp only;cases defers with
  |nil=>
   rcases ao with⟨aq,bU⟩|⟨_,ab⟩
   ·obtain⟨c,cs',rfl⟩:=List.exists_cons_of_ne_nil bU;cases aQ:p.funcs[fn]? with
    |none=>
     dsimp only;refine IZ (es2:=#[]) (by simp) ?_;simp only[G,stepG,unwind,aQ];rw[GV aq];rfl
    |some g=>
     dsimp only;refine yM (λx w1 es1 e=>?_) (λv w1 es1 e=>?_) λx w1 es1 ao e=>?_
     ·refine IZ (es2:=seen p fn es1) (uv _ _) ?_;simp only[G,stepG,unwind,aQ];rw[e];dsimp only;rw[GV aq];simp[GStep.after,G]
     ·simp only[p8,G,stepG,unwind,aQ];rw[e];exact .inr ⟨_,_,_,rfl⟩
     ·simp only[G,stepG,unwind,aQ];rw[e];cases x<;>exact⟨_,_,_,rfl⟩
   ·exact absurd rfl (ab rfl)
  |cons d ds=>
   obtain⟨r,ad⟩:=iY rfl d ds rfl;obtain⟨t,a⟩:=d;dsimp only at ad;subst ad;dsimp only;refine yM (λx w1 es1 e=>?_) (λv w1 es1 e=>?_) λx w1 es1 ao e=>?_
   ·refine⟨seen p fn es1,?_,uv _ _⟩;simp only[G,stepG,unwind];rw[e];simp[GStep.after]
   ·exact .inr (by simp only[G,stepG,unwind];rw[e];exact⟨_,_,_,rfl⟩)
   ·simp only[G,stepG,unwind];rw[e];exact⟨_,_,_,rfl⟩
end
end
section
open Go Go.Conc
def bH(p:Program)(F:FuncId->Bool):ee:=⟨λf=>F f=true,λf n=>o4 p f=true/\n=arity p f,true,p.globals.size,λc=>codeOk p F c=true⟩
theorem Hj{p:Program}{f:FuncId}(h:o4 p f=true):nO p f:=by
 unfold o4 at h;split at h
 ·rename_i fn U;split at h
  ·rename_i c ab;exact⟨fn,c,U,ab,h⟩
  ·cases h
 ·cases h
section
variable{p p':Program}{F:FuncId->Bool}{C:ee}{ρ σ:bA}{X:Option (List Deferred×FuncId×Bool)}{Y:List Deferred×FuncId×Bool}{cO:Frame}{dV:List Frame}{f bj:Frame}{fs oU cs cs':List Frame}
theorem je.mono{iF:Prop}(h:cN ρ σ){x y:Item}(k:je p F iF C ρ x y):je p F iF C σ x y:=by
 cases k with
 |code k=>exact .code k
 |reg k bB k2=>exact .reg k bB k2
 |inBlock=>exact .inBlock
 |inLoop k=>exact .inLoop k
 |inScope k=>exact .inScope k
 |inRegion k bB k2=>exact .inRegion k bB k2
 |wz k=>exact .wz (h _ _ k)
 |uy k=>exact .uy (h _ _ k)
 |begin=>exact .begin
theorem hh.mono(h:cN ρ σ)(k:hh p F p' C ρ X f bj):hh p F p' C σ X f bj:=by
 obtain⟨ds,U,ab⟩:=k.defers;exact⟨k.fn,cv.mono h k.tmps,k.todo.mono λ_ _ x=>x.mono h,⟨ds,U.mono λ_ _ x=>x.mono h,ab⟩,k.mode,k.kind,k.mZ,k.round.mono λ_ _ x=>h _ _ x,k.bot,k.res,k.cE,k.nn,k.tV,k.cU⟩
theorem h5.mono(h:cN ρ σ)(k:h5 p F p' C ρ Y cO dV fs oU):h5 p F p' C σ Y cO dV fs oU:=by
 induction k with
 |bot k=>exact .bot (k.mono h)
 |cons k _ az=>exact .cons (k.mono h) az
theorem h5.top(h:h5 p F p' C ρ Y cO dV (f::cs) (bj::cs')):∃X,hh p F p' C ρ X f bj/\∀σ g g',cN ρ σ->hh p F p' C σ X g g'->h5 p F p' C σ Y cO dV (g::cs) (g'::cs'):=by
 cases h with
 |bot h=>exact⟨_,h,λσ g g' _ aN=>.bot aN⟩
 |cons h k=>exact⟨_,h,λσ g g' ak aN=>.cons aN (k.mono ak)⟩
theorem h5.shape(h:h5 p F p' C ρ Y cO dV fs oU):∃f bj cs cs',fs=f::cs/\oU=bj::cs'/\cs≠[]:=by
 cases h with
 |bot h=>grind
 |cons h k=>
  refine⟨_,_,_,_,rfl,rfl,?_⟩;cases k<;>simp
theorem yq{a a':Array Value}(h:cv C ρ a a')(i:Nat):aZ C ρ (a.getD i undef) (a'.getD i undef):=by
 rw[Array.getD_eq_getD_getElem?,Array.getD_eq_getD_getElem?];rcases h.get i with⟨U,ab⟩|⟨x,y,U,ab,al⟩
 ·rw[U,ab];exact .tuple rfl (by simp)
 grind
theorem hh.eval(aw:∀f,F f=true->C.F f)(h:hh p F p' C ρ X f bj):BI C ρ F f.eval bj.eval:=by
 intro x aj;cases x with
 |tmp t=>exact yq h.tmps t
 |const v=>exact Et aw v aj
 |global g=>cases aj
 |func g=>exact .func (.func (aw g aj)) rfl (by simp) rfl (by simp)
theorem hh.yY(h:hh p F p' C ρ X f bj){t bw:List Item}(a1:df (je p F (rr X) C ρ) t bw):hh p F p' C ρ X { f with todo:=t } { bj with todo:=bw }:=
 ⟨h.fn,h.tmps,a1,h.defers,h.mode,h.kind,h.mZ,h.round,h.bot,h.res,h.cE,h.nn,h.tV,h.cU⟩
theorem hh.finish(h:hh p F p' C ρ X f bj){v bg:Value}(ai:aZ C ρ v bg):hh p F p' C ρ X (f.finish v) (bj.finish bg):=by
 obtain⟨fn,tmps,todo,defers,mode,kind,round⟩:=f;obtain⟨cC,rb,yY,yE,yZ,mZ,yR⟩:=bj;obtain⟨U,ab,al,aJ,bm,bI,cS,et,gp,h7,mF,nv,oV,nu⟩:=h;cases al with
 |nil=>exact⟨U,ab,.nil,aJ,bm,bI,cS,et,gp,h7,mF,nv,oV,nu⟩
 |cons aX aq=>
  cases aX with
  |inRegion u6 kt gZ=>
   rename_i ops ops' todo;cases todo with
   |nil=>exact⟨U,ab,.cons (.inRegion u6 kt gZ) aq,aJ,bm,bI,cS,et,gp,h7,mF,nv,oV,nu⟩
   |cons i rest=>
    refine⟨U,?_,.cons (.inRegion u6 kt gZ) aq,aJ,bm,bI,cS,et,gp,h7,mF,nv,oV,nu⟩;show cv C ρ (match(ops[i]?).bind (·.dst)with|some d=>tmps.setIfInBounds d v|none=>tmps) (match(ops'[i]?).bind (·.dst)with|some d=>rb.setIfInBounds d bg|none=>rb);have e:(ops'[i]?).bind (·.dst)=(ops[i]?).bind (·.dst):=by
     have:=kt.dst i;grind
    grind [bE.set]
  |wz ak=>exact⟨U,ab,.cons (.uy ak) aq,aJ,bm,bI,cS,et,gp,h7,mF,nv,oV,nu⟩
  |begin=>exact⟨U,ab,aq,aJ,bm,bI,cS,et,gp,h7,mF,nv,oV,nu⟩
  |reg ah kt gZ=>exact⟨U,ab,.cons (.reg ah kt gZ) aq,aJ,bm,bI,cS,et,gp,h7,mF,nv,oV,nu⟩
  |code ah=>exact⟨U,ab,.cons (.code ah) aq,aJ,bm,bI,cS,et,gp,h7,mF,nv,oV,nu⟩
  |inBlock=>exact⟨U,ab,.cons .inBlock aq,aJ,bm,bI,cS,et,gp,h7,mF,nv,oV,nu⟩
  |inLoop ah=>exact⟨U,ab,.cons (.inLoop ah) aq,aJ,bm,bI,cS,et,gp,h7,mF,nv,oV,nu⟩
  |inScope ah=>exact⟨U,ab,.cons (.inScope ah) aq,aJ,bm,bI,cS,et,gp,h7,mF,nv,oV,nu⟩
  |uy ak=>exact⟨U,ab,.cons (.uy ak) aq,aJ,bm,bI,cS,et,gp,h7,mF,nv,oV,nu⟩
theorem X3{iF:Prop}(id:Nat){k bB:List Item}(h:df (je p F iF C ρ) k bB):gG (df (je p F iF C ρ)) (exitTo id k) (exitTo id bB):=by
 induction h with
 |nil=>exact .none
 |cons aX aq az=>
  cases aX with
  |inBlock=>
   simp only[exitTo];split
   ·exact .some aq
   ·exact az
  |_=>assumption
theorem G0:∀(c:Code)(l:Nat){r:Code},codeOk p F c=true->findLabel c l=some r->codeOk p F r=true
 |.seq a b,l,r,h,e=>by
  simp[codeOk]at h;simp only[findLabel]at e;split at e
  ·rename_i rest e';cases e;simp[codeOk];exact⟨G0 a l h.1 e',h.2⟩
  ·exact G0 b l h.2 e
 |.label aG,l,r,h,e=>by
  simp only[findLabel]at e;split at e
  ·cases e;rfl
  ·cases e
 |.skip,l,r,h,e=>by cases e
 |.region ..,l,r,h,e=>by cases e
 |.cond ..,l,r,h,e=>by cases e
 |.block ..,l,r,h,e=>by cases e
 |.loop ..,l,r,h,e=>by cases e
 |.scope ..,l,r,h,e=>by cases e
 |.rangeFunc ..,l,r,h,e=>by cases e
 |.refuse ..,l,r,h,e=>by cases e
 |.exit ..,l,r,h,e=>by cases e
 |.goto ..,l,r,h,e=>by cases e
 |.ret,l,r,h,e=>by cases e
theorem X4{iF:Prop}(l:Nat){k bB:List Item}(h:df (je p F iF C ρ) k bB):gG (df (je p F iF C ρ)) (gotoIn l k) (gotoIn l bB):=by
 induction h with
 |nil=>exact .none
 |cons aX aq az=>
  cases aX with
  |@inScope c ah=>
   simp only[gotoIn];cases e:findLabel c l with
   |none=>exact az
   |some r=>exact .some (.cons (.code (G0 c l ah e)) (.cons (.inScope ah) aq))
  |_=>assumption
theorem W3{ops ops':Array Oper}(ad:px p F ops ops'){a a':Array Value}(h:cv C ρ a a'):yielded ops' a'=yielded ops a:=by
 funext j;unfold yielded;have e:(ops'[j]?).bind (·.dst)=(ops[j]?).bind (·.dst):=by
  have:=ad.dst j;grind
 rw[e];cases(ops[j]?).bind (·.dst)with
 |none=>rfl
 |some d=>
  simp ;rcases h.get d with⟨U,ab⟩|⟨x,y,U,ab,al⟩
  ·rw[U,ab]
  ·rw[U,ab];cases al with
   |bT _ _ k=>
    cases y with
    |bool b=>grind
    |_=>rfl
   |_=>rfl
end
section
variable{p p':Program}{F:FuncId->Bool}{ρ:bA}
theorem Dz(ok:b0 (bH p F).G ρ){l aG:Nat}(ak:ρ l aG):dR (bH p F) p p' (λσ=>zO (bH p F) σ) ρ (Instr.getLoop l) (Instr.getLoop aG):=by
 refine ml ak λo o' h=>?_;cases h with
 |loop h=>exact .pure h
 |_=>exact bp
theorem W4(ok:b0 (bH p F).G ρ)(fn:FuncId){t bw:Array Value}(a1:cv (bH p F) ρ t bw)(a7:Array Tmp){a b:Code}(au:codeOk p F a=true)(hb:codeOk p F b=true){r bR:Option Nat}(ad:gG ρ r bR):
  dR (bH p F) p p' (λσ x bk=>σ x.1 bk.1/\df (sj (bH p F) σ) x.2 bk.2) ρ (Instr.enterLoop fn t a7 a b r) (Instr.enterLoop fn bw a7 a b bR):=by
 have key:∀(σ:bA)(ak:cN ρ σ)(ar:b0 (bH p F).G σ)(d dq:Nat)(m m':List Deferred),σ d dq->df (sj (bH p F) σ) m m' ->
   dR (bH p F) p p' (λσ x bk=>σ x.1 bk.1/\df (sj (bH p F) σ) x.2 bk.2) σ (do pure (←newObj (.loop { state:=.ready,pending:=none,fn,tmps:=t,params:=a7,assign:=a,body:=b,defers:=d }),m)) (do pure (←newObj (.loop { state:=.ready,pending:=none,fn,tmps:=bw,params:=a7,assign:=a,body:=b,defers:=dq }),m')):=λσ ak ar d dq m m' U ab=>
  dR.bind (AG (.loop ⟨rfl,rfl,rfl,cv.mono ak a1,rfl,rfl,rfl,U,λc e=>(by cases e),au,hb⟩)) ar λτ r bR bQ cz ad=>.pure ⟨ad,ab.mono λ_ _ x=>x.mono bQ⟩
 cases ad with
 |none=>exact dR.bind (AG (.FD .nil)) ok λσ r bR ak ar ad=>key σ ak ar _ _ _ _ ad (.cons ⟨.collected ad,bE.nil⟩ .nil)
 |some h=>exact dR.bind (Dz ok h) ok λσ r bR ak ar ad=>key σ ak ar _ _ _ _ ad.defers .nil
variable(ae:PP (bH p F) p p')
include ae
theorem Wq(ok:b0 (bH p F).G ρ){l aG:Nat}(ak:ρ l aG):fJ (bH p F) p p' ρ (Instr.beginRound l) (Instr.beginRound aG):=by
 refine dR.bind (Dz ok ak) ok λσ r bR hle ar ad=>?_;refine cg (qO (hle _ _ ak) (.loop ⟨rfl,ad.pending,ad.fn,ad.tmps,ad.params,ad.assign,ad.body,ad.defers,ad.zP,ad.zQ,ad.zR⟩)) ar λτ _ _ _=>?_;rw[ad.state];cases r.state with
 |ready=>exact .pure rfl
 |_=>exact me (C:=(bH p F)) ae trivial
theorem X5(ok:b0 (bH p F).G ρ){l aG:Nat}(ak:ρ l aG)(j:Option Code)(aC:∀c,j=some c->codeOk p F c=true):dx (bH p F) p p' ρ (Instr.endRound l j) (Instr.endRound aG j):=by
 refine dR.bind (Dz ok ak) ok λσ r bR hle ar ad=>?_;exact cg (qO (hle _ _ ak) (.loop ⟨rfl,rfl,ad.fn,ad.tmps,ad.params,ad.assign,ad.body,ad.defers,aC,ad.zQ,ad.zR⟩)) ar λτ _ _ _=>.pure .bool
theorem Zw(ok:b0 (bH p F).G ρ){l aG:Nat}(ak:ρ l aG):dR (bH p F) p p' (λ_ x bk=>bk=x/\∀c,x=some c->codeOk p F c=true) ρ (Instr.endLoop l) (Instr.endLoop aG):=by
 refine dR.bind (Dz ok ak) ok λσ r bR hle ar ad=>?_;rw[ad.state];refine dc (λ_=>?_) λ_=>?_
 ·exact dR.bind (A:=λ_=>Eq) (me (C:=(bH p F)) ae trivial) ar λτ a b bQ cz _=>cg (qO (bQ _ _ (hle _ _ ak)) (.loop ⟨rfl,ad.pending,ad.fn,cv.mono bQ ad.tmps,ad.params,ad.assign,ad.body,bQ _ _ ad.defers,ad.zP,ad.zQ,ad.zR⟩)) cz λ_ _ _ _=>.pure ⟨ad.pending,ad.zP⟩
 ·exact cg (qO (hle _ _ ak) (.loop ⟨rfl,ad.pending,ad.fn,ad.tmps,ad.params,ad.assign,ad.body,ad.defers,ad.zP,ad.zQ,ad.zR⟩)) ar λ_ _ _ _=>.pure ⟨ad.pending,ad.zP⟩
theorem VI(ok:b0 (bH p F).G ρ){l aG:Nat}(ak:ρ l aG):dR (bH p F) p p' (λσ=>df (sj (bH p F) σ)) ρ (Instr.takeDeferred l) (Instr.takeDeferred aG):=by
 refine ml ak λo o' h=>?_;cases h with
 |FD h=>exact cg (qO ak .Ks) ok λσ _ ak _=>.pure (h.mono λ_ _ x=>x.mono ak)
 |_=>exact bp
theorem HC(ok:b0 (bH p F).G ρ)(fn cC:Func)(dX:cC.results=fn.results){t bw:Array Value}(a1:cv (bH p F) ρ t bw):dx (bH p F) p p' ρ (results fn t) (results cC bw):=by
 unfold results;rw[dX];refine dR.bind (A:=λσ=>cv (bH p F) σ) ?_ ok λσ a a' ak ar au=>?_
 ·rw[Array.mapM_eq_foldlM,Array.mapM_eq_foldlM,←Array.foldlM_toList,←Array.foldlM_toList];generalize fn.results.toList=rs;have key:∀(rs:List ResultVar){ρ:bA}(ok:b0 (bH p F).G ρ){t bw:Array Value}(a1:cv (bH p F) ρ t bw)(acc th:Array Value),cv (bH p F) ρ acc th->dR (bH p F) p p' (λσ=>cv (bH p F) σ) ρ
    (List.foldlM (λbs a=>Functor.map bs.push (match a with | .tmp x=>pure (t.getD x undef) | .cell a ty=>do loadVar ty (←asAddr (t.getD a undef)):Sem Value)) acc rs)
    (List.foldlM (λbs a=>Functor.map bs.push (match a with | .tmp x=>pure (bw.getD x undef) | .cell a ty=>do loadVar ty (←asAddr (bw.getD a undef)):Sem Value)) th rs):=by
   intro rs;induction rs with
   |nil=>intro ρ ok t bw a1 acc th h;exact .pure h
   |cons x rs az=>
    intro ρ ok t bw a1 acc th h;rw[List.foldlM_cons,List.foldlM_cons];refine dR.bind (A:=λσ=>cv (bH p F) σ) ?_ ok λσ b a6 ak ar hb=>az ar (cv.mono ak a1) b a6 hb;rw[map_eq_pure_bind,map_eq_pure_bind];refine dR.bind (A:=λσ=>aZ (bH p F) σ) ?_ ok λσ v bg ak ar ai=>.pure (bE.push (cv.mono ak h) ai);cases x with
    |tmp x=>exact .pure (yq a1 x)
    |cell a ty=>exact dR.bind (aaU ae (yq a1 a)) ok λσ a a' ak ar au=>OA ae ar ty au
  exact key rs ok a1 _ _ bE.nil
 ·refine .pure ?_;have e:=au.1;by_cases U:a.size=1
  ·rw[dif_pos U,dif_pos (e▸U)];exact au.2 0 _ _ (by simp[U]) (by simp[e▸U])
  ·rw[dif_neg U,dif_neg (λx=>U (e.trans x))];exact .tuple' au
end
end
end Go.Proofs.YtlminnpaeaganaaGreat
