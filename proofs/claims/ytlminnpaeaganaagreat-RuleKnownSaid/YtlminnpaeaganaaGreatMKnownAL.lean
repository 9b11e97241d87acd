/- Part of the proof of RuleKnown. No condition. -/
import Derived.Conc.Beside
import Derived.Conc.CrowdTrace
import Derived.Test.YtlminnpaeaganaaGreatMKnownAA
import Derived.Test.YtlminnpaeaganaaGreatMKnownAK
namespace Go.Proofs.YtlminnpaeaganaaGreat
set_option maxRecDepth 100000
set_option linter.all false
section
open Go Go.Conc
structure pk(p p':Program)(F:FuncId->Bool):Prop where
 fns:∀f,F f=true->∃fn cC c,p.funcs[f]?=some fn/\p'.funcs[f]?=some cC/\fn.body=some c/\cC.body=some c/\cC.ntmps=fn.ntmps/\cC.results=fn.results/\codeOk p F c=true
 UL:p'.follows .mixedOrders=p.follows .mixedOrders
def CK(p p':Program)(F:FuncId->Bool)(Y:List Deferred×FuncId×Bool)(cO:Frame)(dV:List Frame)(ρ:bA)(x y:Frame×List Frame):Prop:=
 h5 p F p' (bH p F) ρ Y cO dV (x.1::x.2) (y.1::y.2)\/aiX p F p' (bH p F) ρ Y cO dV (x.1::x.2) (y.1::y.2)
section
variable{p p':Program}{F:FuncId->Bool}{ρ σ:bA}{X:Option (List Deferred×FuncId×Bool)}{Y:List Deferred×FuncId×Bool}{cO:Frame}{dV:List Frame}{f bj:Frame}{fs oU cs cs':List Frame}
theorem px.refl{ops:Array Oper}(h:(ops.toList.all λo=>mx p F o.op)=true):px p F ops ops:=⟨λ_=>rfl,λ_ _ h _=>h,λ_ _=>rfl,rfl,h⟩
abbrev uf(p p':Program)(F:FuncId->Bool)(Y:List Deferred×FuncId×Bool)(cO:Frame)(dV:List Frame)(ρ:bA)(s s':Sem (Frame×List Frame)):Prop:=dR (bH p F) p p' (CK p p' F Y cO dV) ρ s s'
theorem OG(h:pk p p' F){g:FuncId}(aN:F g=true){a a':Array Value}(au:cv (bH p F) ρ a a'):hh p F p' (bH p F) ρ none (Frame.enter p g a .normal) (Frame.enter p' g a' .normal):=by
 obtain⟨fn,cC,c,U,fG,ab,ha,aJ,bm,al⟩:=h.fns g aN
 ·have aK:∀a,Frame.enter p g a .normal=⟨g,a++Array.replicate (fn.ntmps-a.size) undef,[.code c],[],.run,.normal,none⟩:=λa=>by grind [Frame.enter]
  have aO:∀a,Frame.enter p' g a .normal=⟨g,a++Array.replicate (fn.ntmps-a.size) undef,[.code c],[],.run,.normal,none⟩:=λa=>by grind [Frame.enter]
  rw[aK,aO];refine⟨rfl,?_,.cons (.code al) .nil,⟨[],.nil,rfl⟩,.run,rfl,λ_=>rfl,.none,λe=>(by cases e),λ_ _=>by grind,λ_=>rfl,λ_ e=>(by cases e),by simp,λ_ e=>(by cases e)⟩;rw[au.1];exact bE.append au (bE.replicate _ (.tuple rfl (by simp)))
theorem I0(ae:PP (bH p F) p p')(dH:pk p p' F)(ok:b0 (bH p F).G ρ)(h:h5 p F p' (bH p F) ρ Y cO dV (f::cs) (bj::cs')){n eu:Next}(aI:sk (bH p F) ρ n eu):uf p p' F Y cO dV ρ (uS p f cs n) (uS p' bj cs' eu):=by
 obtain⟨X,aQ,n8⟩:=h.top;cases aI with
 |value ai=>exact .pure (.inl (n8 _ _ _ (cN.refl _) (aQ.finish ai)))
 |skip=>exact .pure (.inl (n8 _ _ _ (cN.refl _) (aQ.finish (.tuple rfl (by simp)))))
 |enter aN au=>exact .pure (.inl (.cons (OG dH aN au) h))
 |@RS g a a' ao au=>exact .pure (.inr ⟨g,a,a',_,_,rfl,rfl,Hj ao.1,ao.2,au,h⟩)
 |round ak au aj aF=>exact .pure (.inl (.cons ⟨rfl,au,.cons (.code aj) (.cons .begin (.cons (.code aF) .nil)),⟨[],.nil,rfl⟩,.run,rfl,λ_=>rfl,.some ak,λe=>(by cases e),λ_ e=>(by cases e),λe=>(by cases e),λ_ e=>(by cases e),by simp[Frame.round],λ_ e=>(by cases e)⟩ h))
theorem JY(ok:b0 (bH p F).G ρ){fs oU:List Frame}(h:h5 p F p' (bH p F) ρ Y cO dV fs oU){v bg:Value}(ai:aZ (bH p F) ρ v bg):uf p p' F Y cO dV ρ (u5 v fs) (u5 bg oU):=by
 obtain⟨f,bj,cs,cs',rfl,rfl,_⟩:=h.shape;obtain⟨X,aQ,n8⟩:=h.top;exact .pure (.inl (n8 _ _ _ (cN.refl _) (aQ.finish ai)))
theorem RV(j:Option Code)(h:L5 j=true\/(∃i,j=some (.exit i))\/∃i,j=some (.goto i)):∀c,j=some c->codeOk p F c=true:=by
 intro c e;subst e;rcases h with h|⟨i,h⟩|⟨i,h⟩
 ·cases c<;>first|rfl|cases h
 ·cases h;rfl
 ·cases h;rfl
theorem acT(ae:PP (bH p F) p p')(ok:b0 (bH p F).G ρ)(h:h5 p F p' (bH p F) ρ Y cO dV (f::cs) (bj::cs'))(j:Option Code)(aC:∀c,j=some c->codeOk p F c=true):uf p p' F Y cO dV ρ (lL f cs j) (lL bj cs' j):=by
 have key:∀X,hh p F p' (bH p F) ρ X f bj->(∀σ g g',cN ρ σ->hh p F p' (bH p F) σ X g g'->h5 p F p' (bH p F) σ Y cO dV (g::cs) (g'::cs'))->(X=none->h5 p F p' (bH p F) ρ Y cO dV cs cs')->uf p p' F Y cO dV ρ (lL f cs j) (lL bj cs' j):=by
  intro X aQ n8 hcs;obtain⟨fn,tmps,todo,defers,mode,kind,round⟩:=f;obtain⟨cC,rb,yY,yE,yZ,mZ,yR⟩:=bj;obtain⟨U,ab,al,aJ,bm,bI,cS,et,gp,h7,mF,nv,oV,nu⟩:=aQ;cases et with
  |none=>
   unfold lL;exact dc (λ_=>.pure (.inl (n8 _ _ _ (cN.refl _) ⟨U,ab,al,aJ,.ret,bI,cS,.none,gp,h7,λ_=>rfl,nv,oV,nu⟩))) λ_=>bp
  |some ak=>
   unfold lL;cases X with
   |some x=>grind
   |none=>exact dR.bind (X5 ae ok ak j aC) ok λσ v bg hle ar ai=>JY ar ((hcs rfl).mono hle) ai
 cases h with
 |bot h=>exact key _ h (λ_ _ _ _ aN=>.bot aN) λe=>by cases e
 |cons h k=>exact key _ h (λ_ _ _ ak aN=>.cons aN (k.mono ak)) λ_=>k
def wF(f:Frame):Prop:=∀ops i rest k o,f.todo=.inRegion ops (i::rest)::k->ops[i]?=some o->q1 o=false
theorem noMark(h:hh p F p' (bH p F) ρ X f bj)(fz:¬rr X):wF f:=by
 intro ops i rest k o e ar;have a1:=h.todo;rw[e]at a1;generalize bj.todo=t at a1;cases a1 with
 |cons aX _=>
  cases aX with
  |inRegion _ _ hm=>grind
variable(ae:PP (bH p F) p p')(dH:pk p p' F)
include ae dH
theorem afp(ok:b0 (bH p F).G ρ)(h:h5 p F p' (bH p F) ρ Y cO dV (f::cs) (bj::cs'))(mD:wF f):uf p p' F Y cO dV ρ (xc p f cs) (xc p' bj cs'):=by
 obtain⟨X,aQ,n8⟩:=h.top;have to:∀σ t bw,cN ρ σ->df (je p F (rr X) (bH p F) σ) t bw->uf p p' F Y cO dV σ (pure ({ f with todo:=t },cs)) (pure ({ bj with todo:=bw },cs')):=λσ t bw ak a1=>.pure (.inl (n8 _ _ _ ak ((aQ.mono ak).yY a1)));have ay:=aQ.eval (λ_ h=>h);have ey:=λj aC=>acT ae ok h j aC;obtain⟨fn,tmps,todo,defers,mode,kind,round⟩:=f;obtain⟨cC,rb,yY,yE,yZ,mZ,yR⟩:=bj;have U:=aQ.fn;have ab:=aQ.tmps;have al:=aQ.todo;have aJ:=aQ.defers;have et:=aQ.round;dsimp only at U ab al aJ et;subst U;unfold xc;dsimp only;cases al with
 |nil=>grind
 |@cons _ _ xs ys aX aq=>
  cases aX with
  |reg ah kt gZ=>
   rename_i i ops ops' draw;dsimp only;cases draw with
   |false=>rw[kt.size];exact to _ _ _ (cN.refl _) (.cons (.inRegion ah kt gZ) aq)
   |true=>
    rw[if_pos rfl,if_pos rfl,dH.UL];exact yy λn=>by rw[kt.sched];exact to _ _ _ (cN.refl _) (.cons (.inRegion ah kt gZ) aq)
  |code ah=>
   rename_i c;cases c with
   |skip=>grind [cN.refl]
   |label l=>grind [cN.refl]
   |seq a b=>
    simp[codeOk]at ah;exact to _ _ _ (cN.refl _) (.cons (.code ah.1) (.cons (.code ah.2) aq))
   |block i a=>exact to _ _ _ (cN.refl _) (.cons (.code ah) (.cons .inBlock aq))
   |loop a=>exact to _ _ _ (cN.refl _) (.cons (.code ah) (.cons (.inLoop ah) aq))
   |scope a=>exact to _ _ _ (cN.refl _) (.cons (.code ah) (.cons (.inScope ah) aq))
   |cond x a b=>
    simp[codeOk]at ah;have aj:=ay x ah.1.1;dsimp only;revert aj;generalize Frame.eval _ x=v;generalize Frame.eval _ x=bg;intro aj;cases aj with
    |@bool t=>exact to _ _ _ (cN.refl _) (.cons (.code (by grind)) aq)
    |_=>exact bp
   |ret=>grind
   |exit i=>
    dsimp only;have aj:=X3 i aq;revert aj;generalize exitTo i _=x;generalize exitTo i _=bk;intro aj;cases aj with
    |none=>exact ey _ (RV _ (.inr (.inl ⟨i,rfl⟩)))
    |some gx=>exact to _ _ _ (cN.refl _) gx
   |goto i=>
    dsimp only;have aj:=X4 i aq;revert aj;generalize gotoIn i _=x;generalize gotoIn i _=bk;intro aj;cases aj with
    |none=>exact ey _ (RV _ (.inr (.inr ⟨i,rfl⟩)))
    |some gx=>exact to _ _ _ (cN.refl _) gx
   |refuse y=>cases ah
   |rangeFunc g a7 a b=>
    simp[codeOk]at ah;refine dR.bind (W4 ok cC ab a7 ah.1.2 ah.2 et) ok λσ x bk hle ar aj=>?_;obtain⟨l,mk⟩:=x;obtain⟨aG,mk'⟩:=bk;obtain⟨ds,gE,jY⟩:=aJ;have ly:hh p F p' (bH p F) σ X ⟨cC,tmps,.inRangeFunc l::xs,mk++defers,mode,kind,round⟩ ⟨cC,rb,.inRangeFunc aG::ys,mk'++yE,yZ,mZ,yR⟩:=by
     have hm:=aQ.mono hle;exact⟨rfl,hm.tmps,.cons (.wz aj.1) (aq.mono λ_ _ x=>x.mono hle),⟨mk'++ds,aj.2.append (gE.mono λ_ _ x=>x.mono hle),by rw[jY,List.append_assoc]⟩,hm.mode,hm.kind,hm.mZ,hm.round,hm.bot,hm.res,hm.cE,hm.nn,hm.tV,hm.cU⟩
    refine dR.bind (A:=λσ=>sk (bH p F) σ) ?_ ar λτ n eu BH cz aI=>I0 ae dH cz ((n8 _ _ _ hle ly).mono BH) aI;exact M3 ae (λ_ h=>h) (Nat.le_refl _) rfl ar (ly.eval (λ_ h=>h) g ah.1.1) (bE.one (.func (.yield aj.1) rfl (by simp) rfl (by simp)))
   |region i ops draw=>
    dsimp only;have hA:(ops.toList.all λo=>mx p F o.op)=true:=List.all_eq_true.2 λo ar=>by
     have:=List.all_eq_true.1 ah o ar;simp  at this;exact this.1
    have oT:(∃o∈ops,q1 o=true)->rr X:=λ⟨o,ar,hm⟩=>by
     have:=List.all_eq_true.1 ah o (Array.mem_toList_iff.2 ar);simp[hm]at this
    cases draw with
    |false=>exact to _ _ _ (cN.refl _) (.cons (.inRegion hA (px.refl hA) oT) aq)
    |true=>
     rw[if_pos rfl,if_pos rfl,dH.UL];exact yy λn=>to _ _ _ (cN.refl _) (.cons (.inRegion hA (px.refl hA) oT) aq)
  |inBlock=>exact to _ _ _ (cN.refl _) aq
  |inLoop ah=>exact to _ _ _ (cN.refl _) (.cons (.code ah) (.cons (.inLoop ah) aq))
  |inScope ah=>exact to _ _ _ (cN.refl _) aq
  |inRegion u6 kt gZ=>
   rename_i ops ops' todo;cases todo with
   |nil=>exact to _ _ _ (cN.refl _) aq
   |cons i rest=>
    dsimp only;have iJ:uf p p' F Y cO dV ρ (pure (Frame.finish ⟨cC,tmps,.inRegion ops (i::rest)::xs,defers,mode,kind,round⟩ undef,cs)) (pure (Frame.finish ⟨cC,rb,.inRegion ops' (i::rest)::ys,yE,yZ,mZ,yR⟩ undef,cs')):=.pure (.inl (n8 _ _ _ (cN.refl _) (aQ.finish (.tuple rfl (by simp)))));cases ar:ops[i]? with
    |none=>
     have eC:ops'[i]?=none:=by
      rw[Array.getElem?_eq_none_iff]at ar⊢;rw[kt.size];exact ar
     rw[eC];exact iJ
    |some o=>
     have eC:=kt.same i o ar (mD _ _ _ _ _ rfl ar);rw[eC];rw[W3 kt ab];refine dc (λ_=>?_) λ_=>iJ;refine dR.bind (A:=λσ=>sk (bH p F) σ) ?_ ok λσ n eu hle ar aI=>I0 ae dH ar (h.mono hle) aI;exact aa2 ae (λ_ h=>h) (Nat.le_refl _) rfl ok o (List.all_eq_true.1 u6 o (Array.mem_toList_iff.2 (Array.mem_of_getElem? ar))) ay (λ_=>⟨rfl,rfl⟩) λf aQ=>⟨aQ,rfl⟩
  |wz ak=>exact bp
  |uy ak=>
   exact dR.bind (Zw ae ok ak) ok λσ j j5 hle ar aC=>by
    rw[aC.1];refine to _ _ _ hle (df.append ?_ (aq.mono λ_ _ x=>x.mono hle));cases jB:j with
    |none=>exact .nil
    |some c=>exact .cons (.code (aC.2 c jB)) .nil
  |begin=>
   refine dR.bind (A:=λσ=>sk (bH p F) σ) ?_ ok λσ n eu hle ar aI=>I0 ae dH ar (h.mono hle) aI;cases et with
   |none=>exact jW
   |some ak=>exact cg (Wq ae ok ak) ok λ_ _ _ _=>.pure .skip
theorem agL(ok:b0 (bH p F).G ρ)(h:h5 p F p' (bH p F) ρ Y cO dV (f::cs) (bj::cs'))(il:f.mode=.returning->f.defers=[]->cs≠[cO])(mD:wF f):uf p p' F Y cO dV ρ (lD p f cs) (lD p' bj cs'):=by
 suffices key:∀X,hh p F p' (bH p F) ρ X f bj->(∀σ g g',cN ρ σ->hh p F p' (bH p F) σ X g g'->h5 p F p' (bH p F) σ Y cO dV (g::cs) (g'::cs'))->(f.mode=.returning->f.defers=[]->X=none/\h5 p F p' (bH p F) ρ Y cO dV cs cs')->uf p p' F Y cO dV ρ (lD p f cs) (lD p' bj cs')by
  cases h with
  |bot h=>exact key _ h (λ_ _ _ _ aN=>.bot aN) λU ab=>absurd rfl (il U ab)
  |cons h k=>exact key _ h (λ_ _ _ ak aN=>.cons aN (k.mono ak)) λ_ _=>⟨rfl,k⟩
 intro X aQ n8 fz;have aB:=afp ae dH ok h mD;have hm:=aQ.mode;cases jZ:f.mode with
 |run=>
  rw[jZ]at hm;have eX:bj.mode=.run:=by cases e:bj.mode<;>rw[e]at hm<;>first|rfl|cases hm
  grind [lD]
 |returning=>
  rw[jZ]at hm;have eX:bj.mode=.returning:=by cases e:bj.mode<;>rw[e]at hm<;>first|rfl|cases hm
  unfold lD;rw[jZ,eX];obtain⟨ds,gE,jY⟩:=aQ.defers;cases vD:f.defers with
  |nil=>
   rw[vD]at gE;cases gE;have fz:=fz jZ vD;have jv:bj.defers=[]:=by grind
   rw[jv,aQ.fn];have gO:=aQ.res fz.1 (aQ.cE jZ);cases U:p.funcs[f.fn]? with
   |none=>
    have ab:p'.funcs[f.fn]?=none:=by grind
    rw[ab];exact JY ok fz.2 (yq aQ.tmps 0)
   |some fn=>
    rw[U]at gO;obtain⟨cC,ab,al⟩:=Option.map_eq_some_iff.1 gO;rw[ab];exact dR.bind (HC ae ok fn cC al aQ.tmps) ok λσ v bg ak ar ai=>JY ar (fz.2.mono ak) ai
  |cons d amn=>
   rw[vD]at gE;cases gE with
   |cons aV xw=>
    rename_i dq zS;rw[jY];obtain⟨t,a⟩:=d;obtain⟨bw,a'⟩:=dq;have a1:=aV.t;cases a1 with
    |collected ad=>
     refine dR.bind (VI ae ok ad) ok λσ x bk ak ar aj=>.pure (.inl (n8 _ _ _ ak ?_));have kU:=aQ.mono ak;exact⟨kU.fn,kU.tmps,kU.todo,⟨bk++zS,aj.append (xw.mono λ_ _ x=>x.mono ak),by simp_all⟩,.ret,kU.kind,kU.mZ,kU.round,kU.bot,kU.res,λ_=>aQ.cE jZ,kU.nn,kU.tV,kU.cU⟩
 |panicking c=>rw[jZ]at hm;cases hm
omit ae dH in
theorem PK{iF:Prop}{x y:Item}(h:je p F iF (bH p F) ρ x y):BJ p F x/\BJ p F y:=by
 cases h with
 |code h=>exact⟨λy e=>(by rw[e]at h;cases h),λy e=>(by rw[e]at h;cases h)⟩
 |reg h k _=>exact⟨λy e=>(by cases e),λy e=>(by cases e)⟩
 |inRegion h k _=>exact⟨h,k.ok⟩
 |_=>trivial
omit ae dH in
theorem PL{α β:Type}{R:α->β->Prop}{xs:List α}{ys:List β}(h:df R xs ys):(∀x∈xs,∃y,R x y)/\∀y∈ys,∃x,R x y:=by
 induction h with
 |nil=>simp
 |cons h _ az=>grind
omit ae dH in
theorem PM(h:hh p F p' (bH p F) ρ X f bj)(aV:f.mode=.returning->f.defers=[]->X=none):BK p F f/\BK p F bj:=by
 have q2:=PL h.todo;obtain⟨ds,gE,jY⟩:=h.defers;have aiY:=PL gE;have k4:∀{d dq:Deferred},sj (bH p F) ρ d dq->(∃r,d.target=.collected r)/\∃r,dq.target=.collected r:=λ{d dq} aV=>by
  obtain⟨t,a⟩:=d;obtain⟨bw,a'⟩:=dq;have:=aV.t;cases this with
  |collected h=>grind
 have hm:(f.mode=.run/\bj.mode=.run)\/(f.mode=.returning/\bj.mode=.returning):=by
  have:=h.mode;generalize f.mode=m at this;generalize bj.mode=m' at this;cases this;all_goals grind
 refine⟨⟨λit aj=>?_,?_,λ_ d zS e=>?_⟩,⟨λit aj=>?_,?_,λad d zS e=>?_⟩⟩
 ·obtain⟨y,aF⟩:=q2.1 it aj;exact(PK aF).1
 ·grind
 ·obtain⟨y,aF⟩:=aiY.1 d (by rw[e];simp);grind
 ·obtain⟨y,aF⟩:=q2.2 it aj;exact(PK aF).2
 ·grind
 ·cases vD:f.defers with
  |nil=>
   rw[vD]at gE;cases gE;grind
  |cons a b=>
   rw[vD]at gE;cases gE with
   |cons x y=>grind
omit ae dH in
theorem aaG(h:h5 p F p' (bH p F) ρ Y cO dV (f::cs) (bj::cs'))(il:f.mode=.returning->f.defers=[]->cs≠[cO]):cs≠[]/\BK p F f/\BK p F bj/\f.kind=.normal/\JX bj cs':=by
 have bU:cs≠[]:=by
  obtain⟨_,_,_,_,aK,_,aO⟩:=h.shape;cases aK;exact aO
 refine⟨bU,?_⟩;cases h with
  |bot h=>
   have:=PM h λU ab=>absurd rfl (il U ab);obtain⟨ds,gE,jY⟩:=h.defers;refine⟨this.1,this.2,h.kind,.inr ⟨?_,λad=>?_⟩⟩
   ·have ad:=h.round;rw[h.bot rfl]at ad;generalize bj.roundOf=r at ad;cases ad;rfl
   ·have ir:f.mode=.returning:=by
     have:=h.mode;rw[ad]at this;generalize f.mode=m at this;cases this;rfl
    rw[jY];cases vD:f.defers with
    |nil=>exact absurd rfl (il ir vD)
    |cons a b=>
     rw[vD]at gE;cases gE;simp
  |cons h k=>
   have:=PM h λ_ _=>rfl;refine⟨this.1,this.2,h.kind,.inl ⟨h.mZ rfl,?_⟩⟩;cases k<;>simp
theorem Ia{ro:Nat->Prop}{main:Bool}{V W':World}(hw:dN (bH p F) ρ ro V W')(dY:∀b,W'.heap.size<=b->¬ro b)(h:h5 p F p' (bH p F) ρ Y cO dV (f::cs) (bj::cs'))(il:f.mode=.returning->f.defers=[]->cs≠[cO])(mD:wF f)
  {fr:Tape->Nat->Frame} {nm:Tape->Nat->List Frame} {w2:Tape->Nat->World} {es:Tape->Nat->Array Event}
  (ai:∀τ d,stepG p true (G f cs) (a8 V τ d)=.go (G (fr τ d) (nm τ d)) (w2 τ d) (es τ d)) (ah:∀τ d,calm (fr τ d)):
  ∃τ d σ f1 cs1 bF es1,stepG p' main (G bj cs') W'=.go (G f1 cs1) bF es1/\CK p p' F Y cO dV σ (fr τ d,nm τ d) (f1,cs1)/\dN (bH p F) σ ro (w2 τ d) bF/\Fr ρ σ ro W' bF/\(∀e∈es1,ja σ ro e)/\(lD p f cs).run p (a8 V τ d)=.ok (fr τ d,nm τ d) (w2 τ d)/\(lD p' bj cs').run p' W'=.ok (f1,cs1) bF:=by
 obtain⟨τ,aB⟩:=(agL ae dH hw.ok h il mD).run V W' #[] 0 hw dY;have aB:=aB τ λ_ _ _=>rfl;obtain⟨bU,bh⟩:=aaG h il;have x6:=QV (p:=p) (main:=true) (w:=a8 V τ 0) bh.1 (.inl ⟨bh.2.2.1,bU⟩);have Vq:=QV (p:=p') (main:=main) (w:=W') bh.2.1 bh.2.2.2;have fp:=ai τ 0;rw[Sem.runT_eq]at x6;cases ad:(lD p f cs).run p (a8 V τ 0)with
 |ok x w1=>
  rw[ad]at aB x6;obtain⟨σ,y,bF,es1,U,ab,al,aJ,bm⟩:=aB;rw[U]at Vq;obtain⟨es2,zX,_⟩:=x6;obtain⟨amo,amp,amq⟩:=Vq;rw[zX]at fp;injection fp with aK aO bS;injection aK with b8 en;refine⟨τ,0,σ,y.1,y.2,bF,amo,amp,?_,?_,aJ,λe he=>bm e (by simpa using amq e he),?_⟩
  ·rw[←b8,←en];exact ab
  ·rw[←aO];exact al
  ·rw[←aO,←b8,←en];exact⟨ad,by rw[←Sem.runT_fst p' _ W' #[],U]⟩
 |halt x w1=>
  rw[ad]at aB x6;cases x with
  |panic v=>
   rcases x6 with⟨_,af,Cs,es2,zX,_⟩|⟨o,Cs,es2,zX⟩
   ·rw[zX]at fp;injection fp with aK aO bS;injection aK with b8 en;exact absurd (b8▸ah τ 0) (NG _ _)
   ·rw[zX]at fp;cases fp
  |stuck y=>obtain⟨o,Cs,es2,zX⟩:=x6 aB;rw[zX]at fp;cases fp
  |unsupported y=>cases y<;>first|exact aB.elim|(obtain⟨o,Cs,es2,zX⟩:=x6 aB;rw[zX]at fp;cases fp)
  |_=>exact aB.elim
end
end
section
open Go Go.Conc
section
variable{p p':Program}{F:FuncId->Bool}{ρ:bA}{cO:Frame}{f bj:Frame}{fn0:FuncId}
theorem X6(ae:PP (bH p F) p p'){ro:Nat->Prop}{V W':World}(hw:dN (bH p F) ρ ro V W')(dY:∀b,W'.heap.size<=b->¬ro b)(h:hh p F p' (bH p F) ρ (some ([],fn0,false)) f bj)(hm:f.mode=.returning)(aV:f.defers=[])
  (gO:(p'.funcs[f.fn]?).map (·.results)=(p.funcs[f.fn]?).map (·.results)) (c1:p'.inits.idxOf? f.fn=none)
  {fr:Tape->Nat->Frame} {nm:Tape->Nat->List Frame} {w2:Tape->Nat->World} {es:Tape->Nat->Array Event}
  (ai:∀τ d,stepG p true (G f [cO]) (a8 V τ d)=.go (G (fr τ d) (nm τ d)) (w2 τ d) (es τ d)):
  ∃τ d σ v bg bF es1,stepG p' true (G bj []) W'=.ended (.done bg) bF es1/\fr τ d=cO.finish v/\nm τ d=[]/\aZ (bH p F) σ v bg/\dN (bH p F) σ ro (w2 τ d) bF/\Fr ρ σ ro W' bF/\∀e∈es1,ja σ ro e:=by
 have eX:bj.mode=.returning:=by
  have:=h.mode;rw[hm]at this;generalize bj.mode=m at this;cases this;rfl
 have jv:bj.defers=[]:=by
  obtain⟨ds,U,ab⟩:=h.defers;rw[aV]at U;cases U;exact ab
 have dX:=h.fn;have vn:=h.tV;obtain⟨fn,tmps,todo,defers,mode,kind,round⟩:=f;obtain⟨cC,rb,yY,yE,yZ,mZ,yR⟩:=bj;have xy:=h.tmps;have BY:=h.kind;dsimp only at hm aV eX jv dX xy BY c1 gO vn;subst hm aV eX jv dX BY;cases U:p.funcs[cC]? with
 |none=>
  rw[U]at gO;have ab:p'.funcs[cC]?=none:=by simpa using gO
  have fp:=ai W'.tape 0;have ay:stepG p true (G ⟨cC,tmps,todo,[],.returning,.normal,round⟩ [cO]) (a8 V W'.tape 0)=.go (G (cO.finish (tmps.getD 0 undef)) []) (a8 V W'.tape 0) #[]:=by simp only[G,stepG,unwind,U];rfl
  rw[ay]at fp;injection fp with aK aO bS;injection aK with b8 en;refine⟨W'.tape,0,ρ,tmps.getD 0 undef,rb.getD 0 undef,W',#[],?_,b8.symm,en.symm,yq xy 0,?_,Fr.refl _ _ _,by simp⟩
  ·simp only[G,stepG,unwind,ab,doReturn,c1];cases mZ<;>first|rfl|exact absurd rfl vn
  ·rw[←aO];exact hw.a8 _ _
 |some g=>
  rw[U]at gO;obtain⟨g',ab,al⟩:=Option.map_eq_some_iff.1 gO;obtain⟨τ,aB⟩:=(HC ae hw.ok g g' al xy).run V W' #[] 0 hw dY;have aB:=aB τ λ_ _ _=>rfl;have fp:=ai τ 0;have ay:stepG p true (G ⟨cC,tmps,todo,[],.returning,.normal,round⟩ [cO]) (a8 V τ 0)=GStep.after (seen p cC ((results g tmps).runT p (a8 V τ 0) #[]).2) (match((results g tmps).runT p (a8 V τ 0) #[]).1 with
    |.ok v w=>.go (G (cO.finish v) []) w #[]
    |.halt (.stuck s) w=>.ended (.stuck s (Frame.pos p ⟨cC,tmps,todo,[],.returning,.normal,round⟩)) w
    |.halt _ w=>.ended (.stuck "return: the result variables cannot be read" (Frame.pos p ⟨cC,tmps,todo,[],.returning,.normal,round⟩)) w):=by
   simp only[G,stepG,unwind,U];generalize(results g tmps).runT p (a8 V τ 0) #[]=r;obtain⟨r,e⟩:=r;cases r with
   |ok v w=>rfl
   |halt x w=>cases x<;>rfl
  rw[ay]at fp;rw[Sem.runT_fst]at fp;cases ad:(results g tmps).run p (a8 V τ 0)with
  |ok v w1=>
   rw[ad]at aB fp;obtain⟨σ,bg,bF,es1,k1,k2,bP,cX,fi⟩:=aB;simp only[GStep.after]at fp;injection fp with aK aO bS;injection aK with b8 en;refine⟨τ,0,σ,v,bg,bF,seen p' cC (#[]++es1)++#[],?_,b8.symm,en.symm,k2,?_,cX,λe he=>?_⟩
   ·simp only[G,stepG,unwind,ab];rw[k1];simp only[doReturn,c1];cases mZ<;>first|rfl|exact absurd rfl vn
   ·rw[←aO];exact bP
   ·simp only[Array.append_empty]at he;have:=uv (p:=p') cC (#[]++es1) e he;exact fi e (by simpa using this)
  |halt x w1=>
   rw[ad]at fp;cases x<;>simp[GStep.after]at fp
end
end
section
open Go Go.Conc
section
variable{C:ee}{ρ:bA}
theorem Ew{α:Type}{R:α->α->Prop}:∀{xs ys:List α},df (λx y=>R y y->x=y) xs ys->df R ys ys->xs=ys
 |_,_,.nil,_=>rfl
 |_,_,.cons h k,.cons bc bB=>by rw[h bc,Ew k bB]
theorem X7{x y:Value}(h:aZ C ρ x y){f:Fn}{a b:Array Value}(aj:x=.func f a b)(aF:y=.func f a b):(tQ C ρ f f/\df (aZ C ρ) a.toList a.toList/\df (aZ C ρ) b.toList b.toList)\/∃n,f=.method n/\a=#[.nilIface]/\b=#[]:=by
 cases h with
 |func U ab al aJ bm=>
  injection aj with aK aO bS;injection aF with b8 en l9;subst aK aO bS b8 en l9;exact .inl ⟨U,bE.toList ⟨ab,al⟩,bE.toList ⟨aJ,bm⟩⟩
 |vi=>grind
 |_=>cases aj
theorem HP{f:Fn}{a b:Array Value}(h:aZ C ρ (.func f a b) (.func f a b)):(tQ C ρ f f/\df (aZ C ρ) a.toList a.toList/\df (aZ C ρ) b.toList b.toList)\/∃n,f=.method n/\a=#[.nilIface]/\b=#[]:=X7 h rfl rfl
theorem X8{x y:Value}(h:aZ C ρ x y){a:Array Value}(aj:x=.tuple a)(aF:y=.tuple a):df (aZ C ρ) a.toList a.toList:=by
 cases h with
 |tuple U ab=>
  injection aj with aK;injection aF with aO;subst aK aO;exact bE.toList ⟨U,ab⟩
 |bT k1 k2 bP=>grind
 |_=>cases aj
mutual
theorem mask:∀bg:Value,∃v,aZ C ρ v bg/\(aZ C ρ bg bg->v=bg)
 |.bool b=>⟨_,.bool,λ_=>rfl⟩
 |.int k n=>⟨_,.int,λ_=>rfl⟩
 |.string s=>⟨_,.string,λ_=>rfl⟩
 |.nilFunc=>⟨_,.nilFunc,λ_=>rfl⟩
 |.nilIface=>⟨_,.nilIface,λ_=>rfl⟩
 |.pointer none=>⟨_,.ca,λ_=>rfl⟩
 |.slice none n m=>⟨_,.bC,λ_=>rfl⟩
 |.map none=>⟨_,.qi,λ_=>rfl⟩
 |.chan none=>⟨_,.vh,λ_=>rfl⟩
 |.float k b=>⟨undef,.bT (by simp) (by simp) (by simp),λh=>by cases h⟩
 |.complex k a b=>⟨undef,.bT (by simp) (by simp) (by simp),λh=>by cases h⟩
 |.pointer (some a)=>by
  by_cases h:ρ a.block a.block
  ·exact⟨_,.ptr ⟨h,rfl,rfl⟩,λ_=>rfl⟩
  ·exact⟨undef,.bT (by simp) (by simp) (by simp),λk=>by cases k with|ptr k=>exact absurd k.b h⟩
 |.slice (some a) n m=>by
  by_cases h:ρ a.block a.block/\ρ.c a.block
  ·exact⟨_,.sl ⟨⟨h.1,rfl,rfl⟩,h.2⟩,λ_=>rfl⟩
  ·by_cases aT:n=0/\m=0
   ·obtain⟨rfl,rfl⟩:=aT;exact⟨_,.jc,λ_=>rfl⟩
   ·exact⟨undef,.bT (by simp) (by simp) (by simp),λk=>by
     cases k with
     |sl k=>exact absurd ⟨k.b,k.c⟩ h
     |jc=>grind⟩
 |.map (some r)=>by
  by_cases h:ρ r r
  ·exact⟨_,.map h,λ_=>rfl⟩
  ·exact⟨undef,.bT (by simp) (by simp) (by simp),λk=>by cases k with|map k=>grind⟩
 |.chan (some r)=>by
  by_cases h:ρ r r
  ·exact⟨_,.chan h,λ_=>rfl⟩
  ·exact⟨undef,.bT (by simp) (by simp) (by simp),λk=>by cases k with|chan k=>grind⟩
 |.iface t v=>by
  obtain⟨w,U,ab⟩:=mask v;exact⟨.iface t w,.iface U,λk=>by cases k with|iface k=>rw[ab k]⟩
 |.agg ⟨a⟩=>by
  obtain⟨b,U,ab⟩:=y7 a;exact⟨.agg b.toArray,aZ.te (bE.ofList U),λk=>by cases k with|agg k1 k2=>rw[Ew ab (bE.toList ⟨k1,k2⟩)]⟩
 |.tuple ⟨a⟩=>by
  obtain⟨b,U,ab⟩:=y7 a;exact⟨.tuple b.toArray,aZ.tuple' (bE.ofList U),λk=>by rw[Ew ab (X8 k rfl rfl)]⟩
 |.func f ⟨a⟩ ⟨b⟩=>by
  obtain⟨a2,U,ab⟩:=y7 a;obtain⟨gB,al,aJ⟩:=y7 b;by_cases hm:∃n,f=.method n
  ·obtain⟨n,rfl⟩:=hm;exact⟨_,.vi,λk=>by
    rcases HP k with⟨k1,_⟩|⟨m,aK,aO,bS⟩
    ·cases k1
    grind⟩
  by_cases aQ:tQ C ρ f f
  ·refine⟨.func f a2.toArray gB.toArray,?_,λk=>?_⟩
   ·have x:=bE.ofList U;have y:=bE.ofList al;exact .func aQ x.1 x.2 y.1 y.2
   ·rcases HP k with⟨_,k2,bP⟩|⟨m,aK,_⟩;all_goals grind [Ew]
  ·refine⟨undef,.bT (by simp) (by simp) ⟨by simp,λn x y e=>hm ⟨n,by injection e⟩,by simp⟩,λk=>?_⟩;rcases HP k with⟨k1,_⟩|⟨m,aK,_⟩;all_goals grind
theorem y7:∀cB:List Value,∃af,df (aZ C ρ) af cB/\df (λx y=>aZ C ρ y y->x=y) af cB
 |[]=>⟨[],.nil,.nil⟩
 |v::af=>by
  obtain⟨w,U,ab⟩:=mask v;obtain⟨ws,al,aJ⟩:=y7 af;exact⟨w::ws,.cons U al,.cons ab aJ⟩
end
theorem Sx(c':Array Value):∃c,cv C ρ c c'/\∀(i:Nat) v,c'[i]?=some v->aZ C ρ v v->c[i]?=some v:=by
 obtain⟨af,U,ab⟩:=y7 (C:=C) (ρ:=ρ) c'.toList;have al:=bE.ofList U;have aJ:=bE.ofList ab;refine⟨af.toArray,al,λi v ai ao=>?_⟩;rcases aJ.get i with⟨_,h⟩|⟨x,y,aj,aF,h⟩;all_goals grind
end
def ef(M:Nat->Prop):bA:=⟨λa b=>b=a/\M a,M⟩
theorem acU(G:Nat)(M:Nat->Prop):b0 G (ef M):=by
 refine⟨λ{a b} h=>?_,λh k=>by rw[h.1,k.1],λh k=>by rw[←h.1,←k.1]⟩;obtain⟨rfl,_⟩:=h;grind
theorem Nr(C:ee)(M:Nat->Prop)(W':World)(vL:C.G<=W'.heap.size)(e3:∀b,M b->∃c e f,W'.heap[b]?=some (.cells c e f)):
  ∃V:World,dN C (ef M) M V W'/\V.heap.size=W'.heap.size/\V.tape=W'.tape/\V.drawn=W'.drawn/\V.os=W'.os/\V.output=W'.output/\(∀b,¬M b->V.heap[b]?=W'.heap[b]?) /\
   (∀b o v,M b->W'.cell? ⟨b,o,none⟩=some v->aZ C (ef M) v v->V.cell? ⟨b,o,none⟩=some v)/\∀b,M b->∃c e n,c.size<=n/\V.heap[b]?=some (.cells c e (0,n)):=by
 have aj:∀i:Nat,∃o,∀o',W'.heap[i]?=some o'->(¬M i->o=o')/\(M i->∀c e f,o'=.cells c e f->∃c2 n,c2.size<=n/\o=.cells c2 e (0,n)/\jj C (ef M) o o'/\∀(j:Nat) v,c[j]?=some v->aZ C (ef M) v v->c2[j]?=some v):=by
  intro i;by_cases aX:M i
  ·obtain⟨c,e,f,h⟩:=e3 i aX;obtain⟨c2,U,ab⟩:=Sx (C:=C) (ρ:=ef M) c;refine⟨.cells c2 e (0,max c2.size f.2),λo' ar=>⟨λx=>absurd aX x,λ_ c' e' bj bc=>?_⟩⟩;rw[h]at ar;cases ar;cases bc;exact⟨c2,_,Nat.le_max_left _ _,rfl,.cells U λi _ rJ=>⟨Nat.zero_le _,Nat.lt_of_lt_of_le rJ (Nat.le_max_right _ _)⟩,ab⟩
  ·cases h:W'.heap[i]? with
   |none=>simp_all
   |some o=>simp_all
 let H:Array Obj:=Array.ofFn (n:=W'.heap.size) λi=>(aj i).choose;have e4:∀b o',W'.heap[b]?=some o'->H[b]?=some (aj b).choose:=λb o' h=>by
  have:=(Array.getElem?_eq_some_iff.1 h).1;simp[H,this]
 have bX:H.size=W'.heap.size:=by simp[H]
 have bK:∀b,M b->∃c e n,c.size<=n/\H[b]?=some (.cells c e (0,n)):=λb hb=>by grind
 refine⟨{ W' with heap:=H },⟨acU _ _,by grind,vL,λb a6 hb=>?_,λb a6 hb _=>bK b hb.2,λb hb=>let⟨c,e,n,_,h⟩:=bK b hb;⟨_,h,trivial⟩⟩,bX,rfl,rfl,rfl,rfl,λb hb=>?_,λb o v hb ai ao=>?_,bK⟩
 ·obtain⟨rfl,hb⟩:=hb;grind
 ·grind
 ·grind [World.cell?]
mutual
def aa.l1:aa->Bool
 |.int _ _ | .bool _ | .str _ | .bC=>true
 |.sl none _ _ _ cs=>hv cs
 |.bJ none _ cs=>!cs.isEmpty&&hv cs
 |.agg cs=>hv cs
 |_=>false
def hv:List aa->Bool
 |[]=>true
 |p::a7=>p.l1&&hv a7
end
section
variable{C C2:ee}{ρ:bA}{ro M:Nat->Prop}{V W' lE:World}{φ:bo}
theorem yh{b sz off cap:Nat}(h:b<V.heap.size):place ⟨λ_=>none,λ_=>none⟩ V none b sz off cap:=⟨(by rintro(⟨i,h⟩|⟨i,h⟩)<;>(cases h)),h⟩
theorem dN.m6(hw:dN C ρ ro V W'){b a6:Nat}(h:ρ b a6)(ad:∃o,V.heap[b]?=some o/\n3 o):∃o',W'.heap[a6]?=some o'/\n3 o':=by
 obtain⟨o,U,ab⟩:=ad;obtain⟨x,bk,k1,k2,bP⟩:=hw.obj b a6 h;rw[U]at k1;cases k1;refine⟨bk,k2,?_⟩;cases bP<;>first|trivial|exact ab.elim
theorem M4{b o:Nat}{v:Value}(h:V.cell? ⟨b,o,none⟩=some v):∃o,V.heap[b]?=some o/\n3 o:=by
 unfold World.cell? at h;split at h
 ·rename_i c e f aj;exact⟨_,aj,trivial⟩
 ·cases h
mutual
theorem OH(hw:dN C ρ ro V W')(e3:∀b a6,ρ b a6->(∃o,W'.heap[a6]?=some o/\n3 o)->M a6)(bX:lE.heap.size=W'.heap.size)(ew:∀b o v,M b->W'.cell? ⟨b,o,none⟩=some v->aZ C2 (ef M) v v->lE.cell? ⟨b,o,none⟩=some v):
  ∀(q:aa){v bg:Value},q.l1=true->aY φ V q v->aZ C ρ v bg->aZ C2 (ef M) bg bg/\aY ⟨λ_=>none,λ_=>none⟩ lE q bg
 |.int k n,v,bg,_,h,ai=>by
  subst h;cases ai;exact⟨.int,rfl⟩
 |.bool b,v,bg,_,h,ai=>by
  subst h;cases ai;exact⟨.bool,rfl⟩
 |.str s,v,bg,_,h,ai=>by
  subst h;cases ai;exact⟨.string,rfl⟩
 |.bC,v,bg,_,h,ai=>by
  subst h;cases ai;exact⟨.bC,rfl⟩
 |.sl none sz off len cs,v,bg,aH,h,ai=>by
  simp only[aY]at h⊢;obtain⟨hlen,a,cap,rfl,lg,h⟩:=h;rcases h with⟨_,n9,au⟩|⟨b,rfl,cD,dA⟩
  ·obtain⟨a,rfl⟩:=Option.isSome_iff_exists.1 au;cases ai with
   |sl ai=>
    have hb:=e3 _ _ ai.b (hw.m6 ai.b (hw.row _ ai.c));exact⟨.sl ⟨⟨⟨rfl,hb⟩,rfl,rfl⟩,hb⟩,hlen,_,cap,rfl,lg,.inl ⟨trivial,n9,rfl⟩⟩
   |jc=>exact⟨.jc,hlen,_,0,rfl,lg,.inl ⟨trivial,n9,rfl⟩⟩
  ·cases ai with
   |@sl _ a' _ _ ai=>
    obtain⟨⟨U,ab,al⟩,ah⟩:=ai;obtain⟨a6,o',s'⟩:=a';dsimp only at U ab al ah;subst ab al;have hb:=e3 _ _ U (hw.m6 U (hw.row _ ah));have aU:a6<lE.heap.size:=by
     obtain⟨_,_,_,k,_⟩:=hw.obj _ _ U;grind
    exact⟨.sl ⟨⟨⟨rfl,hb⟩,rfl,rfl⟩,hb⟩,hlen,_,cap,rfl,lg,.inr ⟨a6,rfl,yh aU,G8 hw e3 bX ew cs aH U dA⟩⟩
   |jc=>exact⟨.jc,hlen,_,0,rfl,lg,.inl ⟨trivial,rfl,rfl⟩⟩
 |.bJ none off cs,v,bg,aH,h,ai=>by
  simp only[aa.l1]at aH;obtain⟨b,rfl,cD,dA⟩:=h;cases ai with
  |@ptr _ a' ai=>
   obtain⟨U,ab,al⟩:=ai;obtain⟨a6,o',s'⟩:=a';dsimp only at U ab al;subst ab al;simp  at aH;obtain⟨nc,aH⟩:=aH;have hb:=e3 _ _ U (hw.m6 U (by
    cases cs with
    |nil=>grind
    |cons hE gD=>grind [b7,M4]))
   have aU:a6<lE.heap.size:=by
    obtain⟨_,_,_,k,_⟩:=hw.obj _ _ U;grind
   exact⟨.ptr ⟨⟨rfl,hb⟩,rfl,rfl⟩,a6,rfl,yh aU,G8 hw e3 bX ew cs aH U dA⟩
 |.agg cs,v,bg,aH,h,ai=>by
  simp only[aY]at h⊢;obtain⟨af,rfl,e0⟩:=h;cases ai with
  |@agg _ a' U ab=>
   have:=Hf hw e3 bX ew cs aH e0 (bE.toList (R:=aZ C ρ) ⟨U,ab⟩);grind [aZ.te,bE.As]
 |.undef,v,bg,aH,h,ai=>by cases aH
 |.bad,v,bg,aH,h,ai=>by cases aH
 |.ca,v,bg,aH,h,ai=>by cases aH
 |.eL,v,bg,aH,h,ai=>by cases aH
 |.dead _,v,bg,aH,h,ai=>by cases aH
 |.cq _,v,bg,aH,h,ai=>by cases aH
 |.ptr _ _,v,bg,aH,h,ai=>by cases aH
 |.sl (some _) _ _ _ _,v,bg,aH,h,ai=>by cases aH
 |.bJ (some _) _ _,v,bg,aH,h,ai=>by cases aH
 |.fn _ _,v,bg,aH,h,ai=>by cases aH
 |.bD _,v,bg,aH,h,ai=>by cases aH
 |.mp _ _ _ _,v,bg,aH,h,ai=>by cases aH
theorem Hf(hw:dN C ρ ro V W')(e3:∀b a6,ρ b a6->(∃o,W'.heap[a6]?=some o/\n3 o)->M a6)(bX:lE.heap.size=W'.heap.size)(ew:∀b o v,M b->W'.cell? ⟨b,o,none⟩=some v->aZ C2 (ef M) v v->lE.cell? ⟨b,o,none⟩=some v):
  ∀(bz:List aa){af cB:List Value},hv bz=true->bl φ V bz af->df (aZ C ρ) af cB->df (aZ C2 (ef M)) cB cB/\bl ⟨λ_=>none,λ_=>none⟩ lE bz cB
 |[],af,cB,_,h,ai=>by
  subst h;cases ai;exact⟨.nil,rfl⟩
 |q::bz,af,cB,aH,h,ai=>by
  simp[hv]at aH;obtain⟨v,BL,rfl,U,ab⟩:=h;cases ai with
  |cons k1 k2=>
   have a:=OH hw e3 bX ew q aH.1 U k1;have b:=Hf hw e3 bX ew bz aH.2 ab k2;exact⟨.cons a.1 b.1,_,_,rfl,a.2,b.2⟩
theorem G8(hw:dN C ρ ro V W')(e3:∀b a6,ρ b a6->(∃o,W'.heap[a6]?=some o/\n3 o)->M a6)(bX:lE.heap.size=W'.heap.size)(ew:∀b o v,M b->W'.cell? ⟨b,o,none⟩=some v->aZ C2 (ef M) v v->lE.cell? ⟨b,o,none⟩=some v):
  ∀(bz:List aa){b a6 off:Nat},hv bz=true->ρ b a6->b7 φ V b bz off->b7 ⟨λ_=>none,λ_=>none⟩ lE a6 bz off
 |[],b,a6,off,_,_,_=>trivial
 |q::bz,b,a6,off,aH,hb,h=>by
  simp[hv]at aH;obtain⟨⟨c,ah,ad⟩,ab⟩:=h;refine⟨?_,G8 hw e3 bX ew bz aH.2 hb ab⟩;rcases hw.cell (a:=⟨b,off,none⟩) (a':=⟨a6,off,none⟩) ⟨hb,rfl,rfl⟩with⟨k,_⟩|⟨x,bk,k1,k2,bP⟩
  ·grind
  ·rw[ah]at k1;cases k1;have a:=OH hw e3 bX ew q aH.1 ad bP;grind [M4]
end
end
end
section
open Go Go.Conc
open Go.ConcN (sumTo upd sumTo_upd upd_ne upd_same)
def hP(S:Nat->Prop):Loc->Prop:=λl=>∃a,l=.cell a/\S a.block
structure kM(S:Nat->Prop)(B:Nat)(t:Trace):Prop where
 rq:Past (hP S) B t
 quiet:Quiet (hP S) t
 perm:∀l,¬hP S l->Perm t 0 l
 pl:∀i a,touchAt t i=some a->¬hP S a.loc->a.kind≠.atomic
theorem kM.mono{S:Nat->Prop}{B B':Nat}{t:Trace}(h:kM S B t)(dH:B<=B'):kM S B' t:=⟨h.rq.mono dH,h.quiet,h.perm,h.pl⟩
theorem EF{gh:Loc->Prop}{t u:Trace}(h:∀i a,touchAt t i=some a->¬gh a.loc->a.kind≠.atomic)(hu:∀op∈u,∀a,op.act.touch?=some a->¬gh a.loc->a.kind≠.atomic):∀i a,touchAt (t++u) i=some a->¬gh a.loc->a.kind≠.atomic:=by
 intro i a au ak;obtain⟨x,aj,UM⟩:=touch_of au;rcases getElem?_append_cases aj with⟨_,hc⟩|⟨_,aiZ⟩
 ·exact h i a (by grind [touchAt_of]) ak
 grind
def Ends(P:Program)(Q:Machine->Outcome->World->Trace->Prop)(m:Machine)(t:Trace):Prop:=
 ∃n last o w bw,runNT P (n+1) m t=(.ended o w,bw)/\runN P n m=.next last/\step P last=.ended o w/\Q last o w bw
section
variable{P:Program}{Q:Machine->Outcome->World->Trace->Prop}{m m':Machine}{t ops:Trace}
theorem Ends.next(h:stepT P m=(.next m',ops))(k:Ends P Q m' (t++ops)):Ends P Q m t:=by
 obtain⟨n,last,o,w,bw,U,ab,al,aJ⟩:=k;exact⟨n+1,last,o,w,bw,by grind [runNT_succ_next],by grind [runN_succ_next],al,aJ⟩
theorem Ends.last{o:Outcome}{w:World}(h:stepT P m=(.ended o w,ops))(k:Q m o w (t++ops)):Ends P Q m t:=
 ⟨0,m,o,w,t++ops,by simp[runNT,h],rfl,by simp[step,h],k⟩
end
section
variable{σ:bA}{ro S:Nat->Prop}{B:Nat}{e:Event}
theorem ad5(h:ja σ ro e)(ao:∀b,S b->∀a,¬σ a b)(hb:∀a b,σ a b->b<B):EvL (hP S) B e:=by
 cases h with
 |@rd a b h=>
  refine⟨λx aj ⟨a',aK,aO⟩=>?_,by simp,by simp,hb _ _ h⟩;grind [ofEvent_cell0,MemAct.touch?]
 |@wr a b h _=>
  refine⟨λx aj ⟨a',aK,aO⟩=>?_,by simp,by simp,hb _ _ h⟩;grind [ofEvent_cell0,MemAct.touch?]
 |@get r b h=>
  refine⟨λx aj ⟨a',aK,aO⟩=>?_,by simp,by simp,hb _ _ h⟩;grind [MemAct.ofEvent,MemAct.touch?]
 |@set r b h _=>
  refine⟨λx aj ⟨a',aK,aO⟩=>?_,by simp,by simp,hb _ _ h⟩;grind [MemAct.ofEvent,MemAct.touch?]
 |ext=>exact⟨λx aj=>by trivial,by simp,by simp,trivial⟩
 |room=>exact⟨λx aj=>by trivial,by simp,by simp,trivial⟩
theorem quiet_of(h:ja σ ro e)(ao:∀b,S b->∀a,¬σ a b){x:Touch}(aj:(MemAct.ofEvent e).touch?=some x):¬hP S x.loc:=by
 rintro⟨a',aK,aO⟩;cases h with
 |@rd a b h=>grind [ofEvent_cell0,MemAct.touch?]
 |@wr a b h _=>grind [ofEvent_cell0,MemAct.touch?]
 |@get r b h=>grind [MemAct.ofEvent,MemAct.touch?]
 |@set r b h _=>grind [MemAct.ofEvent,MemAct.touch?]
 |ext=>trivial
 |room=>trivial
theorem aa4(h:ja σ ro e){x:Touch}(aj:(MemAct.ofEvent e).touch?=some x):x.kind=.plain:=by
 cases h with
 |rd h=>grind [ofEvent_cell0,MemAct.touch?]
 |wr h _=>grind [ofEvent_cell0,MemAct.touch?]
 |get h=>grind [MemAct.ofEvent,MemAct.touch?]
 |set h _=>grind [MemAct.ofEvent,MemAct.touch?]
 |ext=>trivial
 |room=>trivial
theorem kM.own{t:Trace}(h:kM S B t){fn:FuncId}{pos:String}{es:Array Event}(he:∀e∈es,ja σ ro e)(ao:∀b,S b->∀a,¬σ a b)(hb:∀a b,σ a b->b<B):kM S B (t++MemOp.ofEvents 0 fn pos es):=by
 refine⟨h.rq.own λe aj=>ad5 (he e aj) ao hb,h.quiet.app λop aE x aj nk=>?_,λl ak=>(h.perm l ak).app λop aE b _ _=>?_,EF h.pl λop aE a au _=>?_⟩;all_goals grind [Go.Conc.mem_ofEvents,quiet_of,aa4]
theorem kM.mute{t:Trace}(h:kM S B t){g:Nat}(aN:g≠0){fn:FuncId}{pos:String}{es:Array Event}(hm:∀e∈es,e.mute=true):kM S B (t++MemOp.ofEvents g fn pos es):=by
 have aI:∀op∈MemOp.ofEvents g fn pos es,op.act.touch?=none:=λop aE=>by grind [Go.Conc.mem_ofEvents,touch_mute]
 exact⟨h.rq.mute aN hm,h.quiet.app λop aE x aj _=>(by grind),λl ak=>(h.perm l ak).app λop aE b hb _=>(by grind),EF h.pl λop aE a au _=>(by grind)⟩
end
section
variable{P:Program}{S:Nat->Prop}{B:Nat}
theorem Ka{gs:Array Goroutine}{a:Goroutine}{w:World}{sl:Option (Nat×Nat)}{t:Trace}{q:Nat->Nat}(aT:gs[0]?=some a)(aB:a.status=.running)(dg:Leavers P t gs q)(ub:kM S B t):
  (∃d fT,stepT P (crowd gs w sl)=runT P (crowd gs (w.at d) fT) 0) \/
  ∃ed d fT ops dF,stepT P (crowd gs w sl)=(.next (crowd ed (w.at d) fT),ops)/\ed.size=gs.size/\ed[0]?=some a/\Leavers P (t++ops) ed dF/\(∀op∈ops,op.g<gs.size)/\kM S B (t++ops)/\sumTo gs.size dF<sumTo gs.size q:=by
 have K3:∀g∈gs,awake g:=by
  intro g aN;obtain⟨i,aX,rfl⟩:=Array.mem_iff_getElem.1 aN;rcases Nat.eq_zero_or_pos i with rfl|eb
  ·have:gs[0]=a:=by simpa[Array.getElem?_eq_getElem aX]using aT
   rw[this];exact awake_of (.inl aB)
  ·exact awake_of ((dg.old i _ eb (Array.getElem?_eq_getElem aX)).status.elim .inl λx=>.inr (.inr x))
 obtain⟨i,g,d,fT,aX,aN,bh⟩:=crowd_pick (P:=P) (w:=w) (sl:=sl) K3 ⟨0,a,aT,aB⟩;rcases Nat.eq_zero_or_pos i with rfl|eb
 ·exact .inl ⟨d,fT,bh⟩
 ·refine .inr ?_;have aH:=dg.old i g eb aX;have jX:(i==0)=false:=by simp;omega
  have aU:i<gs.size:=(Array.getElem?_eq_some_iff.1 aX).1;cases Lx:q i with
  |zero=>rw[Lx]at aH;rw[aH.1]at aN;cases aN
  |succ k=>
   rw[Lx]at aH;rcases aH with⟨aQ,_⟩|⟨_,g',es,hm,Tl,iX⟩
   ·rw[aQ]at aN;cases aN
   have sS:=runT_crowd_go (P:=P) (sl:=fT) (i:=i) aX (by rw[jX];exact Tl (w.at d));have Fl:sumTo gs.size (upd q i k)+(k+1)=sumTo gs.size q+k:=by
    have:=sumTo_upd q k id aU;simpa[Lx]using this
   refine⟨_,d,fT,_,upd q i k,bh.trans sS,by simp,?_,⟨λj x aC aj=>?_,λj aC=>?_⟩,λop aE=>by obtain⟨e,_,rfl⟩:=Go.Conc.mem_ofEvents aE;exact aU,ub.mute (by omega) hm,by omega⟩
   ·have bU:i≠0:=by omega
    rw[Array.getElem?_setIfInBounds_ne bU,Array.getElem?_map,aT];simp[woken_run aB]
   ·by_cases kT:i=j
    ·subst kT;rw[Array.getElem?_setIfInBounds_self_of_lt (by simpa using aU)]at aj;obtain rfl:=Option.some.inj aj;rw[upd_same,Deaf_own];exact iX
    ·rw[Array.getElem?_setIfInBounds_ne kT,Array.getElem?_map]at aj;obtain⟨y,aF,rfl⟩:=Option.map_eq_some_iff.1 aj;have UN:=dg.old j y aC aF;rw[woken_quitsD UN,upd_ne q k (Ne.symm kT),Deaf_other t kT _ (λop aE=>by obtain⟨e,_,rfl⟩:=Go.Conc.mem_ofEvents aE;rfl)];exact UN
   ·rw[Deaf_other t (g':=i) (by simp at aC;omega) _ (λop aE=>by obtain⟨e,_,rfl⟩:=Go.Conc.mem_ofEvents aE;rfl)];exact dg.above j (by simpa using aC)
theorem Leavers.step0{gs:Array Goroutine}{a a':Goroutine}{w':World}{t:Trace}{q:Nat->Nat}(dg:Leavers P t gs q)(aT:gs[0]?=some a){fn:FuncId}{pos:String}{es:Array Event}:Leavers P (t++MemOp.ofEvents 0 fn pos es) ((gs.map (woken P a a' w')).setIfInBounds 0 a') q:=by
 refine⟨λj x aC aj=>?_,λj aC=>?_⟩
 ·have bU:0≠j:=by omega
  rw[Array.getElem?_setIfInBounds_ne bU,Array.getElem?_map]at aj;obtain⟨y,aF,rfl⟩:=Option.map_eq_some_iff.1 aj;have aH:=dg.old j y aC aF;rw[woken_quitsD aH,Deaf_other t (by omega) _ (λop aE=>by grind [Go.Conc.mem_ofEvents])];exact aH
 ·rw[Deaf_other t (g':=0) (by grind) _ (λop aE=>by grind [Go.Conc.mem_ofEvents])];exact dg.above j (by grind)
end
end
section
open Go Go.Conc
open Go.ConcN (sumTo upd sumTo_upd upd_ne upd_same)
def dv:Frame:={ fn:=0,tmps:=#[undef],todo:=[.inRegion #[{ dst:=some 0,op:=.assign (.const (.bool true)),type:=0,pos := "",after:=#[],guard:=none }] [0],.code (.refuse "")],defers:=[],mode:=.run,kind:=.normal }
def mM(R:Value->World->Prop):Frame->List Frame->World->Prop:=λfr cs w=>cs=[]/\∃v,fr=dv.finish v/\R v w
theorem QW(v:Value):dv.finish v={ dv with tmps:=#[v],todo:=[.inRegion #[{ dst:=some 0,op:=.assign (.const (.bool true)),type:=0,pos := "",after:=#[],guard:=none }] [],.code (.refuse "")] }:=rfl
section
variable[cQ]{P:Program}{R:Value->World->Prop}
theorem IB{T:Frame->List Frame->World->Prop}{fr:Frame}{cs:List Frame}{w:World}(h:Way P T fr cs w):
  (∀τ d,T fr cs (a8 w τ d)) \/
  (∃(hz:Tape->Nat->Frame)(cs':Tape->Nat->List Frame)(w':Tape->Nat->World)(es:Tape->Nat->Array Event),qT P fr/\(∀τ d,stepG P true (G fr cs) (a8 w τ d)=.go (G (hz τ d) (cs' τ d)) (w' τ d) (es τ d))/\(∀τ d,calm (hz τ d))/\∀τ d,Way P T (hz τ d) (cs' τ d) (w' τ d)) \/
  ∃(c:Frame)(gD:List Frame),cs=c::gD/\((∃f args nE,∀τ d,cQ.spec f args (a8 w τ d) nE)\/∃f L,cQ.libs f L):=by
 cases h with
 |done h=>exact .inl h
 |step a b c d U ab al aJ=>exact .inr (.inl ⟨a,b,c,d,U,ab,al,aJ⟩)
 |spec U ab al=>exact .inr (.inr ⟨_,_,rfl,.inl ⟨_,_,_,ab⟩⟩)
 |lu h _ _ _ _ _=>exact .inr (.inr ⟨_,_,rfl,.inr ⟨_,_,h⟩⟩)
theorem IC{v:Value}{w:World}(h:Way P (mM R) (dv.finish v) [] w):∃τ d,R v (a8 w τ d):=by
 rcases IB h with h|⟨hz,cs',w',es,he,h,hm,k⟩|⟨_,_,e,_⟩
 ·obtain⟨_,bg,e,ad⟩:=h w.tape 0;rw[QW,QW]at e;have:v=bg:=by
   have:=congrArg Frame.tmps e;simpa using this
  exact⟨_,_,this▸ad⟩
 ·exfalso;have U:=h w.tape 0;rw[QW]at U;simp only[G,stepG,stepG.exec,dv]at U;injection U with aK aO bS;injection aK with b8 en;have k1:=k w.tape 0;rw[←b8,←en]at k1;rcases IB k1 with h|⟨ams,nm,w2,es2,amt,ab,kU,k2⟩|⟨_,_,e,_⟩
  ·obtain⟨_,bg,e,_⟩:=h w.tape 0;have:=congrArg (λf:Frame=>f.todo.length) e;simp[QW]at this
  ·have al:=ab w.tape 0;simp only[G,stepG,stepG.exec]at al;cases al
  ·cases e
 ·cases e
end
structure e7(W0 W:World):Prop where
 size:W0.heap.size<=W.heap.size
 os:W.os=W0.os
 out:W.output=W0.output
 blk:∀b,b<W0.heap.size->W.heap[b]?=W0.heap[b]?
theorem e7.refl(W:World):e7 W W:=⟨Nat.le_refl _,rfl,rfl,λ_ _=>rfl⟩
theorem e7.trans{W0 bF iA:World}(h:e7 W0 bF)(k:e7 bF iA):e7 W0 iA:=⟨Nat.le_trans h.size k.size,k.os.trans h.os,k.out.trans h.out,λb hb=>(k.blk b (Nat.lt_of_lt_of_le hb h.size)).trans (h.blk b hb)⟩
section
variable{p p':Program}{F:FuncId->Bool}{fn0:FuncId}{ro:Nat->Prop}{W0:World}{Post:Value->World->Prop}
structure oP(p p':Program)(F:FuncId->Bool)(ro:Nat->Prop)(W0:World)(S:Nat->Prop)(ρ:bA)(V W:World)(g0:Goroutine)(gs:Array Goroutine)(t:Trace)(q:Nat->Nat):Prop where
 g0:gs[0]?=some g0
 ey:Leavers p' t gs q
 pa:kM S W.heap.size t
 k4:∀op∈t,op.g<gs.size
 ma:∀b,S b->∀a,¬ρ a b
 shl:∀b,S b->b<W.heap.size
 wr:dN (bH p F) ρ ro V W
 og:∀b,W.heap.size<=b->¬ro b
 old:∀a b,ρ a b->b<W0.heap.size->ro b
 db:e7 W0 W
def IG[cQ](p p':Program)(F:FuncId->Bool)(ro:Nat->Prop)(W0:World)(Q:Machine->Outcome->World->Trace->Prop):Prop:=
 ∀(f:FuncId)(a a':Array Value)(u':Frame)(us':List Frame)(S:Nat->Prop)(ρ:bA)(V W:World)(gs:Array Goroutine)(sl:Option (Nat×Nat))(t:Trace)(q:Nat->Nat)(nE:Value->World->Prop),
  nO p f->a.size=arity p f->(∀τ d,cQ.spec f a (a8 V τ d) nE)->cv (bH p F) ρ a a'->calm u' ->
  oP p p' F ro W0 S ρ V W (G (Frame.enter p' f a' .normal) (u'::us')) gs t q ->
  (∀(σ:bA)(v bg:Value)(k3 bF:World)(ba:Nat->Prop)(hQ:Array Goroutine)(lr:Option (Nat×Nat))(t1:Trace)(cy:Nat->Nat),nE v k3->cN ρ σ->aZ (bH p F) σ v bg->oP p p' F ro W0 ba σ k3 bF (G (u'.finish bg) us') hQ t1 cy->Ends p' Q (crowd hQ bF lr) t1) ->
  Ends p' Q (crowd gs W sl) t
theorem oP.at{S:Nat->Prop}{ρ:bA}{V W:World}{g0:Goroutine}{gs:Array Goroutine}{t:Trace}{q:Nat->Nat}(h:oP p p' F ro W0 S ρ V W g0 gs t q)(d:Nat):oP p p' F ro W0 S ρ V (W.at d) g0 gs t q:=
 ⟨h.g0,h.ey,h.pa,h.k4,h.ma,h.shl,h.wr.B0 _ d,h.og,h.old,⟨h.db.size,h.db.os,h.db.out,h.db.blk⟩⟩
theorem Ri[cQ]{Y:List Deferred×FuncId×Bool}{dV:List Frame}{ρ:bA}{f bj:Frame}{cs cs':List Frame}(h:CK p p' F Y dv dV ρ (f,cs) (bj,cs'))(he:qT p f):h5 p F p' (bH p F) ρ Y dv dV (f::cs) (bj::cs'):=by
 rcases h with h|⟨g,a,a',us,us',aK,aO,ao,aN,au,bh⟩
 ·exact h
 ·injection aK with bS b8;exact absurd ao (he g a bS)
theorem RX(dH:pk p p' F){o:Op}(h:mx p F o=true):Ty p o=false:=by
 unfold mx at h;rw[Bool.or_eq_true]at h;rcases h with h|h
 ·unfold E3 at h;split at h
  ·rename_i f args fl;simp only[Bool.and_eq_true,beq_iff_eq]at h;obtain⟨fn,c,aK,aO,_⟩:=Hj h.1.2;show yT p f=false;unfold yT;rw[aK];simp[aO]
  ·cases h
 rw[Bool.and_eq_true]at h;obtain⟨U,ab⟩:=h;have key:∀f,F f=true->yT p f=false:=λf aQ=>by
  unfold yT;obtain⟨fn,_,c,aK,_,aO,_⟩:=dH.fns f aQ;rw[aK];simp[aO]
 cases o with
 |call c=>
  obtain⟨ajy,args,fl⟩:=c;cases ajy with
  |value x=>
   have aj:ij F x=true:=by
    have fG:=Array.all_eq_true_iff_forall_mem.1 U;exact fG x (by simp[Op.operands,Call.operands])
   cases x with
   |func f=>exact key f aj
   |const v=>
    cases v with
    |func fn a b=>
     cases fn with
     |func f=>
      obtain⟨a⟩:=a;obtain⟨b⟩:=b;simp only[ij,w0,Bool.and_eq_true]at aj;exact key f aj.1.1
     |_=>rfl
    |_=>rfl
   |_=>rfl
  |_=>rfl
 |_=>first|rfl|cases ab
theorem qP(dH:pk p p' F):∀{c:Code},codeOk p F c=true->jU p c=false
 |.region _ ops _,h=>by
  simp only[codeOk,List.all_eq_true,Bool.and_eq_true]at h;simp only[jU,List.any_eq_false];intro o ar;simp[RX dH (h o ar).1]
 |.seq a b,h=>by
  simp only[codeOk,Bool.and_eq_true]at h;simp[jU,qP dH h.1,qP dH h.2]
 |.cond _ a b,h=>by
  simp only[codeOk,Bool.and_eq_true]at h;simp[jU,qP dH h.1.2,qP dH h.2]
 |.block _ c,h=>by
  simp only[codeOk]at h;simp[jU,qP dH h]
 |.loop c,h=>by
  simp only[codeOk]at h;simp[jU,qP dH h]
 |.scope c,h=>by
  simp only[codeOk]at h;simp[jU,qP dH h]
 |.rangeFunc _ _ a b,h=>by
  simp only[codeOk,Bool.and_eq_true]at h;simp[jU,qP dH h.1.2,qP dH h.2]
 |.skip,_=>rfl
 |.label _,_=>rfl
 |.exit _,_=>rfl
 |.goto _,_=>rfl
 |.ret,_=>rfl
 |.refuse _,_=>rfl
theorem V4(dH:pk p p' F){g:FuncId}{a:Array Value}(ao:nO p g){X:Option (List Deferred×FuncId×Bool)}{ρ:bA}{bj:Frame}(h:hh p F p' (bH p F) ρ X (Frame.enter p g a .normal) bj):False:=by
 obtain⟨fn,c,U,ab,al⟩:=ao;have a1:=h.todo;have e:(Frame.enter p g a .normal).todo=[.code c]:=by simp[Frame.enter,U,ab]
 rw[e]at a1;generalize bj.todo=t at a1;cases a1 with
 |cons aX _=>
  cases aX with
  |code ah=>rw[qP dH ah]at al;cases al
  |reg ah _ _=>
   simp only[jU,List.any_eq_true]at al;obtain⟨o,ar,hb⟩:=al;rw[RX dH (List.all_eq_true.1 ah o ar)]at hb;cases hb
theorem aa5{f bj:Frame}(h:Gj f.mode bj.mode):calm bj:=by
 unfold calm;generalize f.mode=m at h;generalize bj.mode=m' at h;cases h
 ·exact .inl rfl
 ·exact .inr rfl
end
end
section
open Go Go.Conc
open Go.ConcN (sumTo upd sumTo_upd upd_ne upd_same)
section
variable(p:Program)(F:FuncId->Bool)(L:List FuncId)
def IM:Op->Bool
 |.call ⟨.value (.func f),_,_⟩=>L.contains f
 |.call ⟨.builtin b,_,_⟩=>match b with
  |.len | .cap | .clear | .min | .max=>true
  |_=>false
 |.call _ | .go _ | .defer _ | .send .. | .recv .. | .select ..=>false
 |_=>true
def Ii:Code->Bool
 |.region _ ops _=>ops.toList.all λo=>IM L o.op
 |.seq a b | .cond _ a b=>Ii a&&Ii b
 |.block _ c | .loop c | .scope c=>Ii c
 |.skip | .ret | .exit _ | .label _=>true
 |_=>false
def uH:Item->Bool
 |.code c | .inLoop c | .inScope c=>Ii L c&&codeOk p F c
 |.inBlock _=>true
 |.inRegion ops _=>ops.toList.all λo=>IM L o.op&&mx p F o.op
 |_=>false
structure Cf(fr:Frame):Prop where
 items:∀x∈fr.todo,uH p F L x=true
 mode:calm fr
 defers:fr.defers=[]
 kind:fr.kind=.normal
 round:fr.roundOf=none
 fn:fr.fn∈L
structure IL(fn0 f:FuncId):Prop where
 mem:f∈L
 ne:fn0∉L
 fns:∀g∈L,∃fn c,p.funcs[g]?=some fn/\fn.body=some c/\(fn.name == "runtime.NumGoroutine")=false/\Ii L c=true/\codeOk p F c=true
inductive GH where
 |stay (fr:Frame)
 |call (f:FuncId) (a:Array Value)
 |ret (v:Value)
 |Kp (g:List Frame->Sem (Frame×List Frame))
def GH.fin(fr:Frame)(cs:List Frame):GH->Sem (Frame×List Frame)
 |.stay f=>pure (f,cs)
 |.call f a=>pure (Frame.enter p f a .normal,fr::cs)
 |.ret v=>u5 v cs
 |.Kp g=>g cs
def GH.ok(fr:Frame):GH->Prop
 |.stay f=>Cf p F L f/\fr.mode=.run
 |.call f _=>f∈L/\fr.mode=.run
 |.ret _=>fr.mode=.returning
 |.Kp _=>False
end
section
variable{p p':Program}{F:FuncId->Bool}{L:List FuncId}{fn0 f0:FuncId}{fr:Frame}
theorem Y2{α β γ:Type}(s:Sem α)(f:α->Sem β)(g:β->Sem γ):(s >>= f) >>= g=s >>= λa=>f a >>= g:=by simp_all
theorem aaJ{s:Sem Value}{W W':World}{n:Next}(h:(s >>= λv=>(pure (.value v):Sem Next)).run p W=.ok n W'):∃v,n=.value v:=by
 rw[Sem.run_bind]at h;cases ao:s.run p W with
 |ok v w=>rw[ao]at h;injection h with h _;grind
 |halt x w=>simp_all
theorem am0{s:Sem Unit}{W W':World}{n:Next}(h:(s >>= λ_=>(pure .skip:Sem Next)).run p W=.ok n W'):n=.skip:=by
 cases ao:s.run p W with
 |ok v w=>simp_all
 |halt x w=>simp_all
theorem af7(dg:IL p F L fn0 f0){o:Oper}(ar:IM L o.op=true){W W':World}{n:Next}(h:(execOp fr.eval o).run p W=.ok n W'):(∃v,n=.value v)\/n=.skip\/∃f a,n=.enter f a/\f∈L:=by
 unfold execOp at h;generalize aE:o.op=op at h ar;cases op with
 |call c=>
  obtain⟨ajy,args,fl⟩:=c;cases ajy with
  |builtin b=>cases b<;>simp only[IM,Bool.false_eq_true]at ar<;>exact .inl (aaJ h)
  |invoke x y=>simp[IM]at ar
  |value x=>
   cases x with
   |func f=>
    simp only[IM,List.contains_iff_mem]at ar;obtain⟨fn,c,U,ab,al,_⟩:=dg.fns f ar;have e:(do let d ←resolve fr.eval ⟨.value (.func f),args,fl⟩ o.type;invoke d.target d.args:Sem Next).run p W=.ok (.enter f (#[]++args.map fr.eval++#[])) W:=by
     show(callFunc f (#[]++args.map fr.eval++#[])).run p W=_;simp only[callFunc,bind,Sem.bind,program,Sem.run,U,al,ab,Option.isNone_some,Bool.false_eq_true,if_false];rfl
    have bc:(do let d ←resolve fr.eval ⟨.value (.func f),args,fl⟩ o.type;invoke d.target d.args:Sem Next).run p W=.ok n W':=h;rw[e]at bc;injection bc with bc _;exact .inr (.inr ⟨f,_,bc.symm,ar⟩)
   |_=>simp[IM]at ar
 |move x=>injection h with h _;exact .inl ⟨_,h.symm⟩
 |assign x=>injection h with h _;exact .inl ⟨_,h.symm⟩
 |pick c a b=>
  dsimp only at h;rw[Sem.run_bind]at h;cases ao:(asBool (fr.eval c)).run p W with
  |ok v w=>rw[ao]at h;injection h with h _;exact .inl ⟨_,h.symm⟩
  |halt x w=>rw[ao]at h;cases h
 |go _=>cases ar
 |defer _=>cases ar
 |send=>cases ar
 |recv=>cases ar
 |select=>cases ar
 |nilCheck x=>
  have hu:∀{α:Type}{u:Unsupported}{k:Unit->Sem α}{a:α}{w w':World},((unsupported u:Sem Unit) >>= k).run p w≠.ok a w':=λ{α u k a w w'} h=>by cases h
  dsimp only at h;split at h
  ·cases h
  ·cases h
  ·cases h
  ·split at h
   ·cases h
   ·rw[Sem.run_bind]at h;generalize ao:Sem.run p program W=r at h;cases r with
    |halt y w=>cases h
    |ok apT w=>
     dsimp only[Result.andThen]at h;rw[Sem.run_bind]at h;generalize Lq:Sem.run p (nilAhead _ _ _ _) w=r2 at h;cases r2 with
     |halt y w=>cases h
     |ok b w=>
      dsimp only[Result.andThen]at h;split at h
      ·exact absurd h hu
      ·injection h with h _;exact .inl ⟨_,h.symm⟩
   ·injection h with h _;exact .inl ⟨_,h.symm⟩
  ·injection h with h _;exact .inl ⟨_,h.symm⟩
 |_=>first|exact .inl (aaJ h)|exact .inr (.inl (am0 h))
theorem af8(aQ:Cf p F L fr){k:List Item}(aq:∀x∈k,uH p F L x=true):Cf p F L { fr with todo:=k }:=⟨aq,aQ.mode,aQ.defers,aQ.kind,aQ.round,aQ.fn⟩
theorem WT(aQ:Cf p F L fr)(v:Value):Cf p F L (fr.finish v):=by
 have aX:=aQ.items;unfold Frame.finish;split
 ·rename_i ops i rest k e;rw[e]at aX;refine⟨λx aj=>?_,aQ.mode,aQ.defers,aQ.kind,aQ.round,aQ.fn⟩;rcases List.mem_cons.1 aj with rfl|aj
  ·exact aX (.inRegion ops (i::rest)) (by simp)
  grind
 ·rename_i l k e;have:=aX (.inRangeFunc l) (by rw[e];simp);cases this
 ·rename_i k e;have:=aX .beginRound (by rw[e];simp);cases this
 ·rename_i a b c d k e;have:=aX (.call a b c d) (by rw[e];simp);cases this
 ·rename_i k e;have:=aX (.extern _ _) (by rw[e];simp;exact .inl ⟨rfl,rfl⟩);cases this
 ·exact aQ
theorem Y3(dg:IL p F L fn0 f0){g:FuncId}(aN:g∈L)(a:Array Value):Cf p F L (Frame.enter p g a .normal):=by
 obtain⟨fn,c,U,ab,_,aJ,bm⟩:=dg.fns g aN;have e:(Frame.enter p g a .normal).todo=[.code c]:=by grind [Frame.enter]
 refine⟨λx aj=>?_,.inl rfl,rfl,rfl,rfl,aN⟩;grind [uH]
theorem XI{id:Nat}:∀{k bB:List Item},exitTo id k=some bB->∀x∈bB,x∈k
 |[],_,h=>by cases h
 |y::k,bB,h=>by
  have key:exitTo id k=some bB->∀x∈bB,x∈y::k:=λh x aj=>List.mem_cons_of_mem _ (XI h x aj);cases y with
  |inBlock i=>grind [exitTo]
  |_=>exact key h
theorem am2(dg:IL p F L fn0 f0)(aQ:Cf p F L fr):∃s:Sem GH,(∀cs,lD p fr cs=s >>= GH.fin p fr cs)/\∀W m W',s.run p W=.ok m W'->m.ok p F L fr:=by
 have Vi:∀(x:GH),x.ok p F L fr->∀W m W',(pure x:Sem GH).run p W=.ok m W'->m.ok p F L fr:=λx aj W m W' h=>by
  injection h with h _;rw[←h];exact aj
 have rt:Cf p F L { fr with mode:=.returning }:=⟨aQ.items,.inr rfl,aQ.defers,aQ.kind,aQ.round,aQ.fn⟩;have Cg:=λ{k} aq=>af8 aQ (k:=k) aq;have SJ:=WT aQ;have mE:=aQ.round;have iY:=aQ.defers;have aX:=aQ.items;rcases aQ.mode with hm|hm
 ·have st:∀{s:String} W m W',(stuck s:Sem GH).run p W=.ok m W'->m.ok p F L fr:=λW m W' h=>by cases h
  obtain⟨fn,tmps,todo,defers,mode,kind,round⟩:=fr;dsimp only at mE iY hm aX;subst mE iY hm;cases todo with
  |nil=>exact⟨pure (.stay _),λcs=>rfl,Vi _ ⟨rt,rfl⟩⟩
  |cons it k=>
   have aq:∀x∈k,uH p F L x=true:=λx aj=>aX x (by simp[aj]);have aT:=aX it (by simp);have amR:∀{a:Item}{k:List Item},uH p F L a=true->(∀x∈k,uH p F L x=true)->∀x∈a::k,uH p F L x=true:=λau aq x aj=>by
    rcases List.mem_cons.1 aj with rfl|aj
    ·exact au
    ·exact aq x aj
   cases it with
   |code c=>
    simp only[uH,Bool.and_eq_true]at aT;obtain⟨aT,U⟩:=aT;cases c with
    |skip=>exact⟨pure (.stay _),λcs=>rfl,Vi _ ⟨Cg aq,rfl⟩⟩
    |label l=>exact⟨pure (.stay _),λcs=>rfl,Vi _ ⟨Cg aq,rfl⟩⟩
    |seq a b=>
     simp only[Ii,codeOk,Bool.and_eq_true]at aT U;exact⟨pure (.stay _),λcs=>rfl,Vi _ ⟨Cg (amR (by simp[uH,aT.1,U.1]) (amR (by simp[uH,aT.2,U.2]) aq)),rfl⟩⟩
    |block i a=>exact⟨pure (.stay _),λcs=>rfl,Vi _ ⟨Cg (amR (by simp only[uH,Bool.and_eq_true];exact⟨aT,U⟩) (amR rfl aq)),rfl⟩⟩
    |loop a=>exact⟨pure (.stay _),λcs=>rfl,Vi _ ⟨Cg (amR (by simp only[uH,Bool.and_eq_true];exact⟨aT,U⟩) (amR (by simp only[uH,Bool.and_eq_true];exact⟨aT,U⟩) aq)),rfl⟩⟩
    |scope a=>exact⟨pure (.stay _),λcs=>rfl,Vi _ ⟨Cg (amR (by simp only[uH,Bool.and_eq_true];exact⟨aT,U⟩) (amR (by simp only[uH,Bool.and_eq_true];exact⟨aT,U⟩) aq)),rfl⟩⟩
    |cond x a b=>
     simp only[Ii,codeOk,Bool.and_eq_true]at aT U;cases aj:Frame.eval ⟨fn,tmps,.code (.cond x a b)::k,[],.run,kind,none⟩ x with
     |bool t=>
      refine⟨pure (.stay _),λcs=>?_,Vi _ ⟨Cg (amR (a:=.code (if t then a else b)) ?_ aq),rfl⟩⟩
      ·simp only[lD,xc,aj];rfl
      ·cases t<;>simp[uH,aT,U]
     |_=>exact⟨stuck "",λcs=>by simp only[lD,xc,aj];rfl,st⟩
    |ret=>exact⟨pure (.stay _),λcs=>rfl,Vi _ ⟨rt,rfl⟩⟩
    |exit i=>
     cases aj:exitTo i k with
     |some bB=>
      refine⟨pure (.stay _),λcs=>?_,Vi _ ⟨Cg (k:=bB) λx h=>aq x (XI aj x h),rfl⟩⟩;simp only[lD,xc,aj];rfl
     |none=>exact⟨stuck "",λcs=>by simp only[lD,xc,aj,lL,L5];rfl,st⟩
    |region i ops d=>
     have aE:uH p F L (.inRegion ops [])=true:=by
      simp only[uH,Ii,codeOk,List.all_eq_true,Bool.and_eq_true]at aT U⊢;exact λo ar=>⟨aT o ar,(U o ar).1⟩
     cases d with
     |false=>exact⟨pure (.stay _),λcs=>rfl,Vi _ ⟨Cg (amR aE aq),rfl⟩⟩
     |true=>
      refine⟨do let t ←choose (.order fn i);pure (.stay ⟨fn,tmps,.inRegion ops (Region.schedule (p.follows .mixedOrders) ops t)::k,[],.run,kind,none⟩),λcs=>rfl,λW m W' h=>?_⟩;rw[Sem.run_bind]at h;cases ao:(choose (.order fn i)).run p W with
      |ok v w=>rw[ao]at h;injection h with h _;rw[←h];exact⟨Cg (amR aE aq),rfl⟩
      |halt x w=>rw[ao]at h;cases h
    |_=>cases aT
   |inBlock i=>exact⟨pure (.stay _),λcs=>rfl,Vi _ ⟨Cg aq,rfl⟩⟩
   |inLoop a=>exact⟨pure (.stay _),λcs=>rfl,Vi _ ⟨Cg (amR aT (amR aT aq)),rfl⟩⟩
   |inScope a=>exact⟨pure (.stay _),λcs=>rfl,Vi _ ⟨Cg aq,rfl⟩⟩
   |inRegion ops todo=>
    cases todo with
    |nil=>exact⟨pure (.stay _),λcs=>rfl,Vi _ ⟨Cg aq,rfl⟩⟩
    |cons i rest=>
     cases ar:ops[i]? with
     |none=>exact⟨pure (.stay _),λcs=>by simp only[lD,xc,ar];rfl,Vi _ ⟨SJ _,rfl⟩⟩
     |some o=>
      by_cases hw:Region.wanted o (yielded ops tmps)=true
      ·refine⟨do let n ←execOp (Frame.eval ⟨fn,tmps,.inRegion ops (i::rest)::k,[],.run,kind,none⟩) o;pure (match n with
        |.value v=>.stay (Frame.finish ⟨fn,tmps,.inRegion ops (i::rest)::k,[],.run,kind,none⟩ v)
        |.skip=>.stay (Frame.finish ⟨fn,tmps,.inRegion ops (i::rest)::k,[],.run,kind,none⟩ undef)
        |.enter f a=>.call f a
        |n=>.Kp λcs=>uS p ⟨fn,tmps,.inRegion ops (i::rest)::k,[],.run,kind,none⟩ cs n),λcs=>?_,λW m W' h=>?_⟩
       ·rw[Y2];simp only[lD,xc,ar,hw,if_true];refine congrArg _ (funext λn=>?_);cases n<;>rfl
       ·rw[Sem.run_bind]at h;have FJ:IM L o.op=true:=by
         simp only[uH,List.all_eq_true,Bool.and_eq_true]at aT;exact(aT o (Array.mem_toList_iff.2 (Array.mem_of_getElem? ar))).1
        cases ao:(execOp (Frame.eval ⟨fn,tmps,.inRegion ops (i::rest)::k,[],.run,kind,none⟩) o).run p W with
        |ok n w=>
         rw[ao]at h;injection h with h _;rw[←h];rcases af7 dg FJ ao with⟨v,rfl⟩|rfl|⟨f,a,rfl,aQ⟩
         ·exact⟨SJ v,rfl⟩
         ·exact⟨SJ _,rfl⟩
         ·exact⟨aQ,rfl⟩
        |halt x w=>rw[ao]at h;cases h
      ·exact⟨pure (.stay _),λcs=>by simp only[lD,xc,ar,if_neg hw];rfl,Vi _ ⟨SJ _,rfl⟩⟩
   |_=>cases aT
 ·obtain⟨fn,tmps,todo,defers,mode,kind,round⟩:=fr;dsimp only at mE iY hm;subst mE iY hm;cases dX:p.funcs[fn]? with
  |none=>exact⟨pure (.ret _),λcs=>by simp only[lD,dX];rfl,Vi _ rfl⟩
  |some g=>
   refine⟨do let v ←results g tmps;pure (.ret v),λcs=>?_,λW m W' h=>?_⟩
   ·rw[Y2];simp only[lD,dX];rfl
   ·rw[Sem.run_bind]at h;cases ao:(results g tmps).run p W with
    |ok v w=>rw[ao]at h;injection h with h _;rw[←h];rfl
    |halt x w=>rw[ao]at h;cases h
theorem Y6(dg:IL p F L fn0 f0)(aQ:Cf p F L fr){fs:List Frame}(Kj:∀g∈fs,Cf p F L g){m:GH}(hm:m.ok p F L fr)(ak:¬(fr.mode=.returning/\fs=[])):
  ∃f1 SI,Cf p F L f1/\(∀g∈SI,Cf p F L g)/\∀base w,(m.fin p fr (fs++base)).run p w=.ok (f1,SI++base) w:=by
 cases m with
 |stay f=>exact⟨f,fs,hm.1,Kj,λ_ _=>rfl⟩
 |call f a=>
  refine⟨_,fr::fs,Y3 dg hm.1 a,λg aN=>?_,λ_ _=>rfl⟩;rcases List.mem_cons.1 aN with rfl|aN
  ·exact aQ
  ·exact Kj g aN
 |ret v=>
  cases fs with
  |nil=>exact absurd ⟨hm,rfl⟩ ak
  |cons g fs=>exact⟨_,fs,WT (Kj g (by simp)) v,λx aj=>Kj x (by simp[aj]),λ_ _=>rfl⟩
 |Kp g=>exact hm.elim
end
end
end Go.Proofs.YtlminnpaeaganaaGreat
