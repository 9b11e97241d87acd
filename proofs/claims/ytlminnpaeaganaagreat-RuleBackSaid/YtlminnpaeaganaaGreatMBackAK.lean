/- Part of the proof of RuleBack. No condition. -/
import Derived.Conc.Beside
import Derived.Conc.CrowdTrace
import Derived.Test.YtlminnpaeaganaaGreatMBackAA
import Derived.Test.YtlminnpaeaganaaGreatMBackAJ
namespace Go.Proofs.YtlminnpaeaganaaGreat
set_option maxRecDepth 100000
set_option linter.all false
section
open Go Go.Conc
structure pk(p p':Program)(F:FuncId->Bool):Prop where
 fns:∀f,F f=true->∃fn cC c,p.funcs[f]?=some fn/\p'.funcs[f]?=some cC/\fn.body=some c/\cC.body=some c/\cC.ntmps=fn.ntmps/\cC.results=fn.results/\codeOk p F c=true
 UL:p'.follows .mixedOrders=p.follows .mixedOrders
def CK(p p':Program)(F:FuncId->Bool)(Y:List Deferred×FuncId×Bool)(cO:Frame)(dV:List Frame)(ρ:bA)(x y:Frame×List Frame):Prop:=
 h5 p F p' (bH p F) ρ Y cO dV (x.1::x.2) (y.1::y.2)\/aiX p F p' (bH p F) ρ Y cO dV (x.1::x.2) (y.1::y.2)
section
variable{p p':Program}{F:FuncId->Bool}{ρ σ:bA}{X:Option (List Deferred×FuncId×Bool)}{Y:List Deferred×FuncId×Bool}{cO:Frame}{dV:List Frame}{f bj:Frame}{bM oU cs cs':List Frame}
theorem px.refl{ops:Array Oper}(h:(ops.toList.all λo=>mx p F o.op)=true):px p F ops ops:=⟨λ_=>rfl,λ_ _ h _=>h,λ_ _=>rfl,rfl,h⟩
abbrev uf(p p':Program)(F:FuncId->Bool)(Y:List Deferred×FuncId×Bool)(cO:Frame)(dV:List Frame)(ρ:bA)(s s':Sem (Frame×List Frame)):Prop:=a5 (bH p F) p p' (CK p p' F Y cO dV) ρ s s'
theorem OG(h:pk p p' F){g:FuncId}(aN:F g=true){a a':Array Value}(au:cv (bH p F) ρ a a'):hh p F p' (bH p F) ρ none (Frame.enter p g a .normal) (Frame.enter p' g a' .normal):=by
 obtain⟨fn,cC,c,U,fG,ab,ha,aJ,bm,al⟩:=h.fns g aN
 ·have aK:∀a,Frame.enter p g a .normal=⟨g,a++Array.replicate (fn.ntmps-a.size) undef,[.code c],[],.run,.normal,none⟩:=λa=>by grind [Frame.enter]
  have aO:∀a,Frame.enter p' g a .normal=⟨g,a++Array.replicate (fn.ntmps-a.size) undef,[.code c],[],.run,.normal,none⟩:=λa=>by grind [Frame.enter]
  rw[aK,aO];refine⟨rfl,?_,.cons (.code al) .nil,⟨[],.nil,rfl⟩,.run,rfl,λ_=>rfl,.none,λe=>(by cases e),λ_ _=>by grind,λ_=>rfl,λ_ e=>(by cases e),by simp,λ_ e=>(by cases e)⟩;rw[au.1];exact bE.append au (bE.replicate _ (.tuple rfl (by simp)))
theorem I0(ae:PP (bH p F) p p')(dH:pk p p' F)(ok:b0 (bH p F).G ρ)(h:h5 p F p' (bH p F) ρ Y cO dV (f::cs) (bj::cs')){n eu:Next}(aI:sk (bH p F) ρ n eu):uf p p' F Y cO dV ρ (uS p f cs n) (uS p' bj cs' eu):=by
 obtain⟨X,aQ,n8⟩:=h.top;cases aI with
 |value ai=>exact .pure (.inl (n8 _ _ _ (cN.refl _) (aQ.finish ai)))
 |skip=>exact .pure (.inl (n8 _ _ _ (cN.refl _) (aQ.finish (.tuple rfl (by simp)))))
 |enter aN au=>exact .pure (.inl (.cons (OG dH aN au) h))
 |@RS g a a' ao au=>exact .pure (.inr ⟨g,a,a',_,_,rfl,rfl,Hj ao.1,ao.2,au,h⟩)
 |round ak au aj aF=>exact .pure (.inl (.cons ⟨rfl,au,.cons (.code aj) (.cons .begin (.cons (.code aF) .nil)),⟨[],.nil,rfl⟩,.run,rfl,λ_=>rfl,.some ak,λe=>(by cases e),λ_ e=>(by cases e),λe=>(by cases e),λ_ e=>(by cases e),by simp[Frame.round],λ_ e=>(by cases e)⟩ h))
theorem JY(ok:b0 (bH p F).G ρ){bM oU:List Frame}(h:h5 p F p' (bH p F) ρ Y cO dV bM oU){v a3:Value}(ai:aZ (bH p F) ρ v a3):uf p p' F Y cO dV ρ (u5 v bM) (u5 a3 oU):=by
 obtain⟨f,bj,cs,cs',rfl,rfl,_⟩:=h.shape;obtain⟨X,aQ,n8⟩:=h.top;exact .pure (.inl (n8 _ _ _ (cN.refl _) (aQ.finish ai)))
theorem RV(j:Option Code)(h:L5 j=true\/(∃i,j=some (.exit i))\/∃i,j=some (.goto i)):∀c,j=some c->codeOk p F c=true:=by
 intro c e;subst e;rcases h with h|⟨i,h⟩|⟨i,h⟩
 ·cases c<;>first|rfl|cases h
 ·cases h;rfl
 ·cases h;rfl
theorem acT(ae:PP (bH p F) p p')(ok:b0 (bH p F).G ρ)(h:h5 p F p' (bH p F) ρ Y cO dV (f::cs) (bj::cs'))(j:Option Code)(aC:∀c,j=some c->codeOk p F c=true):uf p p' F Y cO dV ρ (lL f cs j) (lL bj cs' j):=by
 have key:∀X,hh p F p' (bH p F) ρ X f bj->(∀σ g g',cN ρ σ->hh p F p' (bH p F) σ X g g'->h5 p F p' (bH p F) σ Y cO dV (g::cs) (g'::cs'))->(X=none->h5 p F p' (bH p F) ρ Y cO dV cs cs')->uf p p' F Y cO dV ρ (lL f cs j) (lL bj cs' j):=by
  intro X aQ n8 hcs;obtain⟨fn,tmps,todo,defers,mode,kind,round⟩:=f;obtain⟨cC,rb,yY,yE,yZ,mZ,yR⟩:=bj;obtain⟨U,ab,al,aJ,bm,bI,cS,et,gp,h7,mF,nv,oV,nu⟩:=aQ;cases et with
  |none=>
   unfold lL;exact dc (λ_=>.pure (.inl (n8 _ _ _ (cN.refl _) ⟨U,ab,al,aJ,.ret,bI,cS,.none,gp,h7,λ_=>rfl,nv,oV,nu⟩))) λ_=>bp
  |some ak=>
   unfold lL;cases X with
   |some x=>grind
   |none=>exact a5.bind (X5 ae ok ak j aC) ok λσ v a3 hle ar ai=>JY ar ((hcs rfl).mono hle) ai
 cases h with
 |bot h=>exact key _ h (λ_ _ _ _ aN=>.bot aN) λe=>by cases e
 |cons h k=>exact key _ h (λ_ _ _ ak aN=>.cons aN (k.mono ak)) λ_=>k
def wF(f:Frame):Prop:=∀ops i rest k o,f.todo=.inRegion ops (i::rest)::k->ops[i]?=some o->q1 o=false
theorem noMark(h:hh p F p' (bH p F) ρ X f bj)(fz:¬rr X):wF f:=by
 intro ops i rest k o e ar;have a1:=h.todo;rw[e]at a1;generalize bj.todo=t at a1;cases a1 with
 |cons hi _=>
  cases hi with
  |inRegion _ _ hm=>grind
variable(ae:PP (bH p F) p p')(dH:pk p p' F)
include ae dH
theorem afp(ok:b0 (bH p F).G ρ)(h:h5 p F p' (bH p F) ρ Y cO dV (f::cs) (bj::cs'))(mD:wF f):uf p p' F Y cO dV ρ (xc p f cs) (xc p' bj cs'):=by
 obtain⟨X,aQ,n8⟩:=h.top;have to:∀σ t bw,cN ρ σ->df (je p F (rr X) (bH p F) σ) t bw->uf p p' F Y cO dV σ (pure ({ f with todo:=t },cs)) (pure ({ bj with todo:=bw },cs')):=λσ t bw ak a1=>.pure (.inl (n8 _ _ _ ak ((aQ.mono ak).yY a1)));have ay:=aQ.eval (λ_ h=>h);have ey:=λj aC=>acT ae ok h j aC;obtain⟨fn,tmps,todo,defers,mode,kind,round⟩:=f;obtain⟨cC,rb,yY,yE,yZ,mZ,yR⟩:=bj;have U:=aQ.fn;have ab:=aQ.tmps;have al:=aQ.todo;have aJ:=aQ.defers;have et:=aQ.round;dsimp only at U ab al aJ et;subst U;unfold xc;dsimp only;cases al with
 |nil=>grind
 |@cons _ _ xs ys hi aq=>
  cases hi with
  |reg ah kt gZ=>
   rename_i i ops ops' draw;dsimp only;cases draw with
   |false=>rw[kt.size];exact to _ _ _ (cN.refl _) (.cons (.inRegion ah kt gZ) aq)
   |true=>
    rw[if_pos rfl,if_pos rfl,dH.UL];exact yy λn=>by rw[kt.sched];exact to _ _ _ (cN.refl _) (.cons (.inRegion ah kt gZ) aq)
  |code ah=>
   rename_i c;cases c with
   |skip=>grind [cN.refl]
   |label l=>grind [cN.refl]
   |seq a b=>
    simp[codeOk]at ah;exact to _ _ _ (cN.refl _) (.cons (.code ah.1) (.cons (.code ah.2) aq))
   |block i a=>exact to _ _ _ (cN.refl _) (.cons (.code ah) (.cons .inBlock aq))
   |loop a=>exact to _ _ _ (cN.refl _) (.cons (.code ah) (.cons (.inLoop ah) aq))
   |scope a=>exact to _ _ _ (cN.refl _) (.cons (.code ah) (.cons (.inScope ah) aq))
   |cond x a b=>
    simp[codeOk]at ah;have aj:=ay x ah.1.1;dsimp only;revert aj;generalize Frame.eval _ x=v;generalize Frame.eval _ x=a3;intro aj;cases aj with
    |@bool t=>exact to _ _ _ (cN.refl _) (.cons (.code (by grind)) aq)
    |_=>exact bp
   |ret=>grind
   |exit i=>
    dsimp only;have aj:=X3 i aq;revert aj;generalize exitTo i _=x;generalize exitTo i _=bk;intro aj;cases aj with
    |none=>exact ey _ (RV _ (.inr (.inl ⟨i,rfl⟩)))
    |some gx=>exact to _ _ _ (cN.refl _) gx
   |goto i=>
    dsimp only;have aj:=X4 i aq;revert aj;generalize gotoIn i _=x;generalize gotoIn i _=bk;intro aj;cases aj with
    |none=>exact ey _ (RV _ (.inr (.inr ⟨i,rfl⟩)))
    |some gx=>exact to _ _ _ (cN.refl _) gx
   |refuse y=>cases ah
   |rangeFunc g ps a b=>
    simp[codeOk]at ah;refine a5.bind (W4 ok cC ab ps ah.1.2 ah.2 et) ok λσ x bk hle ar aj=>?_;obtain⟨l,mk⟩:=x;obtain⟨aG,mk'⟩:=bk;obtain⟨ds,gE,jY⟩:=aJ;have ly:hh p F p' (bH p F) σ X ⟨cC,tmps,.inRangeFunc l::xs,mk++defers,mode,kind,round⟩ ⟨cC,rb,.inRangeFunc aG::ys,mk'++yE,yZ,mZ,yR⟩:=by
     have hm:=aQ.mono hle;exact⟨rfl,hm.tmps,.cons (.wz aj.1) (aq.mono λ_ _ x=>x.mono hle),⟨mk'++ds,aj.2.append (gE.mono λ_ _ x=>x.mono hle),by rw[jY,List.append_assoc]⟩,hm.mode,hm.kind,hm.mZ,hm.round,hm.bot,hm.res,hm.cE,hm.nn,hm.tV,hm.cU⟩
    refine a5.bind (A:=λσ=>sk (bH p F) σ) ?_ ar λτ n eu BH cz aI=>I0 ae dH cz ((n8 _ _ _ hle ly).mono BH) aI;exact M3 ae (λ_ h=>h) (Nat.le_refl _) rfl ar (ly.eval (λ_ h=>h) g ah.1.1) (bE.one (.func (.yield aj.1) rfl (by simp) rfl (by simp)))
   |region i ops draw=>
    dsimp only;have hA:(ops.toList.all λo=>mx p F o.op)=true:=List.all_eq_true.2 λo ar=>by
     have:=List.all_eq_true.1 ah o ar;simp  at this;exact this.1
    have oT:(∃o∈ops,q1 o=true)->rr X:=λ⟨o,ar,hm⟩=>by
     have:=List.all_eq_true.1 ah o (Array.mem_toList_iff.2 ar);simp[hm]at this
    cases draw with
    |false=>exact to _ _ _ (cN.refl _) (.cons (.inRegion hA (px.refl hA) oT) aq)
    |true=>
     rw[if_pos rfl,if_pos rfl,dH.UL];exact yy λn=>to _ _ _ (cN.refl _) (.cons (.inRegion hA (px.refl hA) oT) aq)
  |inBlock=>exact to _ _ _ (cN.refl _) aq
  |inLoop ah=>exact to _ _ _ (cN.refl _) (.cons (.code ah) (.cons (.inLoop ah) aq))
  |inScope ah=>exact to _ _ _ (cN.refl _) aq
  |inRegion u6 kt gZ=>
   rename_i ops ops' todo;cases todo with
   |nil=>exact to _ _ _ (cN.refl _) aq
   |cons i rest=>
    dsimp only;have iJ:uf p p' F Y cO dV ρ (pure (Frame.finish ⟨cC,tmps,.inRegion ops (i::rest)::xs,defers,mode,kind,round⟩ undef,cs)) (pure (Frame.finish ⟨cC,rb,.inRegion ops' (i::rest)::ys,yE,yZ,mZ,yR⟩ undef,cs')):=.pure (.inl (n8 _ _ _ (cN.refl _) (aQ.finish (.tuple rfl (by simp)))));cases ar:ops[i]? with
    |none=>
     have eC:ops'[i]?=none:=by
      rw[Array.getElem?_eq_none_iff]at ar⊢;rw[kt.size];exact ar
     rw[eC];exact iJ
    |some o=>
     have eC:=kt.same i o ar (mD _ _ _ _ _ rfl ar);rw[eC];rw[W3 kt ab];refine dc (λ_=>?_) λ_=>iJ;refine a5.bind (A:=λσ=>sk (bH p F) σ) ?_ ok λσ n eu hle ar aI=>I0 ae dH ar (h.mono hle) aI;exact aa2 ae (λ_ h=>h) (Nat.le_refl _) rfl ok o (List.all_eq_true.1 u6 o (Array.mem_toList_iff.2 (Array.mem_of_getElem? ar))) ay (λ_=>⟨rfl,rfl⟩) λf aQ=>⟨aQ,rfl⟩
  |wz ak=>exact bp
  |uy ak=>
   exact a5.bind (Zw ae ok ak) ok λσ j j5 hle ar aC=>by
    rw[aC.1];refine to _ _ _ hle (df.append ?_ (aq.mono λ_ _ x=>x.mono hle));cases jB:j with
    |none=>exact .nil
    |some c=>exact .cons (.code (aC.2 c jB)) .nil
  |begin=>
   refine a5.bind (A:=λσ=>sk (bH p F) σ) ?_ ok λσ n eu hle ar aI=>I0 ae dH ar (h.mono hle) aI;cases et with
   |none=>exact jW
   |some ak=>exact cg (Wq ae ok ak) ok λ_ _ _ _=>.pure .skip
theorem agL(ok:b0 (bH p F).G ρ)(h:h5 p F p' (bH p F) ρ Y cO dV (f::cs) (bj::cs'))(il:f.mode=.returning->f.defers=[]->cs≠[cO])(mD:wF f):uf p p' F Y cO dV ρ (lD p f cs) (lD p' bj cs'):=by
 suffices key:∀X,hh p F p' (bH p F) ρ X f bj->(∀σ g g',cN ρ σ->hh p F p' (bH p F) σ X g g'->h5 p F p' (bH p F) σ Y cO dV (g::cs) (g'::cs'))->(f.mode=.returning->f.defers=[]->X=none/\h5 p F p' (bH p F) ρ Y cO dV cs cs')->uf p p' F Y cO dV ρ (lD p f cs) (lD p' bj cs')by
  cases h with
  |bot h=>exact key _ h (λ_ _ _ _ aN=>.bot aN) λU ab=>absurd rfl (il U ab)
  |cons h k=>exact key _ h (λ_ _ _ ak aN=>.cons aN (k.mono ak)) λ_ _=>⟨rfl,k⟩
 intro X aQ n8 fz;have aB:=afp ae dH ok h mD;have hm:=aQ.mode;cases jZ:f.mode with
 |run=>
  rw[jZ]at hm;have eX:bj.mode=.run:=by cases e:bj.mode<;>rw[e]at hm<;>first|rfl|cases hm
  grind [lD]
 |returning=>
  rw[jZ]at hm;have eX:bj.mode=.returning:=by cases e:bj.mode<;>rw[e]at hm<;>first|rfl|cases hm
  unfold lD;rw[jZ,eX];obtain⟨ds,gE,jY⟩:=aQ.defers;cases vD:f.defers with
  |nil=>
   rw[vD]at gE;cases gE;have fz:=fz jZ vD;have jv:bj.defers=[]:=by grind
   rw[jv,aQ.fn];have gO:=aQ.res fz.1 (aQ.cE jZ);cases U:p.funcs[f.fn]? with
   |none=>
    have ab:p'.funcs[f.fn]?=none:=by grind
    rw[ab];exact JY ok fz.2 (yq aQ.tmps 0)
   |some fn=>
    rw[U]at gO;obtain⟨cC,ab,al⟩:=Option.map_eq_some_iff.1 gO;rw[ab];exact a5.bind (HC ae ok fn cC al aQ.tmps) ok λσ v a3 ak ar ai=>JY ar (fz.2.mono ak) ai
  |cons d amn=>
   rw[vD]at gE;cases gE with
   |cons aV xw=>
    rename_i dq zS;rw[jY];obtain⟨t,a⟩:=d;obtain⟨bw,a'⟩:=dq;have a1:=aV.t;cases a1 with
    |collected ad=>
     refine a5.bind (VI ae ok ad) ok λσ x bk ak ar aj=>.pure (.inl (n8 _ _ _ ak ?_));have kU:=aQ.mono ak;exact⟨kU.fn,kU.tmps,kU.todo,⟨bk++zS,aj.append (xw.mono λ_ _ x=>x.mono ak),by simp_all⟩,.ret,kU.kind,kU.mZ,kU.round,kU.bot,kU.res,λ_=>aQ.cE jZ,kU.nn,kU.tV,kU.cU⟩
 |panicking c=>rw[jZ]at hm;cases hm
omit ae dH in
theorem PK{iF:Prop}{x y:Item}(h:je p F iF (bH p F) ρ x y):BJ p F x/\BJ p F y:=by
 cases h with
 |code h=>exact⟨λy e=>(by rw[e]at h;cases h),λy e=>(by rw[e]at h;cases h)⟩
 |reg h k _=>exact⟨λy e=>(by cases e),λy e=>(by cases e)⟩
 |inRegion h k _=>exact⟨h,k.ok⟩
 |_=>trivial
omit ae dH in
theorem PL{α β:Type}{R:α->β->Prop}{xs:List α}{ys:List β}(h:df R xs ys):(∀x∈xs,∃y,R x y)/\∀y∈ys,∃x,R x y:=by
 induction h with
 |nil=>simp
 |cons h _ az=>grind
omit ae dH in
theorem PM(h:hh p F p' (bH p F) ρ X f bj)(aV:f.mode=.returning->f.defers=[]->X=none):BK p F f/\BK p F bj:=by
 have fs:=PL h.todo;obtain⟨ds,gE,jY⟩:=h.defers;have aiY:=PL gE;have k4:∀{d dq:Deferred},sj (bH p F) ρ d dq->(∃r,d.target=.collected r)/\∃r,dq.target=.collected r:=λ{d dq} aV=>by
  obtain⟨t,a⟩:=d;obtain⟨bw,a'⟩:=dq;have:=aV.t;cases this with
  |collected h=>grind
 have hm:(f.mode=.run/\bj.mode=.run)\/(f.mode=.returning/\bj.mode=.returning):=by
  have:=h.mode;generalize f.mode=m at this;generalize bj.mode=m' at this;cases this;all_goals grind
 refine⟨⟨λit aj=>?_,?_,λ_ d zS e=>?_⟩,⟨λit aj=>?_,?_,λad d zS e=>?_⟩⟩
 ·obtain⟨y,aF⟩:=fs.1 it aj;exact(PK aF).1
 ·grind
 ·obtain⟨y,aF⟩:=aiY.1 d (by rw[e];simp);grind
 ·obtain⟨y,aF⟩:=fs.2 it aj;exact(PK aF).2
 ·grind
 ·cases vD:f.defers with
  |nil=>
   rw[vD]at gE;cases gE;grind
  |cons a b=>
   rw[vD]at gE;cases gE with
   |cons x y=>grind
theorem Ia{ro:Nat->Prop}{main:Bool}{V W':World}(hw:dN (bH p F) ρ ro V W')(dY:∀b,W'.heap.size<=b->¬ro b)(h:h5 p F p' (bH p F) ρ Y cO dV (f::cs) (bj::cs'))(il:f.mode=.returning->f.defers=[]->cs≠[cO])(mD:wF f)
  {fr:Tape->Nat->Frame} {nm:Tape->Nat->List Frame} {w2:Tape->Nat->World} {es:Tape->Nat->Array Event}
  (ai:∀τ d,stepG p true (G f cs) (a8 V τ d)=.go (G (fr τ d) (nm τ d)) (w2 τ d) (es τ d)) (ah:∀τ d,calm (fr τ d)):
  ∃τ d σ f1 cs1 bF es1,stepG p' main (G bj cs') W'=.go (G f1 cs1) bF es1/\CK p p' F Y cO dV σ (fr τ d,nm τ d) (f1,cs1)/\dN (bH p F) σ ro (w2 τ d) bF/\Fr ρ σ ro W' bF/\(∀e∈es1,ja σ ro e)/\(lD p f cs).run p (a8 V τ d)=.ok (fr τ d,nm τ d) (w2 τ d)/\(lD p' bj cs').run p' W'=.ok (f1,cs1) bF:=by
 obtain⟨τ,aB⟩:=(agL ae dH hw.ok h il mD).run V W' #[] 0 hw dY;have aB:=aB τ λ_ _ _=>rfl;have bU:cs≠[]:=by
  obtain⟨_,_,_,_,aK,_,aO⟩:=h.shape;grind
 have bh:BK p F f/\BK p F bj/\f.kind=.normal/\JX bj cs':=by
  cases h with
  |bot h=>
   have:=PM h λU ab=>absurd rfl (il U ab);obtain⟨ds,gE,jY⟩:=h.defers;refine⟨this.1,this.2,h.kind,.inr ⟨?_,λad=>?_⟩⟩
   ·have ad:=h.round;rw[h.bot rfl]at ad;generalize bj.roundOf=r at ad;cases ad;rfl
   ·have ir:f.mode=.returning:=by
     have:=h.mode;rw[ad]at this;generalize f.mode=m at this;cases this;rfl
    rw[jY];cases vD:f.defers with
    |nil=>grind
    |cons a b=>
     rw[vD]at gE;cases gE;simp
  |cons h k=>
   have:=PM h λ_ _=>rfl;refine⟨this.1,this.2,h.kind,.inl ⟨h.mZ rfl,?_⟩⟩;cases k<;>simp
 have x6:=QV (p:=p) (main:=true) (w:=a8 V τ 0) bh.1 (.inl ⟨bh.2.2.1,bU⟩);have Vq:=QV (p:=p') (main:=main) (w:=W') bh.2.1 bh.2.2.2;have g2:=ai τ 0;rw[Sem.runT_eq]at x6;cases ad:(lD p f cs).run p (a8 V τ 0)with
 |ok x w1=>
  rw[ad]at aB x6;obtain⟨σ,y,bF,es1,U,ab,al,aJ,bm⟩:=aB;rw[U]at Vq;obtain⟨es2,zX,_⟩:=x6;obtain⟨amo,amp,amq⟩:=Vq;rw[zX]at g2;injection g2 with aK aO bS;injection aK with b8 en;grind [Sem.runT_fst]
 |halt x w1=>
  rw[ad]at aB x6;cases x with
  |panic v=>
   rcases x6 with⟨g,Cs,es2,zX,amr⟩|⟨o,Cs,es2,zX⟩
   ·rw[zX]at g2;injection g2 with aK aO bS;injection aK with b8 en;grind
   grind
  |stuck y=>obtain⟨o,Cs,es2,zX⟩:=x6 aB;grind
  |unsupported y=>cases y<;>first|exact aB.elim|(obtain⟨o,Cs,es2,zX⟩:=x6 aB;grind)
  |_=>trivial
end
end
section
open Go Go.Conc
section
variable{p p':Program}{F:FuncId->Bool}{ρ:bA}{cO:Frame}{f bj:Frame}{fn0:FuncId}
theorem X6(ae:PP (bH p F) p p'){ro:Nat->Prop}{V W':World}(hw:dN (bH p F) ρ ro V W')(dY:∀b,W'.heap.size<=b->¬ro b)(h:hh p F p' (bH p F) ρ (some ([],fn0,false)) f bj)(hm:f.mode=.returning)(aV:f.defers=[])
  (gO:(p'.funcs[f.fn]?).map (·.results)=(p.funcs[f.fn]?).map (·.results)) (c1:p'.inits.idxOf? f.fn=none)
  {fr:Tape->Nat->Frame} {nm:Tape->Nat->List Frame} {w2:Tape->Nat->World} {es:Tape->Nat->Array Event}
  (ai:∀τ d,stepG p true (G f [cO]) (a8 V τ d)=.go (G (fr τ d) (nm τ d)) (w2 τ d) (es τ d)):
  ∃τ d σ v a3 bF es1,stepG p' true (G bj []) W'=.ended (.done a3) bF es1/\fr τ d=cO.finish v/\nm τ d=[]/\aZ (bH p F) σ v a3/\dN (bH p F) σ ro (w2 τ d) bF/\Fr ρ σ ro W' bF/\∀e∈es1,ja σ ro e:=by
 have eX:bj.mode=.returning:=by
  have:=h.mode;rw[hm]at this;generalize bj.mode=m at this;cases this;rfl
 have jv:bj.defers=[]:=by
  obtain⟨ds,U,ab⟩:=h.defers;rw[aV]at U;cases U;exact ab
 have dX:=h.fn;have vn:=h.tV;obtain⟨fn,tmps,todo,defers,mode,kind,round⟩:=f;obtain⟨cC,rb,yY,yE,yZ,mZ,yR⟩:=bj;have xy:=h.tmps;have BY:=h.kind;dsimp only at hm aV eX jv dX xy BY c1 gO vn;subst hm aV eX jv dX BY;cases U:p.funcs[cC]? with
 |none=>
  rw[U]at gO;have ab:p'.funcs[cC]?=none:=by simpa using gO
  have g2:=ai W'.tape 0;have ay:stepG p true (G ⟨cC,tmps,todo,[],.returning,.normal,round⟩ [cO]) (a8 V W'.tape 0)=.go (G (cO.finish (tmps.getD 0 undef)) []) (a8 V W'.tape 0) #[]:=by simp only[G,stepG,unwind,U];rfl
  rw[ay]at g2;injection g2 with aK aO bS;injection aK with b8 en;refine⟨W'.tape,0,ρ,tmps.getD 0 undef,rb.getD 0 undef,W',#[],?_,b8.symm,en.symm,yq xy 0,?_,Fr.refl _ _ _,by simp⟩
  ·simp only[G,stepG,unwind,ab,doReturn,c1];cases mZ<;>first|rfl|exact absurd rfl vn
  ·rw[←aO];exact hw.a8 _ _
 |some g=>
  rw[U]at gO;obtain⟨g',ab,al⟩:=Option.map_eq_some_iff.1 gO;obtain⟨τ,aB⟩:=(HC ae hw.ok g g' al xy).run V W' #[] 0 hw dY;have aB:=aB τ λ_ _ _=>rfl;have g2:=ai τ 0;have ay:stepG p true (G ⟨cC,tmps,todo,[],.returning,.normal,round⟩ [cO]) (a8 V τ 0)=GStep.after (seen p cC ((results g tmps).runT p (a8 V τ 0) #[]).2) (match((results g tmps).runT p (a8 V τ 0) #[]).1 with
    |.ok v w=>.go (G (cO.finish v) []) w #[]
    |.halt (.stuck s) w=>.ended (.stuck s (Frame.pos p ⟨cC,tmps,todo,[],.returning,.normal,round⟩)) w
    |.halt _ w=>.ended (.stuck "return: the result variables cannot be read" (Frame.pos p ⟨cC,tmps,todo,[],.returning,.normal,round⟩)) w):=by
   simp only[G,stepG,unwind,U];generalize(results g tmps).runT p (a8 V τ 0) #[]=r;obtain⟨r,e⟩:=r;cases r with
   |ok v w=>rfl
   |halt x w=>cases x<;>rfl
  rw[ay]at g2;rw[Sem.runT_fst]at g2;cases ad:(results g tmps).run p (a8 V τ 0)with
  |ok v w1=>
   rw[ad]at aB g2;obtain⟨σ,a3,bF,es1,k1,bf,bP,cX,fi⟩:=aB;simp only[GStep.after]at g2;injection g2 with aK aO bS;injection aK with b8 en;refine⟨τ,0,σ,v,a3,bF,seen p' cC (#[]++es1)++#[],?_,b8.symm,en.symm,bf,?_,cX,λe he=>?_⟩
   ·simp only[G,stepG,unwind,ab];rw[k1];simp only[doReturn,c1];cases mZ<;>first|rfl|exact absurd rfl vn
   ·rw[←aO];exact bP
   ·simp only[Array.append_empty]at he;have:=uv (p:=p') cC (#[]++es1) e he;exact fi e (by simpa using this)
  |halt x w1=>
   rw[ad]at g2;cases x<;>simp[GStep.after]at g2
end
end
section
open Go Go.Conc
section
variable{C:ee}{ρ:bA}
theorem Ew{α:Type}{R:α->α->Prop}:∀{xs ys:List α},df (λx y=>R y y->x=y) xs ys->df R ys ys->xs=ys
 |_,_,.nil,_=>rfl
 |_,_,.cons h k,.cons bc bB=>by rw[h bc,Ew k bB]
theorem X7{x y:Value}(h:aZ C ρ x y){f:Fn}{a b:Array Value}(aj:x=.func f a b)(aF:y=.func f a b):(tQ C ρ f f/\df (aZ C ρ) a.toList a.toList/\df (aZ C ρ) b.toList b.toList)\/∃n,f=.method n/\a=#[.nilIface]/\b=#[]:=by
 cases h with
 |func U ab al aJ bm=>
  injection aj with aK aO bS;injection aF with b8 en l9;subst aK aO bS b8 en l9;exact .inl ⟨U,bE.toList ⟨ab,al⟩,bE.toList ⟨aJ,bm⟩⟩
 |vi=>grind
 |_=>cases aj
theorem HP{f:Fn}{a b:Array Value}(h:aZ C ρ (.func f a b) (.func f a b)):(tQ C ρ f f/\df (aZ C ρ) a.toList a.toList/\df (aZ C ρ) b.toList b.toList)\/∃n,f=.method n/\a=#[.nilIface]/\b=#[]:=X7 h rfl rfl
theorem X8{x y:Value}(h:aZ C ρ x y){a:Array Value}(aj:x=.tuple a)(aF:y=.tuple a):df (aZ C ρ) a.toList a.toList:=by
 cases h with
 |tuple U ab=>
  injection aj with aK;injection aF with aO;subst aK aO;exact bE.toList ⟨U,ab⟩
 |bT k1 bf bP=>grind
 |_=>cases aj
mutual
theorem mask:∀a3:Value,∃v,aZ C ρ v a3/\(aZ C ρ a3 a3->v=a3)
 |.bool b=>⟨_,.bool,λ_=>rfl⟩
 |.int k n=>⟨_,.int,λ_=>rfl⟩
 |.string s=>⟨_,.string,λ_=>rfl⟩
 |.nilFunc=>⟨_,.nilFunc,λ_=>rfl⟩
 |.nilIface=>⟨_,.nilIface,λ_=>rfl⟩
 |.pointer none=>⟨_,.ca,λ_=>rfl⟩
 |.slice none n m=>⟨_,.bC,λ_=>rfl⟩
 |.map none=>⟨_,.qi,λ_=>rfl⟩
 |.chan none=>⟨_,.vh,λ_=>rfl⟩
 |.float k b=>⟨undef,.bT (by simp) (by simp) (by simp),λh=>by cases h⟩
 |.complex k a b=>⟨undef,.bT (by simp) (by simp) (by simp),λh=>by cases h⟩
 |.pointer (some a)=>by
  by_cases h:ρ a.block a.block
  ·exact⟨_,.ptr ⟨h,rfl,rfl⟩,λ_=>rfl⟩
  ·exact⟨undef,.bT (by simp) (by simp) (by simp),λk=>by cases k with|ptr k=>exact absurd k.b h⟩
 |.slice (some a) n m=>by
  by_cases h:ρ a.block a.block/\ρ.c a.block
  ·exact⟨_,.sl ⟨⟨h.1,rfl,rfl⟩,h.2⟩,λ_=>rfl⟩
  ·by_cases aT:n=0/\m=0
   ·obtain⟨rfl,rfl⟩:=aT;exact⟨_,.jc,λ_=>rfl⟩
   ·exact⟨undef,.bT (by simp) (by simp) (by simp),λk=>by
     cases k with
     |sl k=>exact absurd ⟨k.b,k.c⟩ h
     |jc=>grind⟩
 |.map (some r)=>by
  by_cases h:ρ r r
  ·exact⟨_,.map h,λ_=>rfl⟩
  ·exact⟨undef,.bT (by simp) (by simp) (by simp),λk=>by cases k with|map k=>grind⟩
 |.chan (some r)=>by
  by_cases h:ρ r r
  ·exact⟨_,.chan h,λ_=>rfl⟩
  ·exact⟨undef,.bT (by simp) (by simp) (by simp),λk=>by cases k with|chan k=>grind⟩
 |.iface t v=>by
  obtain⟨w,U,ab⟩:=mask v;exact⟨.iface t w,.iface U,λk=>by cases k with|iface k=>rw[ab k]⟩
 |.agg ⟨a⟩=>by
  obtain⟨b,U,ab⟩:=y7 a;exact⟨.agg b.toArray,aZ.te (bE.ofList U),λk=>by cases k with|agg k1 bf=>rw[Ew ab (bE.toList ⟨k1,bf⟩)]⟩
 |.tuple ⟨a⟩=>by
  obtain⟨b,U,ab⟩:=y7 a;exact⟨.tuple b.toArray,aZ.tuple' (bE.ofList U),λk=>by rw[Ew ab (X8 k rfl rfl)]⟩
 |.func f ⟨a⟩ ⟨b⟩=>by
  obtain⟨fA,U,ab⟩:=y7 a;obtain⟨gB,al,aJ⟩:=y7 b;by_cases hm:∃n,f=.method n
  ·obtain⟨n,rfl⟩:=hm;exact⟨_,.vi,λk=>by
    rcases HP k with⟨k1,_⟩|⟨m,aK,aO,bS⟩
    ·cases k1
    grind⟩
  by_cases aQ:tQ C ρ f f
  ·refine⟨.func f fA.toArray gB.toArray,?_,λk=>?_⟩
   ·have x:=bE.ofList U;have y:=bE.ofList al;exact .func aQ x.1 x.2 y.1 y.2
   ·rcases HP k with⟨_,bf,bP⟩|⟨m,aK,_⟩;all_goals grind [Ew]
  ·refine⟨undef,.bT (by simp) (by simp) ⟨by simp,λn x y e=>hm ⟨n,by injection e⟩,by simp⟩,λk=>?_⟩;rcases HP k with⟨k1,_⟩|⟨m,aK,_⟩;all_goals grind
theorem y7:∀cB:List Value,∃af,df (aZ C ρ) af cB/\df (λx y=>aZ C ρ y y->x=y) af cB
 |[]=>⟨[],.nil,.nil⟩
 |v::af=>by
  obtain⟨w,U,ab⟩:=mask v;obtain⟨ws,al,aJ⟩:=y7 af;exact⟨w::ws,.cons U al,.cons ab aJ⟩
end
theorem Sx(c':Array Value):∃c,cv C ρ c c'/\∀(i:Nat) v,c'[i]?=some v->aZ C ρ v v->c[i]?=some v:=by
 obtain⟨af,U,ab⟩:=y7 (C:=C) (ρ:=ρ) c'.toList;have al:=bE.ofList U;have aJ:=bE.ofList ab;refine⟨af.toArray,al,λi v ai ao=>?_⟩;rcases aJ.get i with⟨_,h⟩|⟨x,y,aj,aF,h⟩;all_goals grind
end
def ef(M:Nat->Prop):bA:=⟨λa b=>b=a/\M a,M⟩
theorem acU(G:Nat)(M:Nat->Prop):b0 G (ef M):=by
 refine⟨λ{a b} h=>?_,λh k=>by rw[h.1,k.1],λh k=>by rw[←h.1,←k.1]⟩;obtain⟨rfl,_⟩:=h;grind
theorem Nr(C:ee)(M:Nat->Prop)(W':World)(vL:C.G<=W'.heap.size)(e3:∀b,M b->∃c e f,W'.heap[b]?=some (.cells c e f)):
  ∃V:World,dN C (ef M) M V W'/\V.heap.size=W'.heap.size/\V.tape=W'.tape/\V.drawn=W'.drawn/\V.os=W'.os/\V.output=W'.output/\(∀b,¬M b->V.heap[b]?=W'.heap[b]?) /\
   (∀b o v,M b->W'.cell? ⟨b,o,none⟩=some v->aZ C (ef M) v v->V.cell? ⟨b,o,none⟩=some v)/\∀b,M b->∃c e n,c.size<=n/\V.heap[b]?=some (.cells c e (0,n)):=by
 have aj:∀i:Nat,∃o,∀o',W'.heap[i]?=some o'->(¬M i->o=o')/\(M i->∀c e f,o'=.cells c e f->∃c2 n,c2.size<=n/\o=.cells c2 e (0,n)/\jj C (ef M) o o'/\∀(j:Nat) v,c[j]?=some v->aZ C (ef M) v v->c2[j]?=some v):=by
  intro i;by_cases hi:M i
  ·obtain⟨c,e,f,h⟩:=e3 i hi;obtain⟨c2,U,ab⟩:=Sx (C:=C) (ρ:=ef M) c;refine⟨.cells c2 e (0,max c2.size f.2),λo' ar=>⟨λx=>absurd hi x,λ_ c' e' bj bc=>?_⟩⟩;rw[h]at ar;cases ar;cases bc;exact⟨c2,_,Nat.le_max_left _ _,rfl,.cells U λi _ rJ=>⟨Nat.zero_le _,Nat.lt_of_lt_of_le rJ (Nat.le_max_right _ _)⟩,ab⟩
  ·cases h:W'.heap[i]? with
   |none=>simp_all
   |some o=>simp_all
 let H:Array Obj:=Array.ofFn (n:=W'.heap.size) λi=>(aj i).choose;have e4:∀b o',W'.heap[b]?=some o'->H[b]?=some (aj b).choose:=λb o' h=>by
  have:=(Array.getElem?_eq_some_iff.1 h).1;simp[H,this]
 have bX:H.size=W'.heap.size:=by simp[H]
 have bK:∀b,M b->∃c e n,c.size<=n/\H[b]?=some (.cells c e (0,n)):=λb hb=>by grind
 refine⟨{ W' with heap:=H },⟨acU _ _,by grind,vL,λb a6 hb=>?_,λb a6 hb _=>bK b hb.2,λb hb=>let⟨c,e,n,_,h⟩:=bK b hb;⟨_,h,trivial⟩⟩,bX,rfl,rfl,rfl,rfl,λb hb=>?_,λb o v hb ai ao=>?_,bK⟩
 ·obtain⟨rfl,hb⟩:=hb;grind
 ·grind
 ·grind [World.cell?]
mutual
def aa.l1:aa->Bool
 |.int _ _ | .bool _ | .str _ | .bC=>true
 |.sl none _ _ _ cs=>hv cs
 |.bJ none _ cs=>!cs.isEmpty&&hv cs
 |.agg cs=>hv cs
 |_=>false
def hv:List aa->Bool
 |[]=>true
 |p::ps=>p.l1&&hv ps
end
section
variable{C C2:ee}{ρ:bA}{ro M:Nat->Prop}{V W' lE:World}{φ:bo}
theorem yh{b sz off cap:Nat}(h:b<V.heap.size):place ⟨λ_=>none,λ_=>none⟩ V none b sz off cap:=⟨(by rintro(⟨i,h⟩|⟨i,h⟩)<;>(cases h)),h⟩
theorem dN.m6(hw:dN C ρ ro V W'){b a6:Nat}(h:ρ b a6)(ad:∃o,V.heap[b]?=some o/\n3 o):∃o',W'.heap[a6]?=some o'/\n3 o':=by
 obtain⟨o,U,ab⟩:=ad;obtain⟨x,bk,k1,bf,bP⟩:=hw.obj b a6 h;rw[U]at k1;cases k1;refine⟨bk,bf,?_⟩;cases bP<;>first|trivial|exact ab.elim
theorem M4{b o:Nat}{v:Value}(h:V.cell? ⟨b,o,none⟩=some v):∃o,V.heap[b]?=some o/\n3 o:=by
 unfold World.cell? at h;split at h
 ·rename_i c e f aj;exact⟨_,aj,trivial⟩
 ·cases h
mutual
theorem OH(hw:dN C ρ ro V W')(e3:∀b a6,ρ b a6->(∃o,W'.heap[a6]?=some o/\n3 o)->M a6)(bX:lE.heap.size=W'.heap.size)(ew:∀b o v,M b->W'.cell? ⟨b,o,none⟩=some v->aZ C2 (ef M) v v->lE.cell? ⟨b,o,none⟩=some v):
  ∀(q:aa){v a3:Value},q.l1=true->aY φ V q v->aZ C ρ v a3->aZ C2 (ef M) a3 a3/\aY ⟨λ_=>none,λ_=>none⟩ lE q a3
 |.int k n,v,a3,_,h,ai=>by
  subst h;cases ai;exact⟨.int,rfl⟩
 |.bool b,v,a3,_,h,ai=>by
  subst h;cases ai;exact⟨.bool,rfl⟩
 |.str s,v,a3,_,h,ai=>by
  subst h;cases ai;exact⟨.string,rfl⟩
 |.bC,v,a3,_,h,ai=>by
  subst h;cases ai;exact⟨.bC,rfl⟩
 |.sl none sz off len cs,v,a3,aH,h,ai=>by
  simp only[aY]at h⊢;obtain⟨hlen,a,cap,rfl,lg,h⟩:=h;rcases h with⟨_,n9,au⟩|⟨b,rfl,cD,dA⟩
  ·obtain⟨a,rfl⟩:=Option.isSome_iff_exists.1 au;cases ai with
   |sl ai=>
    have hb:=e3 _ _ ai.b (hw.m6 ai.b (hw.row _ ai.c));exact⟨.sl ⟨⟨⟨rfl,hb⟩,rfl,rfl⟩,hb⟩,hlen,_,cap,rfl,lg,.inl ⟨trivial,n9,rfl⟩⟩
   |jc=>exact⟨.jc,hlen,_,0,rfl,lg,.inl ⟨trivial,n9,rfl⟩⟩
  ·cases ai with
   |@sl _ a' _ _ ai=>
    obtain⟨⟨U,ab,al⟩,ah⟩:=ai;obtain⟨a6,o',s'⟩:=a';dsimp only at U ab al ah;subst ab al;have hb:=e3 _ _ U (hw.m6 U (hw.row _ ah));have aU:a6<lE.heap.size:=by
     obtain⟨_,_,_,k,_⟩:=hw.obj _ _ U;grind
    exact⟨.sl ⟨⟨⟨rfl,hb⟩,rfl,rfl⟩,hb⟩,hlen,_,cap,rfl,lg,.inr ⟨a6,rfl,yh aU,G8 hw e3 bX ew cs aH U dA⟩⟩
   |jc=>exact⟨.jc,hlen,_,0,rfl,lg,.inl ⟨trivial,rfl,rfl⟩⟩
 |.bJ none off cs,v,a3,aH,h,ai=>by
  simp only[aa.l1]at aH;obtain⟨b,rfl,cD,dA⟩:=h;cases ai with
  |@ptr _ a' ai=>
   obtain⟨U,ab,al⟩:=ai;obtain⟨a6,o',s'⟩:=a';dsimp only at U ab al;subst ab al;simp  at aH;obtain⟨nc,aH⟩:=aH;have hb:=e3 _ _ U (hw.m6 U (by
    cases cs with
    |nil=>grind
    |cons hE gD=>grind [b7,M4]))
   have aU:a6<lE.heap.size:=by
    obtain⟨_,_,_,k,_⟩:=hw.obj _ _ U;grind
   exact⟨.ptr ⟨⟨rfl,hb⟩,rfl,rfl⟩,a6,rfl,yh aU,G8 hw e3 bX ew cs aH U dA⟩
 |.agg cs,v,a3,aH,h,ai=>by
  simp only[aY]at h⊢;obtain⟨af,rfl,e0⟩:=h;cases ai with
  |@agg _ a' U ab=>
   have:=Hf hw e3 bX ew cs aH e0 (bE.toList (R:=aZ C ρ) ⟨U,ab⟩);grind [aZ.te,bE.As]
 |.undef,v,a3,aH,h,ai=>by cases aH
 |.bad,v,a3,aH,h,ai=>by cases aH
 |.ca,v,a3,aH,h,ai=>by cases aH
 |.eL,v,a3,aH,h,ai=>by cases aH
 |.dead _,v,a3,aH,h,ai=>by cases aH
 |.cq _,v,a3,aH,h,ai=>by cases aH
 |.ptr _ _,v,a3,aH,h,ai=>by cases aH
 |.sl (some _) _ _ _ _,v,a3,aH,h,ai=>by cases aH
 |.bJ (some _) _ _,v,a3,aH,h,ai=>by cases aH
 |.fn _ _,v,a3,aH,h,ai=>by cases aH
 |.bD _,v,a3,aH,h,ai=>by cases aH
 |.mp _ _ _ _,v,a3,aH,h,ai=>by cases aH
theorem Hf(hw:dN C ρ ro V W')(e3:∀b a6,ρ b a6->(∃o,W'.heap[a6]?=some o/\n3 o)->M a6)(bX:lE.heap.size=W'.heap.size)(ew:∀b o v,M b->W'.cell? ⟨b,o,none⟩=some v->aZ C2 (ef M) v v->lE.cell? ⟨b,o,none⟩=some v):
  ∀(bz:List aa){af cB:List Value},hv bz=true->bl φ V bz af->df (aZ C ρ) af cB->df (aZ C2 (ef M)) cB cB/\bl ⟨λ_=>none,λ_=>none⟩ lE bz cB
 |[],af,cB,_,h,ai=>by
  subst h;cases ai;exact⟨.nil,rfl⟩
 |q::bz,af,cB,aH,h,ai=>by
  simp[hv]at aH;obtain⟨v,BL,rfl,U,ab⟩:=h;cases ai with
  |cons k1 bf=>
   have a:=OH hw e3 bX ew q aH.1 U k1;have b:=Hf hw e3 bX ew bz aH.2 ab bf;exact⟨.cons a.1 b.1,_,_,rfl,a.2,b.2⟩
theorem G8(hw:dN C ρ ro V W')(e3:∀b a6,ρ b a6->(∃o,W'.heap[a6]?=some o/\n3 o)->M a6)(bX:lE.heap.size=W'.heap.size)(ew:∀b o v,M b->W'.cell? ⟨b,o,none⟩=some v->aZ C2 (ef M) v v->lE.cell? ⟨b,o,none⟩=some v):
  ∀(bz:List aa){b a6 off:Nat},hv bz=true->ρ b a6->b7 φ V b bz off->b7 ⟨λ_=>none,λ_=>none⟩ lE a6 bz off
 |[],b,a6,off,_,_,_=>trivial
 |q::bz,b,a6,off,aH,hb,h=>by
  simp[hv]at aH;obtain⟨⟨c,ah,ad⟩,ab⟩:=h;refine⟨?_,G8 hw e3 bX ew bz aH.2 hb ab⟩;rcases hw.cell (a:=⟨b,off,none⟩) (a':=⟨a6,off,none⟩) ⟨hb,rfl,rfl⟩with⟨k,_⟩|⟨x,bk,k1,bf,bP⟩
  ·grind
  ·rw[ah]at k1;cases k1;have a:=OH hw e3 bX ew q aH.1 ad bP;grind [M4]
end
end
end
section
open Go Go.Conc
open Go.ConcN (sumTo upd sumTo_upd upd_ne upd_same)
def hP(S:Nat->Prop):Loc->Prop:=λl=>∃a,l=.cell a/\S a.block
structure kM(S:Nat->Prop)(B:Nat)(t:Trace):Prop where
 rq:Past (hP S) B t
 quiet:Quiet (hP S) t
 perm:∀l,¬hP S l->Perm t 0 l
 pl:∀i a,touchAt t i=some a->¬hP S a.loc->a.kind≠.atomic
theorem kM.mono{S:Nat->Prop}{B B':Nat}{t:Trace}(h:kM S B t)(dH:B<=B'):kM S B' t:=⟨h.rq.mono dH,h.quiet,h.perm,h.pl⟩
theorem EF{gh:Loc->Prop}{t u:Trace}(h:∀i a,touchAt t i=some a->¬gh a.loc->a.kind≠.atomic)(hu:∀op∈u,∀a,op.act.touch?=some a->¬gh a.loc->a.kind≠.atomic):∀i a,touchAt (t++u) i=some a->¬gh a.loc->a.kind≠.atomic:=by
 intro i a au ak;obtain⟨x,aj,UM⟩:=touch_of au;rcases getElem?_append_cases aj with⟨_,hc⟩|⟨_,aiZ⟩
 ·exact h i a (by rw[touchAt_of hc];exact UM) ak
 ·exact hu x aiZ a UM ak
def Ends(P:Program)(Q:Machine->Outcome->World->Trace->Prop)(m:Machine)(t:Trace):Prop:=
 ∃n last o w bw,runNT P (n+1) m t=(.ended o w,bw)/\runN P n m=.next last/\step P last=.ended o w/\Q last o w bw
section
variable{P:Program}{Q:Machine->Outcome->World->Trace->Prop}{m m':Machine}{t ops:Trace}
theorem Ends.next(h:stepT P m=(.next m',ops))(k:Ends P Q m' (t++ops)):Ends P Q m t:=by
 obtain⟨n,last,o,w,bw,U,ab,al,aJ⟩:=k;exact⟨n+1,last,o,w,bw,by rw[runNT_succ_next h];exact U,by rw[runN_succ_next h];exact ab,al,aJ⟩
theorem Ends.last{o:Outcome}{w:World}(h:stepT P m=(.ended o w,ops))(k:Q m o w (t++ops)):Ends P Q m t:=
 ⟨0,m,o,w,t++ops,by simp[runNT,h],rfl,by simp[step,h],k⟩
end
section
variable{σ:bA}{ro S:Nat->Prop}{B:Nat}{e:Event}
theorem ad5(h:ja σ ro e)(ao:∀b,S b->∀a,¬σ a b)(hb:∀a b,σ a b->b<B):EvL (hP S) B e:=by
 cases h with
 |@rd a b h=>
  refine⟨λx aj ⟨a',aK,aO⟩=>?_,by simp,by simp,hb _ _ h⟩;simp only[ofEvent_cell0,MemAct.touch?,Option.some.injEq]at aj;subst aj;cases aK;exact absurd h (ao _ aO _)
 |@wr a b h _=>
  refine⟨λx aj ⟨a',aK,aO⟩=>?_,by simp,by simp,hb _ _ h⟩;simp only[ofEvent_cell0,MemAct.touch?,Option.some.injEq]at aj;subst aj;cases aK;exact absurd h (ao _ aO _)
 |@get r b h=>
  refine⟨λx aj ⟨a',aK,aO⟩=>?_,by simp,by simp,hb _ _ h⟩;simp only[MemAct.ofEvent,MemAct.touch?,Option.some.injEq]at aj;subst aj;cases aK
 |@set r b h _=>
  refine⟨λx aj ⟨a',aK,aO⟩=>?_,by simp,by simp,hb _ _ h⟩;simp only[MemAct.ofEvent,MemAct.touch?,Option.some.injEq]at aj;subst aj;cases aK
 |ext=>exact⟨λx aj=>by simp[MemAct.ofEvent,MemAct.touch?]at aj,by simp,by simp,trivial⟩
 |room=>exact⟨λx aj=>by simp[MemAct.ofEvent,MemAct.touch?]at aj,by simp,by simp,trivial⟩
theorem aa3(h:ja σ ro e)(ao:∀b,S b->∀a,¬σ a b){x:Touch}(aj:(MemAct.ofEvent e).touch?=some x):¬hP S x.loc:=by
 rintro⟨a',aK,aO⟩;cases h with
 |@rd a b h=>
  simp only[ofEvent_cell0,MemAct.touch?,Option.some.injEq]at aj;subst aj;cases aK;exact ao _ aO _ h
 |@wr a b h _=>
  simp only[ofEvent_cell0,MemAct.touch?,Option.some.injEq]at aj;subst aj;cases aK;exact ao _ aO _ h
 |@get r b h=>
  simp only[MemAct.ofEvent,MemAct.touch?,Option.some.injEq]at aj;subst aj;cases aK
 |@set r b h _=>
  simp only[MemAct.ofEvent,MemAct.touch?,Option.some.injEq]at aj;subst aj;cases aK
 |ext=>simp[MemAct.ofEvent,MemAct.touch?]at aj
 |room=>simp[MemAct.ofEvent,MemAct.touch?]at aj
theorem aa4(h:ja σ ro e){x:Touch}(aj:(MemAct.ofEvent e).touch?=some x):x.kind=.plain:=by
 cases h with
 |rd h=>simp only[ofEvent_cell0,MemAct.touch?,Option.some.injEq]at aj;subst aj;rfl
 |wr h _=>simp only[ofEvent_cell0,MemAct.touch?,Option.some.injEq]at aj;subst aj;rfl
 |get h=>simp only[MemAct.ofEvent,MemAct.touch?,Option.some.injEq]at aj;subst aj;rfl
 |set h _=>simp only[MemAct.ofEvent,MemAct.touch?,Option.some.injEq]at aj;subst aj;rfl
 |ext=>simp[MemAct.ofEvent,MemAct.touch?]at aj
 |room=>simp[MemAct.ofEvent,MemAct.touch?]at aj
theorem kM.own{t:Trace}(h:kM S B t){fn:FuncId}{pos:String}{es:Array Event}(he:∀e∈es,ja σ ro e)(ao:∀b,S b->∀a,¬σ a b)(hb:∀a b,σ a b->b<B):kM S B (t++MemOp.ofEvents 0 fn pos es):=by
 refine⟨h.rq.own λe aj=>ad5 (he e aj) ao hb,h.quiet.app λop aE x aj nk=>?_,λl ak=>(h.perm l ak).app λop aE b _ _=>?_,EF h.pl λop aE a au _=>?_⟩
 ·obtain⟨e,dG,rfl⟩:=Go.Conc.mem_ofEvents aE;exact absurd nk (aa3 (he e dG) ao aj)
 ·obtain⟨e,dG,rfl⟩:=Go.Conc.mem_ofEvents aE;rfl
 ·obtain⟨e,dG,rfl⟩:=Go.Conc.mem_ofEvents aE;rw[aa4 (he e dG) au];simp
theorem kM.mute{t:Trace}(h:kM S B t){g:Nat}(aN:g≠0){fn:FuncId}{pos:String}{es:Array Event}(hm:∀e∈es,e.mute=true):kM S B (t++MemOp.ofEvents g fn pos es):=by
 have aI:∀op∈MemOp.ofEvents g fn pos es,op.act.touch?=none:=λop aE=>by
  obtain⟨e,dG,rfl⟩:=Go.Conc.mem_ofEvents aE;exact touch_mute (hm e dG)
 exact⟨h.rq.mute aN hm,h.quiet.app λop aE x aj _=>(by rw[aI op aE]at aj;cases aj),λl ak=>(h.perm l ak).app λop aE b hb _=>(by rw[aI op aE]at hb;cases hb),EF h.pl λop aE a au _=>(by rw[aI op aE]at au;cases au)⟩
end
section
variable{P:Program}{S:Nat->Prop}{B:Nat}
theorem Ka{gs:Array Goroutine}{a:Goroutine}{w:World}{sl:Option (Nat×Nat)}{t:Trace}{q:Nat->Nat}(aT:gs[0]?=some a)(aB:a.status=.running)(dg:Leavers P t gs q)(ub:kM S B t):
  (∃d fT,stepT P (crowd gs w sl)=runT P (crowd gs (w.at d) fT) 0) \/
  ∃ed d fT ops dF,stepT P (crowd gs w sl)=(.next (crowd ed (w.at d) fT),ops)/\ed.size=gs.size/\ed[0]?=some a/\Leavers P (t++ops) ed dF/\(∀op∈ops,op.g<gs.size)/\kM S B (t++ops)/\sumTo gs.size dF<sumTo gs.size q:=by
 have K3:∀g∈gs,awake g:=by
  intro g aN;obtain⟨i,hi,rfl⟩:=Array.mem_iff_getElem.1 aN;rcases Nat.eq_zero_or_pos i with rfl|eb
  ·have:gs[0]=a:=by simpa[Array.getElem?_eq_getElem hi]using aT
   rw[this];exact awake_of (.inl aB)
  ·exact awake_of ((dg.old i _ eb (Array.getElem?_eq_getElem hi)).status.elim .inl λx=>.inr (.inr x))
 obtain⟨i,g,d,fT,hi,aN,bh⟩:=crowd_pick (P:=P) (w:=w) (sl:=sl) K3 ⟨0,a,aT,aB⟩;rcases Nat.eq_zero_or_pos i with rfl|eb
 ·exact .inl ⟨d,fT,bh⟩
 ·refine .inr ?_;have aH:=dg.old i g eb hi;have jX:(i==0)=false:=by simp;omega
  have aU:i<gs.size:=(Array.getElem?_eq_some_iff.1 hi).1;cases Lx:q i with
  |zero=>rw[Lx]at aH;rw[aH.1]at aN;cases aN
  |succ k=>
   rw[Lx]at aH;rcases aH with⟨aQ,_⟩|⟨_,g',es,hm,Tl,iX⟩
   ·rw[aQ]at aN;cases aN
   have sS:=runT_crowd_go (P:=P) (sl:=fT) (i:=i) hi (by rw[jX];exact Tl (w.at d));have Fl:sumTo gs.size (upd q i k)+(k+1)=sumTo gs.size q+k:=by
    have:=sumTo_upd q k id aU;simpa[Lx]using this
   refine⟨_,d,fT,_,upd q i k,bh.trans sS,by simp,?_,⟨λj x aC aj=>?_,λj aC=>?_⟩,λop aE=>by obtain⟨e,_,rfl⟩:=Go.Conc.mem_ofEvents aE;exact aU,ub.mute (by omega) hm,by omega⟩
   ·have bU:i≠0:=by omega
    rw[Array.getElem?_setIfInBounds_ne bU,Array.getElem?_map,aT];simp[woken_run aB]
   ·by_cases kT:i=j
    ·subst kT;rw[Array.getElem?_setIfInBounds_self_of_lt (by simpa using aU)]at aj;obtain rfl:=Option.some.inj aj;rw[upd_same,Deaf_own];exact iX
    ·rw[Array.getElem?_setIfInBounds_ne kT,Array.getElem?_map]at aj;obtain⟨y,aF,rfl⟩:=Option.map_eq_some_iff.1 aj;have UN:=dg.old j y aC aF;rw[woken_quitsD UN,upd_ne q k (Ne.symm kT),Deaf_other t kT _ (λop aE=>by obtain⟨e,_,rfl⟩:=Go.Conc.mem_ofEvents aE;rfl)];exact UN
   ·rw[Deaf_other t (g':=i) (by simp at aC;omega) _ (λop aE=>by obtain⟨e,_,rfl⟩:=Go.Conc.mem_ofEvents aE;rfl)];exact dg.above j (by simpa using aC)
theorem Leavers.step0{gs:Array Goroutine}{a a':Goroutine}{w':World}{t:Trace}{q:Nat->Nat}(dg:Leavers P t gs q)(aT:gs[0]?=some a){fn:FuncId}{pos:String}{es:Array Event}:Leavers P (t++MemOp.ofEvents 0 fn pos es) ((gs.map (woken P a a' w')).setIfInBounds 0 a') q:=by
 refine⟨λj x aC aj=>?_,λj aC=>?_⟩
 ·have bU:0≠j:=by omega
  rw[Array.getElem?_setIfInBounds_ne bU,Array.getElem?_map]at aj;obtain⟨y,aF,rfl⟩:=Option.map_eq_some_iff.1 aj;have aH:=dg.old j y aC aF;rw[woken_quitsD aH,Deaf_other t (by omega) _ (λop aE=>by obtain⟨e,_,rfl⟩:=Go.Conc.mem_ofEvents aE;rfl)];exact aH
 ·have aU:0<gs.size:=(Array.getElem?_eq_some_iff.1 aT).1;rw[Deaf_other t (g':=0) (by simp at aC;omega) _ (λop aE=>by obtain⟨e,_,rfl⟩:=Go.Conc.mem_ofEvents aE;rfl)];exact dg.above j (by simpa using aC)
end
end
section
open Go Go.Conc
open Go.ConcN (sumTo upd sumTo_upd upd_ne upd_same)
def dv:Frame:={ fn:=0,tmps:=#[undef],todo:=[.inRegion #[{ dst:=some 0,op:=.assign (.const (.bool true)),type:=0,pos := "",after:=#[],guard:=none }] [0],.code (.refuse "")],defers:=[],mode:=.run,kind:=.normal }
def mM(R:Value->World->Prop):Frame->List Frame->World->Prop:=λfr cs w=>cs=[]/\∃v,fr=dv.finish v/\R v w
theorem QW(v:Value):dv.finish v={ dv with tmps:=#[v],todo:=[.inRegion #[{ dst:=some 0,op:=.assign (.const (.bool true)),type:=0,pos := "",after:=#[],guard:=none }] [],.code (.refuse "")] }:=rfl
section
variable[cQ]{P:Program}{R:Value->World->Prop}
theorem IB{T:Frame->List Frame->World->Prop}{fr:Frame}{cs:List Frame}{w:World}(h:Way P T fr cs w):
  (∀τ d,T fr cs (a8 w τ d)) \/
  (∃(hz:Tape->Nat->Frame)(cs':Tape->Nat->List Frame)(w':Tape->Nat->World)(es:Tape->Nat->Array Event),qT P fr/\(∀τ d,stepG P true (G fr cs) (a8 w τ d)=.go (G (hz τ d) (cs' τ d)) (w' τ d) (es τ d))/\(∀τ d,calm (hz τ d))/\∀τ d,Way P T (hz τ d) (cs' τ d) (w' τ d)) \/
  ∃(f:FuncId)(args:Array Value)(c:Frame)(gD:List Frame)(nE:Value->World->Prop),fr=Frame.enter P f args .normal/\cs=c::gD/\calm c/\(∀τ d,cQ.spec f args (a8 w τ d) nE)/\∀v w',nE v w'->Way P T (c.finish v) gD w':=by
 cases h with
 |done h=>grind
 |step a b c d U ab al aJ=>exact .inr (.inl ⟨a,b,c,d,U,ab,al,aJ⟩)
 |spec U ab al=>exact .inr (.inr ⟨_,_,_,_,_,rfl,rfl,U,ab,al⟩)
theorem IC{v:Value}{w:World}(h:Way P (mM R) (dv.finish v) [] w):∃τ d,R v (a8 w τ d):=by
 rcases IB h with h|⟨hz,cs',w',es,he,h,hm,k⟩|⟨_,_,_,_,_,_,e,_⟩
 ·obtain⟨_,a3,e,ad⟩:=h w.tape 0;grind [QW]
 ·have U:=h w.tape 0;injection U with aK aO bS;injection aK with b8 en;have k1:=k w.tape 0;rw[←b8,←en]at k1;rcases IB k1 with h|⟨ams,nm,w2,es2,amt,ab,kU,bf⟩|⟨_,_,_,_,_,_,e,_⟩
  ·obtain⟨_,a3,e,_⟩:=h w.tape 0;grind [QW]
  ·have al:=ab w.tape 0;trivial
  ·cases e
 ·cases e
end
structure e7(W0 W:World):Prop where
 size:W0.heap.size<=W.heap.size
 os:W.os=W0.os
 out:W.output=W0.output
 blk:∀b,b<W0.heap.size->W.heap[b]?=W0.heap[b]?
theorem e7.refl(W:World):e7 W W:=⟨Nat.le_refl _,rfl,rfl,λ_ _=>rfl⟩
theorem e7.trans{W0 bF iA:World}(h:e7 W0 bF)(k:e7 bF iA):e7 W0 iA:=⟨Nat.le_trans h.size k.size,k.os.trans h.os,k.out.trans h.out,λb hb=>(k.blk b (Nat.lt_of_lt_of_le hb h.size)).trans (h.blk b hb)⟩
section
variable{p p':Program}{F:FuncId->Bool}{fn0:FuncId}{ro:Nat->Prop}{W0:World}{Post:Value->World->Prop}
structure oP(p p':Program)(F:FuncId->Bool)(ro:Nat->Prop)(W0:World)(S:Nat->Prop)(ρ:bA)(V W:World)(g0:Goroutine)(gs:Array Goroutine)(t:Trace)(q:Nat->Nat):Prop where
 g0:gs[0]?=some g0
 ey:Leavers p' t gs q
 pa:kM S W.heap.size t
 k4:∀op∈t,op.g<gs.size
 ma:∀b,S b->∀a,¬ρ a b
 shl:∀b,S b->b<W.heap.size
 wr:dN (bH p F) ρ ro V W
 og:∀b,W.heap.size<=b->¬ro b
 old:∀a b,ρ a b->b<W0.heap.size->ro b
 db:e7 W0 W
def IG[cQ](p p':Program)(F:FuncId->Bool)(ro:Nat->Prop)(W0:World)(Q:Machine->Outcome->World->Trace->Prop):Prop:=
 ∀(f:FuncId)(a a':Array Value)(u':Frame)(us':List Frame)(S:Nat->Prop)(ρ:bA)(V W:World)(gs:Array Goroutine)(sl:Option (Nat×Nat))(t:Trace)(q:Nat->Nat)(nE:Value->World->Prop),
  nO p f->a.size=arity p f->(∀τ d,cQ.spec f a (a8 V τ d) nE)->cv (bH p F) ρ a a'->calm u' ->
  oP p p' F ro W0 S ρ V W (G (Frame.enter p' f a' .normal) (u'::us')) gs t q ->
  (∀(σ:bA)(v a3:Value)(k3 bF:World)(ba:Nat->Prop)(hQ:Array Goroutine)(lr:Option (Nat×Nat))(t1:Trace)(cy:Nat->Nat),nE v k3->cN ρ σ->aZ (bH p F) σ v a3->oP p p' F ro W0 ba σ k3 bF (G (u'.finish a3) us') hQ t1 cy->Ends p' Q (crowd hQ bF lr) t1) ->
  Ends p' Q (crowd gs W sl) t
theorem oP.at{S:Nat->Prop}{ρ:bA}{V W:World}{g0:Goroutine}{gs:Array Goroutine}{t:Trace}{q:Nat->Nat}(h:oP p p' F ro W0 S ρ V W g0 gs t q)(d:Nat):oP p p' F ro W0 S ρ V (W.at d) g0 gs t q:=
 ⟨h.g0,h.ey,h.pa,h.k4,h.ma,h.shl,h.wr.B0 _ d,h.og,h.old,⟨h.db.size,h.db.os,h.db.out,h.db.blk⟩⟩
theorem Ri[cQ]{Y:List Deferred×FuncId×Bool}{dV:List Frame}{ρ:bA}{f bj:Frame}{cs cs':List Frame}(h:CK p p' F Y dv dV ρ (f,cs) (bj,cs'))(he:qT p f):h5 p F p' (bH p F) ρ Y dv dV (f::cs) (bj::cs'):=by
 rcases h with h|⟨g,a,a',us,us',aK,aO,ao,aN,au,bh⟩
 ·exact h
 ·injection aK with bS b8;exact absurd ao (he g a bS)
theorem RX(dH:pk p p' F){o:Op}(h:mx p F o=true):Ty p o=false:=by
 unfold mx at h;rw[Bool.or_eq_true]at h;rcases h with h|h
 ·unfold E3 at h;split at h
  ·rename_i f args fl;simp  at h;obtain⟨fn,c,aK,aO,_⟩:=Hj h.1.2;show yT p f=false;grind [yT]
  ·cases h
 rw[Bool.and_eq_true]at h;obtain⟨U,ab⟩:=h;have key:∀f,F f=true->yT p f=false:=λf aQ=>by
  unfold yT;obtain⟨fn,_,c,aK,_,aO,_⟩:=dH.fns f aQ;grind
 cases o with
 |call c=>
  obtain⟨ajy,args,fl⟩:=c;cases ajy with
  |value x=>
   have aj:ij F x=true:=by grind [Op.operands,Call.operands]
   cases x with
   |func f=>exact key f aj
   |const v=>
    cases v with
    |func fn a b=>
     cases fn with
     |func f=>
      simp[ij,w0]at aj;exact key f aj.1.1
     |_=>rfl
    |_=>rfl
   |_=>rfl
  |_=>rfl
 |_=>first|rfl|cases ab
theorem qP(dH:pk p p' F):∀{c:Code},codeOk p F c=true->jU p c=false
 |.region _ ops _,h=>by grind [codeOk,jU,RX]
 |.seq a b,h=>by
  simp[codeOk]at h;simp[jU,qP dH h.1,qP dH h.2]
 |.cond _ a b,h=>by
  simp[codeOk]at h;simp[jU,qP dH h.1.2,qP dH h.2]
 |.block _ c,h=>by
  simp only[codeOk]at h;simp[jU,qP dH h]
 |.loop c,h=>by
  simp only[codeOk]at h;simp[jU,qP dH h]
 |.scope c,h=>by
  simp only[codeOk]at h;simp[jU,qP dH h]
 |.rangeFunc _ _ a b,h=>by
  simp[codeOk]at h;simp[jU,qP dH h.1.2,qP dH h.2]
 |.skip,_=>rfl
 |.label _,_=>rfl
 |.exit _,_=>rfl
 |.goto _,_=>rfl
 |.ret,_=>rfl
 |.refuse _,_=>rfl
theorem V4(dH:pk p p' F){g:FuncId}{a:Array Value}(ao:nO p g){X:Option (List Deferred×FuncId×Bool)}{ρ:bA}{bj:Frame}(h:hh p F p' (bH p F) ρ X (Frame.enter p g a .normal) bj):False:=by
 obtain⟨fn,c,U,ab,al⟩:=ao;have a1:=h.todo;have e:(Frame.enter p g a .normal).todo=[.code c]:=by grind [Frame.enter]
 rw[e]at a1;generalize bj.todo=t at a1;cases a1 with
 |cons hi _=>
  cases hi with
  |code ah=>grind [qP]
  |reg ah _ _=>grind [jU,RX]
theorem aa5{f bj:Frame}(h:Gj f.mode bj.mode):calm bj:=by
 unfold calm;generalize f.mode=m at h;generalize bj.mode=m' at h;cases h;all_goals grind
theorem Zx[cQ]{R:Value->World->Prop}(ae:PP (bH p F) p p')(dH:pk p p' F)(fH:IG p p' F ro W0 (Go.Conc.Good p' Post))(c1:p'.inits.idxOf? fn0=none)(gO:(p'.funcs[fn0]?).map (·.results)=(p.funcs[fn0]?).map (·.results))
  (Ly:∀f a w nE,cQ.spec f a w nE->nO p f/\a.size=arity p f)
  (iJ:∀v a3 V W σ τ d,R v (a8 V τ d)->aZ (bH p F) σ v a3->dN (bH p F) σ ro V W->e7 W0 W->Post a3 W)
  {f:Frame} {cs:List Frame} {V:World} (h:Way p (mM R) f cs V):∀(bj:Frame)(cs':List Frame)(S:Nat->Prop)(ρ:bA)(W:World)(gs:Array Goroutine)(sl:Option (Nat×Nat))(t:Trace)(q:Nat->Nat),
   CK p p' F ([],fn0,false) dv [] ρ (f,cs) (bj,cs')->oP p p' F ro W0 S ρ V W (G bj cs') gs t q->Ends p' (Go.Conc.Good p' Post) (crowd gs W sl) t:=by
 induction h with
 |@done fr cs w h=>
  intro bj cs' S ρ W gs sl t q h6 hm;exfalso;obtain⟨U,_⟩:=h w.tape 0;subst U;rcases h6 with h|⟨g,a,a',us,us',aK,aO,ao,aN,au,bh⟩
  ·obtain⟨_,_,_,_,aK,_,aO⟩:=h.shape;cases aK;exact aO rfl
  ·injection aK with bS b8;subst b8;cases bh
 |@step fr cs V hz nm w2 es he bh ah k az=>
  intro bj cs' S ρ W gs sl t q h6;have s9:=Ri h6 he;clear h6;generalize e3:sumTo gs.size q=M;induction M using Nat.strongRecOn generalizing S W gs sl t q with
  |_ M KT=>
   intro hm;rcases Ka (sl:=sl) hm.g0 rfl hm.ey hm.pa with⟨d,fT,oD⟩|⟨ed,d,fT,ops,dF,oD,bX,rP,ak,BZ,tz,aU⟩
   ·have hm:=hm.at (p:=p) d;by_cases il:fr.mode=.returning->fr.defers=[]->cs≠[dv]
    ·have mD:wF fr:=by
      cases s9 with
      |bot h=>exact noMark h (by simp[rr])
      |cons h _=>exact noMark h (by simp[rr])
     obtain⟨τ,d2,σ,f1,cs1,bF,es1,U,ab,al,aJ,bm,_,_⟩:=Ia (main:=true) ae dH hm.wr hm.og s9 il mD bh ah;have sS:=runT_crowd_go (P:=p') (sl:=fT) (i:=0) hm.g0 (show stepG p' (0==0) (G bj cs') (W.at d)=_ from U);have aU:0<gs.size:=(Array.getElem?_eq_some_iff.1 hm.g0).1;have nk:∀b,S b->∀a,¬σ a b:=λb hb a bL=>by
      rcases aJ.new a b bL with h|h
      ·exact hm.ma b hb a h
      ·exact absurd (hm.shl b hb) (by omega)
     have gX:∀a b,σ a b->b<bF.heap.size:=λa b bL=>by
      obtain⟨_,_,_,k,_⟩:=al.obj _ _ bL;exact(Array.getElem?_eq_some_iff.1 k).1
     refine Ends.next (oD.trans sS) (az τ d2 f1 cs1 S σ bF _ fT _ q ab ⟨by simp[aU],Leavers.step0 hm.ey hm.g0,(hm.pa.mono aJ.size).own bm nk gX,λop aE=>by
      simp only[Array.size_setIfInBounds,Array.size_map];rcases Array.mem_append.1 aE with h|h
      ·exact hm.k4 op h
      ·obtain⟨e,_,rfl⟩:=Go.Conc.mem_ofEvents h;exact aU,nk,λb hb=>Nat.lt_of_lt_of_le (hm.shl b hb) aJ.size,al,λb hb=>hm.og b (Nat.le_trans aJ.size hb),λa b bL hb=>?_,⟨Nat.le_trans hm.db.size aJ.size,aJ.os.trans hm.db.os,aJ.out.trans hm.db.out,λb hb=>?_⟩⟩)
     ·rcases aJ.new a b bL with h|h
      ·exact hm.old a b h hb
      ·exact absurd (Nat.lt_of_lt_of_le hb hm.db.size) (by omega)
     ·refine(aJ.eP b (Nat.lt_of_lt_of_le hb hm.db.size) ?_).trans (hm.db.blk b hb);by_cases hex:∃a,ρ a b
      ·obtain⟨a,au⟩:=hex;exact .inr (hm.old a b au hb)
      ·exact .inl λa au=>hex ⟨a,au⟩
    ·have hcs:cs=[dv]:=Classical.byContradiction λh=>il λ_ _=>h;have jZ:fr.mode=.returning:=Classical.byContradiction λh=>il λU _=>absurd U h;have iY:fr.defers=[]:=Classical.byContradiction λh=>il λ_ U=>absurd U h;subst hcs;cases s9 with
     |cons _ h=>cases h with
      |cons _ ab=>cases ab
     |bot h=>
      have dX:=h.nn _ rfl;dsimp only at dX;obtain⟨τ,d2,σ,v,a3,bF,es1,U,ab,al,aJ,bm,bI,cS⟩:=X6 (fn0:=fn0) ae hm.wr hm.og h jZ iY (by rw[dX];exact gO) (by rw[dX];exact c1) bh;have xt:=k τ d2;rw[ab,al]at xt;obtain⟨ajz,d3,cn⟩:=IC xt;have sS:=runT_many_ended (P:=p') (sl:=fT) (i:=0) hm.g0 (show stepG p' (0==0) (G bj []) (W.at d)=_ from U);have nk:∀b,S b->∀a,¬σ a b:=λb hb a bL=>by
       rcases bI.new a b bL with h|h
       ·exact hm.ma b hb a h
       ·exact absurd (hm.shl b hb) (by omega)
      have gX:∀a b,σ a b->b<bF.heap.size:=λa b bL=>by
       obtain⟨_,_,_,k,_⟩:=bm.obj _ _ bL;exact(Array.getElem?_eq_some_iff.1 k).1
      have vy:e7 W0 bF:=⟨Nat.le_trans hm.db.size bI.size,bI.os.trans hm.db.os,bI.out.trans hm.db.out,λb hb=>by
       refine(bI.eP b (Nat.lt_of_lt_of_le hb hm.db.size) ?_).trans (hm.db.blk b hb);by_cases hex:∃a,ρ a b
       ·obtain⟨a,au⟩:=hex;exact .inr (hm.old a b au hb)
       ·exact .inl λa au=>hex ⟨a,au⟩⟩
      have UO:=((hm.pa.mono bI.size).own (fn:=bj.fn) (pos:=bj.place) cS nk gX).rq;refine Ends.last (oD.trans sS) ⟨a3,rfl,iJ v a3 _ bF σ ajz d3 cn aJ bm vy,UO.clean,UO.over,⟨λx aj=>?_,rfl⟩,λj x aj aC=>?_⟩
      ·obtain⟨j,aC⟩:=List.mem_iff_getElem?.1 aj;rw[List.getElem?_drop]at aC;exact⟨_,(hm.ey.old (1+j) x (by omega) (by simpa[crowd]using aC)).leaves⟩
      ·have aH:=hm.ey.old j x (by omega) aj;refine⟨q j,?_⟩;have e:(t++MemOp.ofEvents 0 bj.fn bj.place es1).deaf j (t++MemOp.ofEvents 0 bj.fn bj.place es1).size=Deaf t j:=
        Deaf_other t (g:=j) (g':=0) (by omega) _ (λop aE=>by obtain⟨e,_,rfl⟩:=Go.Conc.mem_ofEvents aE;rfl)
       show Goroutine.endsWith p' _ _ _ _=_;rw[show(t++MemOp.ofEvents 0 (G bj []).frame.fn (G bj []).frame.place es1).deaf j (t++MemOp.ofEvents 0 (G bj []).frame.fn (G bj []).frame.place es1).size=Deaf t j from e];exact aH.hears _
   ·exact Ends.next oD (KT (sumTo ed.size dF) (by rw[bX,←e3];exact aU) S (W.at d) ed fT _ dF rfl ⟨rP,ak,tz,λop aE=>(by rw[bX];exact(Array.mem_append.1 aE).elim (hm.k4 op) (BZ op)),hm.ma,hm.shl,hm.wr.B0 _ d,hm.og,hm.old,⟨hm.db.size,hm.db.os,hm.db.out,hm.db.blk⟩⟩)
 |@spec f args c cs V nE ah ao k az=>
  intro bj cs' S ρ W gs sl t q h6 hm;obtain⟨mH,bX⟩:=Ly _ _ _ _ (ao W.tape 0);rcases h6 with h|⟨g,a,a',us,us',aK,aO,Ua,aN,au,bh⟩
  ·exfalso;obtain⟨X,aQ,_⟩:=h.top;exact V4 dH mH aQ
  ·dsimp only at aK aO;injection aK with bS b8;injection aO with en l9;subst b8 en l9;have ue:f=g:=congrArg Frame.fn bS;subst ue;have ai0:args=a:=by
    have UP:=congrArg Frame.tmps bS;simp only[Frame.enter]at UP;have UQ:=congrArg Array.toList UP;simp only[Array.toList_append]at UQ;have:=(List.append_inj UQ (by simp[bX,aN])).1;exact Array.toList_inj.1 this
   subst ai0;obtain⟨u,u',cs1,UR,L6,ajA,_⟩:=bh.shape;injection L6 with ai1 ai2;subst ai1 ai2 ajA;obtain⟨X,ly,n8⟩:=bh.top;refine fH f args a' u' UR S ρ V W gs sl t q nE mH bX ao au ?_ hm λσ v a3 k3 bF ba hQ lr t1 cy tK hle g2 xu=>?_
   ·exact aa5 ly.mode
   ·exact az v k3 tK (u'.finish a3) UR ba σ bF hQ lr t1 cy (.inl (n8 σ _ _ hle ((ly.mono hle).finish g2))) xu
end
end
section
open Go Go.Conc
section
variable{p p':Program}{F:FuncId->Bool}{fn0:FuncId}{W:World}{Post:Value->World->Prop}
theorem je.acV{iF US:Prop}(h:iF->US){C:ee}{ρ:bA}{x y:Item}(k:je p F iF C ρ x y):je p F US C ρ x y:=by
 cases k with
 |code k=>exact .code k
 |reg k bB bf=>exact .reg k bB λx=>h (bf x)
 |inBlock=>exact .inBlock
 |inLoop k=>exact .inLoop k
 |inScope k=>exact .inScope k
 |inRegion k bB bf=>exact .inRegion k bB λx=>h (bf x)
 |wz k=>exact .wz k
 |uy k=>exact .uy k
 |begin=>exact .begin
theorem hh.ad6{C:ee}{ρ:bA}{f bj:Frame}(h:hh p F p' C ρ none f bj)(ad:f.roundOf=none)(X:List Deferred×FuncId×Bool)(U:X.1=[])(ab:X.2.1=f.fn):hh p F p' C ρ (some X) f bj:=by
 obtain⟨ds,gE,jY⟩:=h.defers;exact⟨h.fn,h.tmps,h.todo.mono λ_ _ x=>x.acV λe=>e.elim,⟨ds,gE,by rw[jY];simp[U]⟩,h.mode,h.kind,λe=>(by cases e),h.round,λ_=>ad,λe=>(by cases e),h.cE,λx e=>by cases e;exact ab.symm,h.tV,λ_ _ _=>h.mZ rfl⟩
def rows(W:World):Nat->Prop:=λb=>∃c e f,W.heap[b]?=some (.cells c e f)
theorem XN[cQ]{R:Ending->World->Prop}(ae:PP (bH p F) p p')(dH:pk p p' F)(vL:p.globals.size<=W.heap.size)(fH:IG p p' F (rows W) W (Go.Conc.Good p' Post))(aw:F fn0=true)(c1:p'.inits.idxOf? fn0=none)
  (Ly:∀f a w nE,cQ.spec f a w nE->nO p f/\a.size=arity p f)
  (iJ:∀v a3 V bF σ,R (.returned v) V->aZ (bH p F) σ v a3->dN (bH p F) σ (rows W) V bF->e7 W bF->Post a3 bF)
  {V:World} (ql:dN (bH p F) (ef (rows W)) (rows W) V W) {args:Array Value} (au:cv (bH p F) (ef (rows W)) args args) (ah:lb p fn0 args V R):Ends p' (Go.Conc.Good p' Post) (solo (G (Frame.enter p' fn0 args .normal) []) W) #[]:=by
 have hw:=ah (mM λv w=>∃τ d,R (.returned v) (a8 w τ d)) dv [] (.inl rfl) λv w' ai=>.done λτ d=>⟨rfl,v,rfl,w'.tape,w'.drawn,ai⟩;rw[solo_eq_crowd];have ly:=OG dH aw au;have gO:(p'.funcs[fn0]?).map (·.results)=(p.funcs[fn0]?).map (·.results):=ly.res rfl rfl;refine Zx (fn0:=fn0) ae dH fH c1 gO Ly (λv a3 V bF σ τ d ⟨cI,d1,U⟩ ab al aJ=>iJ v a3 _ bF σ U ab (al.a8 cI d1) aJ) hw _ [] (λ_=>False) (ef (rows W)) W #[G (Frame.enter p' fn0 args .normal) []] none #[] (λ_=>0) (.inl (.bot (ly.ad6 rfl _ rfl rfl))) ⟨rfl,leavers_one _ _,⟨?_,λi op x hi=>by simp at hi,λl _ i a au=>by simp[touchAt,Trace.act?]at au,λi a au=>by simp[touchAt,Trace.act?]at au⟩,λop aE=>by simp at aE,λb hb=>hb.elim,λb hb=>hb.elim,ql,?_,λa b bL _=>?_,e7.refl W⟩
 ·have e:hP (λ_=>False)=λ_=>False:=by
   funext l;exact propext ⟨λ⟨_,_,h⟩=>h,λh=>h.elim⟩
  rw[e];exact past_nil.mono (Nat.zero_le _)
 ·rintro b hb ⟨c,e,f,h⟩;have:=(Array.getElem?_eq_some_iff.1 h).1;omega
 ·rw[bL.1];exact bL.2
end
end
end Go.Proofs.YtlminnpaeaganaaGreat
