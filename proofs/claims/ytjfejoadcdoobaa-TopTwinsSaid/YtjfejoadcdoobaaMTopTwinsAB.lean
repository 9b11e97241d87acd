/- Part of the proof of TopTwins. No condition. -/
import Derived.RangeFuncLeaves
import Derived.WalkSpells
import Derived.Test.YtjfejoadcdoobaaMTopTwinsAA
namespace Go.Proofs.Ytjfejoadcdoobaa
set_option maxRecDepth 100000
set_option linter.all false
section
open Go Go.RowKit Go.Conc
section
variable[Sp]{P:Program}{T:Frame->List Frame->World->Prop}{fr fr':Frame}{cs cs':List Frame}{w w':World}
variable{rr:Option Nat}{o:Oper}{a:Act}{next next':Act->World->Prop}{Q Q':Exit->Act->World->Prop}{c:Code}{b:Frame}{k:List Item}{ops:Array Oper}
def wpOpX(rr:Option Nat)(P:Program)(ops:Array Oper)(Q:Exit->Act->World->Prop)(i:Nat)(K:Act->World->Prop)(a:Act)(w:World):Prop:=
 match ops[i]? with
 |none=>K a w
 |some o=>if Region.wanted o (yielded ops a.tmps)then ∀τ d,o.wpX rr P a (re w τ d) K Q else K (a.put o.dst undef) w
theorem wpOpsX_cons(i:Nat)(rest:List Nat)(a:Act)(w:World):wpOpsX rr P ops Q (i::rest) a w=wpOpX rr P ops Q i (wpOpsX rr P ops Q rest) a w:=by cases h:ops[i]?<;>simp[wpOpsX,wpOpX,h]
theorem wpOpX_mono{i:Nat}{K K':Act->World->Prop}(h:∀a w,K a w->K' a w)(hh:wpOpX rr P ops Q i K a w):wpOpX rr P ops Q i K' a w:=by
 unfold wpOpX at *;split
 ·rename_i h0;rw[h0]at hh;exact h _ _ hh
 ·rename_i o ho;rw[ho]at hh;dsimp only at hh;split
  ·rename_i hw;rw[if_pos hw]at hh;exact λτ d=>Oper.wpX_mono h (hh τ d)
  ·rename_i hw;rw[if_neg hw]at hh;exact h _ _ hh
def wpAnyX(rr:Option Nat)(P:Program)(ops:Array Oper)(Q:Exit->Act->World->Prop):Nat->Array Bool->Act->World->Prop
 |0,listed,a,w=>Region.ready .any ops listed=[]/\Q .normal a w
 |fuel+1,listed,a,w=>(Region.ready .any ops listed=[]->Q .normal a w)/\∀i∈Region.ready .any ops listed,wpOpX rr P ops Q i (wpAnyX rr P ops Q fuel (listed.setIfInBounds i true)) a w
theorem wpOpX_re{i:Nat}{K:Act->World->Prop}(hK:∀a w τ d,K a w->K a (re w τ d)){a:Act}{w:World}(h:wpOpX rr P ops Q i K a w)(τ:Tape)(d:Nat):wpOpX rr P ops Q i K a (re w τ d):=by
 unfold wpOpX at *;split
 ·rename_i h0;rw[h0]at h;exact hK _ _ _ _ h
 ·rename_i o ho;rw[ho]at h;dsimp only at h;split
  ·rename_i hw;rw[if_pos hw]at h;exact λτ' d'=>h τ' d'
  ·rename_i hw;rw[if_neg hw]at h;exact hK _ _ _ _ h
theorem wpAnyX_re(hQ:∀a w τ d,Q .normal a w->Q .normal a (re w τ d)):∀(fuel:Nat)(listed:Array Bool)(a:Act)(w:World)(τ:Tape)(d:Nat),wpAnyX rr P ops Q fuel listed a w->wpAnyX rr P ops Q fuel listed a (re w τ d)
 |0,listed,a,w,τ,d,h=>⟨h.1,hQ _ _ _ _ h.2⟩
 |fuel+1,listed,a,w,τ,d,h=>⟨λe=>hQ _ _ _ _ (h.1 e),λi hi=>wpOpX_re (λa w τ d hk=>wpAnyX_re hQ fuel _ a w τ d hk) (h.2 i hi) τ d⟩
theorem wpAnyX_sound:∀(fuel t:Nat)(listed:Array Bool)(a:Act)(w:World),wpAnyX rr P ops Q fuel listed a w->wpOpsX rr P ops Q (Region.linearise.go .any ops fuel t listed []) a w
 |0,t,listed,a,w,h=>by simpa[Region.linearise.go,wpOpsX]using h.2
 |fuel+1,t,listed,a,w,h=>by
  simp only[Region.linearise.go];change wpOpsX rr P ops Q (match(Region.ready .any ops listed)[t%(Region.ready .any ops listed).length]? with
   |some i=>Region.linearise.go .any ops fuel (t/(Region.ready .any ops listed).length) (listed.setIfInBounds i true) [i]
   |none=>[].reverse) a w
  cases hi:(Region.ready .any ops listed)[t%(Region.ready .any ops listed).length]? with
  |none=>
   have hnil:Region.ready .any ops listed=[]:=by
    rcases hl:(Region.ready .any ops listed).length with _|n
    ·exact List.length_eq_zero_iff.1 hl
    ·have h1:t%(Region.ready .any ops listed).length<(Region.ready .any ops listed).length:=Nat.mod_lt _ (by omega);rw[List.getElem?_eq_none_iff]at hi;omega
   exact h.1 hnil
  |some i=>
   simp only[];rw[linearise_go_acc,List.reverse_singleton,List.singleton_append,wpOpsX_cons];exact wpOpX_mono (λa w=>wpAnyX_sound fuel _ _ a w) (h.2 i (List.mem_of_getElem? hi))
theorem wpX_region_any{id:Nat}(hm:P.follows .mixedOrders=true)(h:wpAnyX rr P ops Q ops.size (Array.replicate ops.size false) a w):(Code.region id ops true).wpX rr P Q a w:=
 wpX_region_draw λt=>by
  simp only[Region.schedule,hm,Bool.true_or,if_true];exact wpAnyX_sound ops.size t _ a _ h
def RunsD(P:Program)(e:Deferred)(w:World)(K:World->Prop):Prop:=
 ∀(T:Frame->List Frame->World->Prop)(fr:Frame)(cs:List Frame),fr.mode=.returning->(∀w',K w'->Way P T fr cs w')->Way P T { fr with defers:=e::fr.defers } cs w
def LeavesX(P:Program)(fn:Func)(tmps:Array Value)(R:Ending->World->Prop):List Deferred->World->Prop
 |[],w=>∀τ d,∃v w',(results fn tmps).run P (re w τ d)=.ok v w'/\R (.returned v) w'
 |e::ds,w=>(∃r,e.target=.collected r/\∀τ d,∃w',(Instr.takeDeferred r).run P (re w τ d)=.ok [] w'/\LeavesX P fn tmps R ds w')\/RunsD P e w λw'=>LeavesX P fn tmps R ds w'
theorem run_leaves{fn:Func}{R:Ending->World->Prop}{c:Frame}:∀(ds:List Deferred)(fr:Frame)(w:World),fr.mode=.returning->fr.defers=ds->fr.kind=.normal->P.funcs[fr.fn]?=some fn->calm c->LeavesX P fn fr.tmps R ds w ->
  (∀v w',R (.returned v) w'->Way P T (c.finish v) cs w')->Way P T fr (c::cs) w
 |[],fr,w,hm,hd,hk,hf,hc,h,hq=>.mkB (entryOk_ret hm) λτ d=>by
  obtain⟨v,w',hr,hR⟩:=h τ d;exact⟨_,_,_,by simp[G,stepG,unwind,doReturn,hm,hd,hk,hf,hr,Sem.runT_eq],calm_finish hc v,hq v w' hR⟩
 |e::ds,fr,w,hm,hd,hk,hf,hc,.inr h,hq=>by
  have:=h T { fr with defers:=ds } (c::cs) hm λw' hw=>run_leaves ds { fr with defers:=ds } w' hm rfl hk hf hc hw hq;have e2:({ { fr with defers:=ds }with defers:=e::({ fr with defers:=ds }:Frame).defers }:Frame)=fr:=by cases fr;simp only at hd;subst hd;rfl
  rwa[e2]at this
 |⟨t,as⟩::ds,fr,w,hm,hd,hk,hf,hc,.inl ⟨r,ht,h⟩,hq=>.mkB (entryOk_ret hm) λτ d=>by
  obtain⟨w',hr,hL⟩:=h τ d;simp only at ht;subst ht;exact⟨{ fr with defers:=[]++ds },c::cs,w',by simp[G,stepG,unwind,hm,hd,Sem.runT_eq,hr],.inr hm,run_leaves ds _ w' hm rfl hk hf hc hL hq⟩
def bodyPostX(P:Program)(fn:Func)(R:Ending->World->Prop):Exit->Act->World->Prop
 |.normal,a,w | .ret,a,w=>LeavesX P fn a.tmps R a.defers w
 |_,_,_=>False
theorem callsX_of_wp_marks{f:FuncId}{fn:Func}{c:Code}{args:Array Value}{R:Ending->World->Prop}(hf:P.funcs[f]?=some fn)(hb:fn.body=some c)(hs:badC P c=false)
  (h:c.wpX none P (bodyPostX P fn R) { tmps:=args++Array.replicate (fn.ntmps-args.size) undef,defers:=[] } w):CallsX P f args w R:=by
 intro T c0 cs hc hq;let b:Frame:={ (default:Frame)with fn:=f,kind:=.normal,roundOf:=none };have henter:Frame.enter P f args .normal=b.atR { tmps:=args++Array.replicate (fn.ntmps-args.size) undef,defers:=[] } [.code c]:=by simp[Frame.enter,Frame.atR,hf,hb,b]
 rw[henter];have hsp:¬special P f:=by
  rintro⟨fn',c',e1,e2,e3⟩;rw[hf]at e1;cases e1;rw[hb]at e2;cases e2;rw[hs]at e3;cases e3
 refine h T b [] (c0::cs) rfl rfl (λ_=>hsp) λe a' w' hh=>?_;cases e with
 |normal=>exact .pure (λ_=>gx_end rfl) (entryOk_atR λ_=>hsp) (run_leaves a'.defers _ w' rfl rfl rfl hf hc hh hq)
 |ret=>exact λtodo=>.pure (λ_=>gx_ret rfl) (entryOk_atR λ_=>hsp) (run_leaves a'.defers _ w' rfl rfl rfl hf hc hh hq)
 |_=>exact hh.elim
def BodyX(P:Program)(f:FuncId)(args:Array Value)(w:World)(R:Ending->World->Prop):Prop:=
 ∃fn c,P.funcs[f]?=some fn/\fn.body=some c/\badC P c=false/\c.wpX none P (bodyPostX P fn R) { tmps:=args++Array.replicate (fn.ntmps-args.size) undef,defers:=[] } w
theorem BodyX.calls{f:FuncId}{args:Array Value}{R:Ending->World->Prop}(h:BodyX P f args w R):CallsX P f args w R:=by
 obtain⟨fn,c,hf,hb,hs,h⟩:=h;exact callsX_of_wp_marks hf hb hs h
theorem way_steps(hs:∀f args w Q,¬Sp.spec f args w Q)(hl:∀f L,¬Sp.libs f L)(h:Way P T fr cs w):∃fr' cs' w',Steps P (lone fr cs w) (lone fr' cs' w')/\T fr' cs' w':=by
 induction h with
 |@done fr cs w h=>
  have:=h w.tape w.drawn;rw[re_self]at this;exact⟨_,_,_,Steps.refl _ _,this⟩
 |@step fr cs w a b c e _ h _ _ ih=>
  have h1:=h w.tape w.drawn;rw[re_self]at h1;obtain⟨fr',cs',w',h2,h3⟩:=ih w.tape w.drawn;exact⟨fr',cs',w',Steps.head (step_lone_go ((congrArg GStep.bare h1).trans rfl)) h2,h3⟩
 |spec _ h _ _=>exact absurd (h (λ_ _=>0) 0) (hs _ _ _ _)
 |lib h _ _ _ _ _ _=>exact absurd h (hl _ _)
theorem leaves_way{fn:Func}{R:Ending->World->Prop}{t0:Tmp}(hr:fn.results=#[.tmp t0])(hT:∀fr w v,R (.returned v) w->fr.leaving P w (.returned v)->fr.fn=b.fn->T fr cs w):∀(ds:List Deferred)(fr:Frame)(w:World),fr.fn=b.fn->fr.mode=.returning->fr.defers=ds->fr.kind=.normal->P.funcs[fr.fn]?=some fn->LeavesX P fn fr.tmps R ds w->Way P T fr cs w
 |[],fr,w,hfn,hm,hd,hk,hf,h=>.done λτ d=>by
  obtain⟨v,w',h1,h2⟩:=h τ d;have h3:(results fn fr.tmps).run P (re w τ d)=.ok (fr.tmps.getD t0 undef) (re w τ d):=by simp[results,hr]
  rw[h3]at h1;injection h1 with h1 h1';subst h1;subst h1';exact hT fr _ _ h2 ⟨hm,hd,hk,fn,hf,h3⟩ hfn
 |e::ds,fr,w,hfn,hm,hd,hk,hf,.inr h=>by
  have:=h T { fr with defers:=ds } cs hm λw' hw=>leaves_way hr hT ds { fr with defers:=ds } w' hfn hm rfl hk hf hw;have e2:({ { fr with defers:=ds }with defers:=e::({ fr with defers:=ds }:Frame).defers }:Frame)=fr:=by cases fr;simp only at hd;subst hd;rfl
  rwa[e2]at this
 |⟨t,as⟩::ds,fr,w,hfn,hm,hd,hk,hf,.inl ⟨r,ht,h⟩=>.mkB (entryOk_ret hm) λτ d=>by
  obtain⟨w',hr',hL⟩:=h τ d;simp only at ht;subst ht;exact⟨{ fr with defers:=[]++ds },cs,w',by simp[G,stepG,unwind,hm,hd,Sem.runT_eq,hr'],.inr hm,leaves_way hr hT ds _ w' hfn hm rfl hk hf hL⟩
theorem BodyX.kit(hsp:∀f args w Q,¬Sp.spec f args w Q)(hlb:∀f L,¬Sp.libs f L){f:FuncId}{fn:Func}{args:Array Value}{R:Ending->World->Prop}{t0:Tmp}(hf:P.funcs[f]?=some fn)(hr:fn.results=#[.tmp t0])(h:BodyX P f args w R):Calls P f args w λe w'=>∃v,e=.returned v/\R (.returned v) w':=by
 obtain⟨fn',c,hf',hb,hs,h⟩:=h;rw[hf]at hf';cases hf';intro cs;let b:Frame:={ (default:Frame)with fn:=f,kind:=.normal,roundOf:=none };have henter:Frame.enter P f args .normal=b.atR { tmps:=args++Array.replicate (fn.ntmps-args.size) undef,defers:=[] } [.code c]:=by simp[Frame.enter,Frame.atR,hf,hb,b]
 have hsp':¬special P f:=by
  rintro⟨fn',c',e1,e2,e3⟩;rw[hf]at e1;cases e1;rw[hb]at e2;cases e2;rw[hs]at e3;cases e3
 let T:Frame->List Frame->World->Prop:=λfr cs' w'=>cs'=cs/\∃v,R (.returned v) w'/\fr.leaving P w' (.returned v)/\fr.fn=f;have way:Way P T (Frame.enter P f args .normal) cs w:=by
  rw[henter];refine h T b [] cs rfl rfl (λ_=>hsp') λe a' w' hh=>?_;have key:∀fr:Frame,fr.fn=f->fr.mode=.returning->fr.defers=a'.defers->fr.kind=.normal->fr.tmps=a'.tmps->LeavesX P fn a'.tmps R a'.defers w'->Way P T fr cs w':=λfr h1 h2 h3 h4 h5 h6=>
   leaves_way (b:=b) hr (λfr w v q1 q2 q3=>⟨rfl,v,q1,q2,q3⟩) a'.defers fr w' h1 h2 h3 h4 (by rw[h1];exact hf) (by rw[h5];exact h6)
  cases e with
  |normal=>exact .pure (λ_=>gx_end rfl) (entryOk_atR λ_=>hsp') (key _ rfl rfl rfl rfl rfl hh)
  |ret=>exact λtodo=>.pure (λ_=>gx_ret rfl) (entryOk_atR λ_=>hsp') (key _ rfl rfl rfl rfl rfl hh)
  |_=>exact hh.elim
 obtain⟨fr',cs',w',h1,rfl,v,h2,h3,h4⟩:=way_steps hsp hlb way;exact⟨.returned v,w',fr',⟨v,rfl,h2⟩,h1,h4,h3⟩
theorem gx_beginRound{l:Nat}{w':World}(hb:b.roundOf=some l)(hk:b.kind=.normal)(hr:(Instr.beginRound l).run P w=.ok () w'):
  ∃es,stepG P true (G (b.atR a (.beginRound::k)) cs) w=.go (G (b.atR a k) cs) w' es:=
 bare_go (by simp[G,stepG,stepG.exec,stepG.apply,Frame.atR,hb,Sem.runT_eq,hr,Result.andThen,Frame.finish])
def roundPostX(P:Program)(l:Nat)(R:Ending->World->Prop):Exit->Act->World->Prop
 |.normal,_,w=>∀τ d,∃v w',(Instr.endRound l none).run P (re w τ d)=.ok v w'/\R (.returned v) w'
 |.ret,_,w=>∀τ d,∃v w',(Instr.endRound l (some .ret)).run P (re w τ d)=.ok v w'/\R (.returned v) w'
 |.exit id,_,w=>∀τ d,∃v w',(Instr.endRound l (some (.exit id))).run P (re w τ d)=.ok v w'/\R (.returned v) w'
 |_,_,_=>False
theorem roundX_of_wpX{l:Nat}{f:FuncId}{tmps:Array Value}{assign body:Code}{R:Ending->World->Prop}
  (h:assign.wpX (some l) P (Exit.then (λa₁ w₁=>∀τ d,∃w₂,(Instr.beginRound l).run P (re w₁ τ d)=.ok () w₂/\body.wpX (some l) P (roundPostX P l R) a₁ w₂) (λ_ _ _=>False)) { tmps:=tmps,defers:=[] } w):RoundX P l f tmps assign body w R:=by
 intro T c0 cs hc hq;let b:Frame:={ (default:Frame)with fn:=f,kind:=.normal,roundOf:=some l };have hb0:Frame.round l f tmps assign body .normal=b.atR { tmps:=tmps,defers:=[] } [.code assign,.beginRound,.code body]:=by simp[Frame.round,Frame.atR,b]
 rw[hb0];have hsp:b.roundOf=none->¬special P b.fn:=λh=>by cases h
 refine h T b [.beginRound,.code body] (c0::cs) rfl rfl hsp λe a' w' hh=>?_;cases e with
 |normal=>
  refine .mk (entryOk_atR hsp) λτ d=>?_;obtain⟨w2,h1,h2⟩:=hh τ d;obtain⟨es,he⟩:=gx_beginRound (P:=P) (b:=b) (a:=a') (k:=[.code body]) (cs:=c0::cs) (l:=l) rfl rfl h1;refine⟨_,_,_,_,he,.inl rfl,h2 T b [] (c0::cs) rfl rfl hsp λe2 a2 w3 hq2=>?_⟩;have hend:∀(fr:Frame)(jump:Option Code),(∀w,stepG P true (G fr (c0::cs)) w=GStep.after (seen P fr.fn ((Instr.endRound l jump).runT P w #[]).2) (match((Instr.endRound l jump).runT P w #[]).1 with | .ok v w=>doReturn P true fr (c0::cs) none v w | .halt _ w=>.ended (.stuck "range over a function: no such loop" (fr.pos P)) w))->fr.kind=.normal->entryOk P fr ->
    (∀τ d,∃v w',(Instr.endRound l jump).run P (re w3 τ d)=.ok v w'/\R (.returned v) w')->Way P T fr (c0::cs) w3:=by
   intro fr jump hs hk he hr;refine .mkB he λτ d=>?_;obtain⟨v,w',g1,g2⟩:=hr τ d;refine⟨_,_,_,?_,calm_finish hc v,hq v w' g2⟩;rw[hs,GStep.bare_after,Sem.runT_eq,g1];simp[doReturn,hk,G]
  cases e2 with
  |normal=>exact hend _ none (λw=>by simp[G,stepG,stepG.exec,Frame.atR,b];rfl) rfl (entryOk_atR hsp) hq2
  |ret=>exact λtodo=>hend _ (some .ret) (λw=>by simp[G,stepG,stepG.exec,Frame.atR,b];rfl) rfl (entryOk_atR hsp) hq2
  |exit id=>
   simp only[ArrX,exitTo];exact λtodo ht=>hend _ (some (.exit id)) (λw=>by simp[G,stepG,stepG.exec,Frame.atR,b,ht];rfl) rfl (entryOk_atR hsp) hq2
  |_=>exact hq2.elim
 |_=>exact hh.elim
def rangePostX(rr:Option Nat)(P:Program)(l:Nat)(Q:Exit->Act->World->Prop)(a':Act):Ending->World->Prop
 |.returned _,w₃=>∀τ d,∃jump w₄,(Instr.endLoop l).run P (re w₃ τ d)=.ok jump w₄ /\
   (match jump with
    |none=>Q .normal a' w₄
    |some c=>c.wpX rr P Q a' w₄)
 |_,_=>False
theorem wpX_rangeFunc{g:Operand}{ps:Array Tmp}{assign body:Code}
  (h:∀fn τ e,∃(l:Nat)(mark:List Deferred)(w₁:World)(d:Deferred)(w₁':World)(f:FuncId)(args:Array Value)(w₂:World),
   (Instr.enterLoop fn a.tmps ps assign body rr).run P (re w τ e)=.ok (l,mark) w₁/\(resolve a.eval (rangeCall g l) 0).run P w₁=.ok d w₁'/\(invoke d.target d.args).run P w₁'=.ok (.enter f args) w₂ /\
   CallsX P f args w₂ (rangePostX rr P l Q { a with defers:=mark++a.defers })):(Code.rangeFunc g ps assign body).wpX rr P Q a w:=by
 intro T b k cs h1 h2 hb hk;refine .mkB (entryOk_atR hb) λτ e=>?_;obtain⟨l,mark,w1,d,w1',f,args,w2,he,hres,hinv,hcall⟩:=h b.fn τ e;rw[←h1]at he;have hev:=Frame.eval_atR b { a with defers:=mark++a.defers } (.inRangeFunc l::k);simp only[Frame.atR]at hev;have hres':Sem.run P (resolve ({ tmps:=a.tmps,defers:=mark++a.defers }:Act).eval { callee:=.value g,args:=#[.const (.func (.yield l) #[] #[])],argTypes:=#[] } 0) w1=.ok d w1':=hres;refine⟨Frame.enter P f args .normal,b.atR { a with defers:=mark++a.defers } (.inRangeFunc l::k)::cs,w2,?_,enter_calm ..,?_⟩
 ·simp[G,stepG,stepG.exec,Frame.atR,Sem.runT_eq,he,stepG.apply,hev,Sem.run_bind,hres',hinv,Result.andThen]
 ·refine hcall T _ cs (.inl rfl) λv w3 hp=>?_;rw[finish_atR_inRangeFunc];refine .mkB (entryOk_atR hb) λτ d=>?_;obtain⟨jump,w4,hend,hj⟩:=hp τ d;refine⟨b.atR { a with defers:=mark++a.defers } ((jump.map Item.code).toList++k),cs,w4,?_,.inl rfl,?_⟩
  ·simp[G,stepG,stepG.exec,Frame.atR,Sem.runT_eq,hend]
  ·cases jump with
   |none=>exact hk _ _ _ hj
   |some c=>exact hj T b k cs h1 h2 hb hk
end
end
section
open Go Go.RowKit
variable[Sp]
inductive BoxC where
 |cells (l:List PV)
 |inv (I:List PV->Prop)
 |hole
def BoxC.sub1(e:Eff):BoxC->BoxC
 |.cells l=>.cells (l.map (PV.sub1 e))
 |.inv I=>.inv I
 |.hole=>.hole
def BRel(φ:Phi)(w:World):BoxC->List Value->Prop
 |.cells l,vs=>VRelL φ w l vs
 |.inv I,vs=>∃l,I l/\(∀e,subL1 e l=l)/\(∀n,cutbL n l=l)/\VRelL φ w l vs
 |.hole,_=>False
structure Mem where
 β:Nat->BoxC
 n:Nat
 an:Nat
 rc:List (Nat×Loop)
def AO(w:World)(b:Nat):Prop:=(∃cur e,w.heap[b]?=some (.cells cur e (0,0)))\/(∃es ck,w.heap[b]?=some (.map es ck))\/(∃m s x l,w.heap[b]?=some (.mapIter m s x l))\/∃s p,w.heap[b]?=some (.stringIter s p)
theorem AO.lt{w:World}{b:Nat}(h:AO w b):b<w.heap.size:=by rcases h with⟨_,_,h⟩|⟨_,_,h⟩|⟨_,_,_,_,h⟩|⟨_,_,h⟩<;>exact heap_lt h
theorem AO.of_eq{w w':World}{b:Nat}(h:AO w b)(e:w'.heap[b]?=w.heap[b]?):AO w' b:=by unfold AO at h⊢;rw[e];exact h
theorem AO.cells{w:World}{b:Nat}{cur:Array Value}{e:TypeId}(h:w.heap[b]?=some (.cells cur e (0,0))):AO w b:=.inl ⟨_,_,h⟩
theorem AO.noloop{w:World}{b:Nat}(h:AO w b)(o:Loop):w.heap[b]?≠some (.loop o):=by rcases h with⟨_,_,h⟩|⟨_,_,h⟩|⟨_,_,_,_,h⟩|⟨_,_,h⟩<;>(rw[h];intro k;cases k)
structure MRel(φ:Phi)(m:Mem)(w:World):Prop where
 box:∀i,i<m.n->(m.β i=.hole/\φ.box i=none)\/∃b cs e,φ.box i=some b/\w.heap[b]?=some (.cells cs e (0,0))/\BRel φ w (m.β i) cs.toList
 boxn:∀i,m.n<=i->φ.box i=none
 arr:∀i b,φ.arr i=some b->i<m.an/\AO w b
 boxinj:∀i j b,φ.box i=some b->φ.box j=some b->i=j
 arrinj:∀i j b,φ.arr i=some b->φ.arr j=some b->i=j
 sep:∀i j b,φ.box i=some b->φ.arr j=some b->False
 rcs:∀l o,(l,o)∈m.rc->w.heap[l]?=some (.loop o)
theorem MRel.cells{φ:Phi}{m:Mem}{w:World}(hm:MRel φ m w){i:Nat}(hi:i<m.n)(h:m.β i≠.hole):∃b cs e,φ.box i=some b/\w.heap[b]?=some (.cells cs e (0,0))/\BRel φ w (m.β i) cs.toList:=
 (hm.box i hi).resolve_left λk=>h k.1
theorem MRel.has{φ:Phi}{m:Mem}{w:World}(hm:MRel φ m w){i b:Nat}(h:φ.box i=some b):∃cs e,w.heap[b]?=some (.cells cs e (0,0))/\BRel φ w (m.β i) cs.toList/\i<m.n:=by
 have hi:i<m.n:=Nat.lt_of_not_le λhle=>by rw[hm.boxn i hle]at h;cases h
 rcases hm.box i hi with⟨_,hn⟩|⟨b',cs,e,hb,h1,h2⟩
 ·rw[hn]at h;cases h
 ·rw[h]at hb;have:=Option.some.inj hb;subst this;exact⟨cs,e,h1,h2,hi⟩
def NoLoop(w:World)(b:Nat):Prop:=∀o,w.heap[b]?≠some (.loop o)
structure Step(φ:Phi)(w:World)(φ':Phi)(w':World)(E:List Eff):Prop where
 tr:∀q c,VRel φ w q c->VRel φ' w' (q.sub E) c
 os:w'.os=w.os
 output:w'.output=w.output
 size:w.heap.size<=w'.heap.size
 rest:∀b,b<w.heap.size->¬φ.own b->NoLoop w b->w'.heap[b]?=w.heap[b]?/\¬φ'.own b
theorem Step.refl(φ:Phi)(w:World):Step φ w φ w []:=⟨λ_ _ h=>h,rfl,rfl,Nat.le_refl _,λ_ _ h _=>⟨rfl,h⟩⟩
theorem Step.trans{φ φ1 φ2:Phi}{w w1 w2:World}{E F:List Eff}(h:Step φ w φ1 w1 E)(k:Step φ1 w1 φ2 w2 F):Step φ w φ2 w2 (E++F):=
 ⟨λq c hq=>by rw[PV.sub_append];exact k.tr _ _ (h.tr q c hq),k.os.trans h.os,k.output.trans h.output,Nat.le_trans h.size k.size,
  λb hb ho hl=>by
  obtain⟨h1,h2⟩:=h.rest b hb ho hl;obtain⟨k1,k2⟩:=k.rest b (Nat.lt_of_lt_of_le hb h.size) h2 (λo=>by rw[h1];exact hl o);exact⟨k1.trans h1,k2⟩⟩
def ECalls(P:Program)(f:FuncId)(args:List PV)(m:Mem)(Q:PV->List Eff->Mem->Prop):Prop:=
 ∀φ vs w,MRel φ m w->VRelL φ w args vs ->
  CallsX P f vs.toArray w λe w'=>∃v pv E m' φ',e=.returned v/\VRel φ' w' pv v/\MRel φ' m' w'/\Step φ w φ' w' E/\Q pv E m'
theorem ECalls.mono{P:Program}{f:FuncId}{args:List PV}{m:Mem}{Q Q':PV->List Eff->Mem->Prop}(h:ECalls P f args m Q)(hq:∀pv E m',Q pv E m'->Q' pv E m'):ECalls P f args m Q':=
 λφ vs w hm hv=>(h φ vs w hm hv).mono λ_ _ ⟨v,pv,E,m',φ',h1,h2,h3,h4,h5⟩=>⟨v,pv,E,m',φ',h1,h2,h3,h4,hq _ _ _ h5⟩
structure YRec where
 l:Nat
 o:Loop
 g:Nat->PV
def ReadY(ys:List YRec)(φ:Phi)(w:World):Prop:=∀y∈ys,∀t,VRel φ w (y.g t) (y.o.tmps.getD t undef)
def ECallsY(P:Program)(ys:List YRec)(f:FuncId)(args:List PV)(m:Mem)(Q:PV->List Eff->Mem->Prop):Prop:=
 ∀φ vs w,MRel φ m w->VRelL φ w args vs->ReadY ys φ w ->
  CallsX P f vs.toArray w λe w'=>∃v pv E m' φ',e=.returned v/\VRel φ' w' pv v/\MRel φ' m' w'/\Step φ w φ' w' E/\Q pv E m'
theorem ECallsY.mono{P:Program}{ys:List YRec}{f:FuncId}{args:List PV}{m:Mem}{Q Q':PV->List Eff->Mem->Prop}(h:ECallsY P ys f args m Q)(hq:∀pv E m',Q pv E m'->Q' pv E m'):ECallsY P ys f args m Q':=
 λφ vs w hm hv hy=>(h φ vs w hm hv hy).mono λ_ _ ⟨v,pv,E,m',φ',h1,h2,h3,h4,h5⟩=>⟨v,pv,E,m',φ',h1,h2,h3,h4,hq _ _ _ h5⟩
theorem ECalls.y{P:Program}{ys:List YRec}{f:FuncId}{args:List PV}{m:Mem}{Q:PV->List Eff->Mem->Prop}(h:ECalls P f args m Q):ECallsY P ys f args m Q:=λφ vs w hm hv _=>h φ vs w hm hv
def EYield(P:Program)(ys:List YRec)(o:Loop)(l:Nat)(args:List PV)(m:Mem)(Q:PV->List Eff->Mem->Prop):Prop:=
 ∀φ vs w (n:Nat),MRel φ m w->VRelL φ w args vs->ReadY ys φ w ->
  RoundX P l o.fn ((o.params.zip vs.toArray).foldl (λtmps (t,a)=>tmps.setIfInBounds t a) o.tmps) o.assign o.body w λe w'=>∃v pv E m' φ',e=.returned v/\VRel φ' w' pv v/\MRel φ' m' w'/\Step φ w φ' w' E/\Q pv E m'
theorem EYield.mono{P:Program}{ys:List YRec}{o:Loop}{l:Nat}{args:List PV}{m:Mem}{Q Q':PV->List Eff->Mem->Prop}(h:EYield P ys o l args m Q)(hq:∀pv E m',Q pv E m'->Q' pv E m'):EYield P ys o l args m Q':=
 λφ vs w n hm hv hy=>(h φ vs w n hm hv hy).mono λ_ _ ⟨v,pv,E,m',φ',h1,h2,h3,h4,h5⟩=>⟨v,pv,E,m',φ',h1,h2,h3,h4,hq _ _ _ h5⟩
structure Ent where
 a:Nat
 n:Nat
 ys:List YRec
structure St where
 g:Nat->PV
 m:Mem
 a0:Ent
 eff:List Eff
def dropNew(a0:Nat):List Eff->List Eff
 |[]=>[]
 |e::es=>if a0<=e.id then dropNew a0 es else e::es
@[simp]theorem dropNew_nil(a0:Nat):dropNew a0 []=[]:=rfl
def St.nowYof(s:St)(ys:List YRec):List YRec:=ys.map λy=>{ y with g:=λt=>(y.g t).sub s.eff }
def St.nowY(s:St):List YRec:=s.nowYof s.a0.ys
def addEff(a0:Nat)(eff E:List Eff):List Eff:=match eff with
 |[]=>dropNew a0 E
 |_::_=>eff++E
@[simp]theorem addEff_nil(a0:Nat)(E:List Eff):addEff a0 [] E=dropNew a0 E:=rfl
def St.put(s:St)(d:Option Tmp)(v:PV):St:=match d with
 |some d=>{ s with g:=λt=>if t=d then v else s.g t }
 |none=>s
def BoxC.sub(E:List Eff)(c:BoxC):BoxC:=E.foldl (λc e=>c.sub1 e) c
@[simp]theorem BoxC.sub_nil(c:BoxC):BoxC.sub [] c=c:=rfl
def St.hit(s:St)(E:List Eff):St:={ s with g:=λt=>(s.g t).sub E,m:={ s.m with β:=λi=>(s.m.β i).sub E },eff:=addEff s.a0.a s.eff E }
def St.after(s:St)(E:List Eff)(m':Mem):St:={ s with g:=λt=>(s.g t).sub E,m:=m',eff:=addEff s.a0.a s.eff E }
def updB(β:Nat->BoxC)(i:Nat)(c:BoxC):Nat->BoxC:=λj=>if j=i then c else β j
def St.newBox(s:St)(d:Option Tmp)(l:List PV):St:=
 { s with m:={ s.m with β:=updB s.m.β s.m.n (.cells l),n:=s.m.n+1 } }.put d (.ptr s.m.n 0)
def St.newHd(s:St)(d:Option Tmp)(sz len:Nat)(l:List PV):St:=
 { s with m:={ s.m with β:=updB s.m.β s.m.n (.cells l),n:=s.m.n+1 } }.put d (.hd s.m.n sz len)
def St.setBox(s:St)(i:Nat)(l:List PV):St:={ s with m:={ s.m with β:=updB s.m.β i (.cells l) } }
def St.newArr(s:St)(d:Option Tmp)(sz len:Nat)(cs:List PV):St:=
 { s with m:={ s.m with an:=s.m.an+1 } }.put d (.sl (some s.m.an) sz 0 len cs)
section
variable(s:St)(d t:Nat)(v:PV)(E:List Eff)(m':Mem)(i:Nat)(l:List PV)(sz len:Nat)(o:Option Tmp)
@[simp]theorem St.put_g:(s.put (some d) v).g t=if t=d then v else s.g t:=rfl
@[simp]theorem St.put_none:s.put none v=s:=rfl
@[simp]theorem St.put_m:(s.put o v).m=s.m:=by cases o<;>rfl
@[simp]theorem St.put_a0:(s.put o v).a0=s.a0:=by cases o<;>rfl
@[simp]theorem St.put_eff:(s.put o v).eff=s.eff:=by cases o<;>rfl
@[simp]theorem St.after_g:(s.after E m').g t=(s.g t).sub E:=rfl
@[simp]theorem St.after_m:(s.after E m').m=m':=rfl
@[simp]theorem St.after_a0:(s.after E m').a0=s.a0:=rfl
@[simp]theorem St.after_eff:(s.after E m').eff=addEff s.a0.a s.eff E:=rfl
@[simp]theorem St.hit_g:(s.hit E).g t=(s.g t).sub E:=rfl
@[simp]theorem St.hit_β:(s.hit E).m.β i=(s.m.β i).sub E:=rfl
@[simp]theorem St.hit_n:(s.hit E).m.n=s.m.n:=rfl
@[simp]theorem St.hit_an:(s.hit E).m.an=s.m.an:=rfl
@[simp]theorem St.hit_a0:(s.hit E).a0=s.a0:=rfl
@[simp]theorem St.hit_eff:(s.hit E).eff=addEff s.a0.a s.eff E:=rfl
@[simp]theorem St.newBox_g:(s.newBox (some d) l).g t=if t=d then .ptr s.m.n 0 else s.g t:=rfl
@[simp]theorem St.newBox_m:(s.newBox o l).m=⟨updB s.m.β s.m.n (.cells l),s.m.n+1,s.m.an,s.m.rc⟩:=by cases o<;>rfl
@[simp]theorem St.newBox_a0:(s.newBox o l).a0=s.a0:=by cases o<;>rfl
@[simp]theorem St.newBox_eff:(s.newBox o l).eff=s.eff:=by cases o<;>rfl
@[simp]theorem St.newHd_m:(s.newHd o sz len l).m=⟨updB s.m.β s.m.n (.cells l),s.m.n+1,s.m.an,s.m.rc⟩:=by cases o<;>rfl
@[simp]theorem St.newHd_a0:(s.newHd o sz len l).a0=s.a0:=by cases o<;>rfl
@[simp]theorem St.newHd_eff:(s.newHd o sz len l).eff=s.eff:=by cases o<;>rfl
@[simp]theorem St.setBox_g:(s.setBox i l).g t=s.g t:=rfl
@[simp]theorem St.setBox_m:(s.setBox i l).m=⟨updB s.m.β i (.cells l),s.m.n,s.m.an,s.m.rc⟩:=rfl
@[simp]theorem St.setBox_a0:(s.setBox i l).a0=s.a0:=rfl
@[simp]theorem St.setBox_eff:(s.setBox i l).eff=s.eff:=rfl
@[simp]theorem St.newArr_g:(s.newArr (some d) sz len l).g t=if t=d then .sl (some s.m.an) sz 0 len l else s.g t:=rfl
@[simp]theorem St.newArr_m:(s.newArr o sz len l).m=⟨s.m.β,s.m.n,s.m.an+1,s.m.rc⟩:=by cases o<;>rfl
@[simp]theorem St.newArr_a0:(s.newArr o sz len l).a0=s.a0:=by cases o<;>rfl
@[simp]theorem St.newArr_eff:(s.newArr o sz len l).eff=s.eff:=by cases o<;>rfl
@[simp]theorem updB_same(β:Nat->BoxC)(c:BoxC):updB β i c i=c:=by simp[updB]
theorem updB_other(β:Nat->BoxC)(c:BoxC)(j:Nat)(h:j≠i):updB β i c j=β j:=by simp[updB,h]
end
def pvOf:Value->PV
 |.int k n=>.int k n
 |.bool b=>.bool b
 |.string s=>.str s
 |.pointer none=>.nilp
 |.nilFunc=>.nilfn
 |.slice none 0 0=>.snil
 |.tuple ⟨[]⟩=>.undef
 |_=>.bad
def PV.cells:PV->List PV
 |.agg cs=>cs
 |p=>[p]
def PV.known:PV->Bool
 |.bad=>false
 |_=>true
def PV.one:PV->Bool
 |.undef | .bad | .agg _ | .tup _=>false
 |_=>true
def St.ev(s:St):Operand->PV
 |.tmp t=>s.g t
 |.const v=>pvOf v
 |.func f=>if f<fnB then .fn f []else .bad
 |.global _=>.bad
def aggT(P:Program)(t:TypeId):Option Bool:=match P.underlying t with
 |some (.struct _)|some (.array _ _)=>some true
 |some _=>some false
 |none=>none
def eqvT(P:Program)(t:TypeId)(x y:PV):Option Bool:=match P.underlying t,x,y with
 |some (.int _),.int k a,.int k' b=>if k=k' then some (decide (a=b))else none
 |some .bool,.bool a,.bool b=>some (a==b)
 |some .string,.str a,.str b=>some (a.toList==b.toList)
 |_,_,_=>none
def eqvF(P:Program):List Field->Nat->List PV->List PV->Option Bool
 |[],_,[],[]=>some true
 |f::fs,i,p::ps,q::qs=>if f.name ≠ "_" /\ f.offset=i then match eqvT P f.type p q,eqvF P fs (i+1) ps qs with
  |some a,some b=>some (a&&b)
  |_,_=>none
  else none
 |_,_,_,_=>none
def eqvS(P:Program)(t:TypeId)(xs ys:List PV):Option Bool:=match P.underlying t with
 |some (.struct fs)=>if P.stoodInHeld t=false/\P.eqGuardType P.depth t=false then eqvF P fs.toList 0 xs ys else none
 |_=>none
def aStr(op:BinOp)(a b:ByteArray):Option PV:=match op with
 |.add=>if a.size+b.size<=9223372036854775807 then some (.str (a++b))else none
 |.eql=>some (.bool (a.toList==b.toList))
 |.neq=>some (.bool !(a.toList==b.toList))
 |.lss=>some (.bool (Op.bytesLess a.toList b.toList))
 |.leq=>some (.bool (Op.bytesLess a.toList b.toList||a.toList==b.toList))
 |.gtr=>some (.bool !(Op.bytesLess a.toList b.toList||a.toList==b.toList))
 |.geq=>some (.bool !(Op.bytesLess a.toList b.toList))
 |_=>none
def aBin(P:Program)(op:BinOp)(t:TypeId)(x y:PV):Option PV:=
 match x,y with
 |.int k a,.int k' b=>match op with
  |.shl=>if 0<=b then some (.int k (k.wrap (a*2^min b.toNat k.bits)))else none
  |.shr=>if 0<=b then some (.int k (a.fdiv (2^min b.toNat k.bits)))else none
  |_=>if k=k' then match op with
   |.add=>some (.int k (k.wrap (a+b)))
   |.sub=>some (.int k (k.wrap (a-b)))
   |.mul=>some (.int k (k.wrap (a*b)))
   |.quo=>if b=0 then none else some (.int k (k.wrap (a.tdiv b)))
   |.rem=>if b=0 then none else some (.int k (a.tmod b))
   |.and | .or | .xor | .andNot=>some (.int k (bits op k a b))
   |.eql=>some (.bool (decide (a=b)))
   |.neq=>some (.bool (decide (a≠b)))
   |.lss=>some (.bool (decide (a<b)))
   |.leq=>some (.bool (decide (a<=b)))
   |.gtr=>some (.bool (decide (b<a)))
   |.geq=>some (.bool (decide (b<=a)))
   |_=>none
   else none
 |.bool a,.bool b=>match P.underlying t,op with
  |some .bool,.eql=>some (.bool (a==b))
  |some .bool,.neq=>some (.bool (a != b))
  |_,_=>none
 |.agg xs,.agg ys=>match op,eqvS P t xs ys with
  |.eql,some b=>some (.bool b)
  |.neq,some b=>some (.bool !b)
  |_,_=>none
 |.snil,.snil=>match P.underlying t,op with
  |some (.slice _),.eql=>some (.bool true)
  |some (.slice _),.neq=>some (.bool false)
  |_,_=>none
 |.sl _ _ _ _ _,.snil=>match P.underlying t,op with
  |some (.slice _),.eql=>some (.bool false)
  |some (.slice _),.neq=>some (.bool true)
  |_,_=>none
 |.str a,.str b=>aStr op a b
 |_,_=>none
def aUn(op:UnOp)(x:PV):Option PV:=match op,x with
 |.not,.bool b=>some (.bool !b)
 |.neg,.int k n=>some (.int k (k.wrap (0-n)))
 |_,_=>none
def aConv(P:Program)(src dst:TypeId)(x:PV):Option PV:=match P.underlying src,P.underlying dst,x with
 |some _,some (.int k),.int _ n=>some (.int k (k.wrap n))
 |_,_,_=>none
def aFieldV(P:Program)(t:TypeId)(x:PV)(f:Nat):Option PV:=match P.underlying t with
 |some (.struct fs)=>match fs[f]? with
  |some fd=>match aggT P fd.type,x with
   |some false,.agg cs=>cs[fd.offset]?
   |_,_=>none
  |none=>none
 |_=>none
def aField(P:Program)(t:TypeId)(x:PV)(f:Nat):Option PV:=match P.underlying t with
 |some (.struct fs)=>match fs[f]? with
  |some fd=>if P.cellsOf fd.type=0\/(P.info? fd.type).isNone then none else match x with
   |.ptr id off=>some (.ptr id (off+fd.offset))
   |.eref id off cs=>some (.eref id (off+fd.offset) (cs.drop fd.offset))
   |_=>none
  |none=>none
 |_=>none
def aIndexAddr(P:Program)(t:TypeId)(x i:PV):Option PV:=match P.underlying t,x,i with
 |some (.slice e),.sl id sz off len cs,.int _ n=>
  if 0<=n/\n<(len:Int)/\P.cellsOf e=sz/\(P.info? e).isSome then some (.eref id (off+n.toNat*sz) (cs.drop (n.toNat*sz)))else none
 |some (.array len e),.ptr id off,.int _ n=>if 0<=n/\n<(len:Int)/\(P.info? e).isSome then some (.ptr id (off+n.toNat*P.cellsOf e))else none
 |some (.slice e),.hd id sz len,.int _ n=>if 0<=n/\n<(len:Int)/\P.cellsOf e=sz/\(P.info? e).isSome then some (.ptr id (n.toNat*sz))else none
 |_,_,_=>none
def aIndex(P:Program)(t:TypeId)(x i:PV):Option PV:=match P.underlying t,x,i with
 |some (.array len e),.agg cs,.int _ n=>
  if 0<=n/\n<(len:Int)/\(P.info? e).isSome/\aggT P e=some false/\P.cellsOf e=1 then cs[n.toNat]? else none
 |some .string,.str s,.int _ n=>if 0<=n then(s[n.toNat]?).map (λb=>.int .u8 (b.toNat:Int))else none
 |_,_,_=>none
def aSrc(m:Mem)(x:PV):Option (List PV):=match x with
 |.ptr id off=>if id<m.n then match m.β id with
  |.cells l=>some (l.drop off)
  |.inv _=>none
  |.hole=>none
  else none
 |.eref _ _ cs=>some cs
 |_=>none
def aLoad(P:Program)(m:Mem)(t:TypeId)(x:PV):Option PV:=match aSrc m x,aggT P t with
 |some cs,some true=>if P.cellsOf t<=cs.length/\(P.info? t).isSome then some (.agg (cs.take (P.cellsOf t)))else none
 |some (c::_),some false=>some c
 |_,_=>none
def wrs(id off:Nat):List PV->List Eff
 |[]=>[]
 |v::vs=>.wr id off v::wrs id (off+1) vs
def splice(l:List PV)(off:Nat)(vs:List PV):List PV:=l.take off++vs++l.drop (off+vs.length)
def noId(id:Nat)(v:PV):Prop:=v.sub1 (.kill id)=v
def aStore(P:Program)(s:St)(t:TypeId)(x v:PV)(K:St->Prop):Prop:=match x with
 |.ptr id off=>id<s.m.n/\(P.info? t).isSome/\v.cells.length=P.cellsOf t/\v.cells.all PV.one=true/\∃l,s.m.β id=.cells l/\off+v.cells.length<=l.length/\K (s.setBox id (splice l off v.cells))
 |.eref (some id) off cs=>(P.info? t).isSome/\0<P.cellsOf t/\v.cells.length=P.cellsOf t/\v.cells.all PV.one=true/\v.cells.length<=cs.length/\(∀c∈v.cells,noId id c)/\K (s.hit (wrs id off v.cells))
 |_=>False
def zeroOf(P:Program)(t:TypeId):Option Value:=(P.info? t).bind (·.zero)
def zeroCs(P:Program)(t:TypeId):Option (List PV):=(zeroOf P t).map λz=>z.cells.toList.map pvOf
def aFill(place:Nat->Option (Nat×Nat))(cells:List PV):List (Nat×PV)->Option (List PV)
 |[]=>some cells
 |(i,v)::rest=>match place i with
  |none=>none
  |some (off,size)=>if v.known=true/\v.cells.length=size/\off+size<=cells.length then aFill place (splice cells off v.cells) rest else none
def fieldPlaceOf(P:Program)(fs:Array Field)(i:Nat):Option (Nat×Nat):=(fs[i]?).map λf=>(f.offset,P.cellsOf f.type)
def aBuild(P:Program)(t:TypeId)(parts:List (Nat×PV)):Option PV:=match P.underlying t,zeroCs P t with
 |some (.struct fs),some z=>if fs.toList.all (λf=>(P.info? f.type).isSome)then(aFill (fieldPlaceOf P fs) z parts).map .agg else none
 |some (.array _ e),some z=>if(P.info? e).isSome then(aFill (λi=>some (i*P.cellsOf e,P.cellsOf e)) z parts).map .agg else none
 |_,_=>none
def repl(z:List PV):Nat->List PV
 |0=>[]
 |n+1=>z++repl z n
def aLen(P:Program)(t:TypeId)(x:PV):Option PV:=match P.underlying t,x with
 |some (.slice _),.sl _ _ _ len _=>some (.int .i64 len)
 |some (.slice _),.snil=>some (.int .i64 0)
 |some (.slice _),.dead len=>some (.int .i64 len)
 |some (.slice _),.hd _ _ len=>some (.int .i64 len)
 |some .string,.str s=>some (.int .i64 s.size)
 |some (.array n _),_=>some (.int .i64 n)
 |_,_=>none
@[simp]def intsK(k:IntKind):List PV->Option (List Int)
 |[]=>some []
 |.int k' n::l=>if k=k' then(intsK k l).map (n::·)else none
 |_::_=>none
def aMin(l:List PV):Option PV:=match l with
 |.int k a::r=>(intsK k r).map λns=>.int k (ns.foldl (λa b=>if b<a then b else a) a)
 |_=>none
def aMax(l:List PV):Option PV:=match l with
 |.int k a::r=>(intsK k r).map λns=>.int k (ns.foldl (λa b=>if a<b then b else a) a)
 |_=>none
def aTail(sz:Nat)(x:PV):Option (Nat×List PV):=match x with
 |.snil=>some (0,[])
 |.sl _ sz' _ len cs=>if sz'=sz\/len=0 then some (len,cs)else none
 |_=>none
def aAppend(P:Program)(s:St)(d:Option Tmp)(t:TypeId)(x y:PV)(K:St->Prop):Prop:=match P.underlying t with
 |some (.slice e)=>(P.info? e).isSome/\0<P.cellsOf e/\(zeroOf P e).any (λz=>z.cells.size=P.cellsOf e)=true /\
  match aTail (P.cellsOf e) y with
  |some (m,news)=>news.all PV.one=true/\match x with
   |.snil=>m*P.bytesOf e<=140737488355328/\m<=9223372036854775807/\K (if m=0 then s.put d .snil else s.newArr d (P.cellsOf e) m news)
   |.sl (some id) sz off len cs=>sz=P.cellsOf e/\off=0/\(len+m)*P.bytesOf e<=140737488355328/\len+m<=9223372036854775807/\(∀c∈cs++news,noId id c) /\
     K ((s.hit [.kill id]).put d (.sl (some id) sz 0 (len+m) (cs++news)))
   |_=>False
  |none=>False
 |_=>False
def aBnd(d:Nat):Option PV->Option Nat
 |none=>some d
 |some (.int _ n)=>if 0<=n then some n.toNat else none
 |_=>none
def aSlice(P:Program)(t:TypeId)(x:PV)(lo hi:Option PV):Option PV:=match P.underlying t,x with
 |some (.slice e),.sl id sz off len cs=>match aBnd 0 lo,aBnd len hi with
  |some l,some h=>if l<=h/\h<=len/\P.cellsOf e=sz/\(P.info? e).isSome then
    (if l=h then some (.sl none sz 0 0 [])else some (.sl id sz (off+l*sz) (h-l) ((cs.drop (l*sz)).take ((h-l)*sz))))else none
  |_,_=>none
 |some (.slice e),.snil=>match aBnd 0 lo,aBnd 0 hi with
  |some l,some h=>if l=0/\h=0/\(P.info? e).isSome then some .snil else none
  |_,_=>none
 |some .string,.str s=>match aBnd 0 lo,aBnd s.size hi with
  |some l,some h=>if l<=h/\h<=s.size then some (.str (s.extract l h))else none
  |_,_=>none
 |_,_=>none
end
section
open Go Go.RowKit
variable[Sp]
def scB:PV->PV->Bool
 |.int k a,.int k' b=>decide (k=k')&&decide (a=b)
 |.bool a,.bool b=>a==b
 |_,_=>false
def scLB:List PV->List PV->Bool
 |[],[]=>true
 |x::xs,y::ys=>scB x y&&scLB xs ys
 |_,_=>false
def chunk(sz:Nat)(cs:List PV)(i:Nat):List PV:=(cs.drop (i*sz)).take sz
def dropK(sz:Nat)(cs:List PV)(i:Nat):List PV:=cs.take (i*sz)++cs.drop ((i+1)*sz)
def hasC(sz:Nat)(cs key:List PV):Bool:=(List.range (cs.length/sz)).any λi=>scLB (chunk sz cs i) key
def insC(sz:Nat)(cs key:List PV):List PV:=if hasC sz cs key=true then cs else cs++key
def fitKey(P:Program)(kt:TypeId)(key:List PV):Bool:=match keyVal key with
 |some v=>(keyOf P kt v).isSome
 |none=>false
def fitKeys(P:Program)(kt:TypeId)(sz:Nat)(cs:List PV):Bool:=(List.range (cs.length/sz)).all λi=>fitKey P kt (chunk sz cs i)
def keyCs(sc:Bool)(k:PV):Option (List PV):=if sc=true then some [k]else match k with
 |.agg l=>some l
 |_=>none
def tabGet(sz:Nat)(k:List PV):Nat->List PV->Option PV
 |0,_=>none
 |n+1,cs=>if scLB (cs.take (sz-1)) k=true then(cs.drop (sz-1)).head? else tabGet sz k n (cs.drop sz)
def tabSet(sz:Nat)(k:List PV)(v:PV):Nat->List PV->List PV
 |0,cs=>cs++(k++[v])
 |n+1,cs=>if scLB (cs.take (sz-1)) k=true then cs.take (sz-1)++v::cs.drop sz else cs.take sz++tabSet sz k v n (cs.drop sz)
def fitT(P:Program)(kt:TypeId)(sc:Bool)(key:List PV):Bool:=match tkey sc key with
 |some v=>(keyOf P kt v).isSome
 |none=>false
def fitRows(P:Program)(kt:TypeId)(sc:Bool)(sz:Nat):Nat->List PV->Bool
 |0,_=>true
 |n+1,cs=>fitT P kt sc (cs.take (sz-1))&&fitRows P kt sc sz n (cs.drop sz)
def aTabSet(P:Program)(t:TypeId)(sc:Bool)(sz:Nat)(cs:List PV)(k v:PV):Option (List PV):=match P.underlying t,keyCs sc k with
 |some (.map kt _),some kl=>if kl.length+1=sz/\fitT P kt sc kl=true/\fitRows P kt sc sz (cs.length/sz) cs=true/\(scal v).isSome=true then some (tabSet sz kl v (cs.length/sz) cs)else none
 |_,_=>none
def aTabGet(P:Program)(t:TypeId)(sc:Bool)(sz:Nat)(cs:List PV)(k:PV)(ok:Bool):Option PV:=match P.underlying t,keyCs sc k with
 |some (.map kt e),some kl=>match(zeroOf P e).map pvOf with
  |some z=>if kl.length+1=sz/\fitT P kt sc kl=true/\fitRows P kt sc sz (cs.length/sz) cs=true/\(scal z).isSome=true then
    (match tabGet sz kl (cs.length/sz) cs with
    |some v=>some (if ok=true then .tup [v,.bool true]else v)
    |none=>some (if ok=true then .tup [z,.bool false]else z))else none
  |none=>none
 |_,_=>none
def St.newMp(s:St)(d:Option Tmp)(it:MK)(sz:Nat)(cs:List PV):St:=
 { s with m:={ s.m with an:=s.m.an+1 } }.put d (.mp it (some s.m.an) sz cs)
def St.setMp(s:St)(it:MK)(id sz:Nat)(cs:List PV):St:=s.hit [.wr id sz (it.wrV cs)]
def opW(P:Program)(s:St)(o:Oper)(K:St->Prop):Prop:=match o.op with
 |.move x | .assign x=>K (s.put o.dst (s.ev x))
 |.pick c x y=>∃t,s.ev c=.bool t/\K (s.put o.dst (if t then s.ev x else s.ev y))
 |.binOp op t x y _=>∃v,aBin P op t (s.ev x) (s.ev y)=some v/\K (s.put o.dst v)
 |.unOp op _ x=>∃v,aUn op (s.ev x)=some v/\K (s.put o.dst v)
 |.convert src dst x=>∃v,aConv P src dst (s.ev x)=some v/\K (s.put o.dst v)
 |.nilCheck x=>match s.ev x with
  |.ptr i off=>K (s.put o.dst (.ptr i off))
  |.fn f caps=>K (s.put o.dst (.fn f caps))
  |_=>False
 |.extract x i=>match s.ev x with
  |.tup vs=>∃v,vs[i]?=some v/\K (s.put o.dst v)
  |_=>False
 |.fieldAddr t x f=>∃v,aField P t (s.ev x) f=some v/\K (s.put o.dst v)
 |.field t x f=>∃v,aFieldV P t (s.ev x) f=some v/\K (s.put o.dst v)
 |.indexAddr t x i=>∃v,aIndexAddr P t (s.ev x) (s.ev i)=some v/\K (s.put o.dst v)
 |.index t x i=>∃v,aIndex P t (s.ev x) (s.ev i)=some v/\K (s.put o.dst v)
 |.load t x=>∃v,aLoad P s.m t (s.ev x)=some v/\K (s.put o.dst v)
 |.store t x y=>o.dst=none/\aStore P s t (s.ev x) (s.ev y) K
 |.makeMap t r=>r=none/\match P.underlying t with
  |some (.map kt _)=>K (s.newMp o.dst .set (P.cellsOf kt) [])\/∃sc,K (s.newMp o.dst (.tab sc) (P.cellsOf kt+1) [])
  |_=>False
 |.mapUpdate t m k x | .insert t m k x=>o.dst=none/\match P.underlying t,s.ev m,s.ev k with
  |some (.map kt _),.mp .set (some id) sz cs,.agg key=>Maps.Keyed P kt/\0<sz/\key.length=sz/\fitKeys P kt sz cs=true/\fitKey P kt key=true/\K (s.setMp .set id sz (insC sz cs key))
  |some (.map kt _),.mp (.tab sc) (some id) sz cs,key=>Maps.Keyed P kt/\∃cs',aTabSet P t sc sz cs key (s.ev x)=some cs'/\K (s.setMp (.tab sc) id sz cs')
  |_,_,_=>False
 |.lookup t m k ok=>match P.underlying t,s.ev m with
  |some (.map kt _),.mp (.tab sc) _ sz cs=>Maps.Keyed P kt/\∃v,aTabGet P t sc sz cs (s.ev k) ok=some v/\K (s.put o.dst v)
  |_,_=>False
 |.range t x=>match P.underlying t,s.ev x with
  |some (.map _ _),.mp .set none sz cs=>0<sz/\K (s.newMp o.dst .wlk sz (repl [.nilp] sz++cs))
  |some .string,.str x=>K (s.newMp o.dst .sit 2 [.str x,.int .i64 0])
  |_,_=>False
 |.next it str=>match s.ev it with
  |.mp .sit (some id) 2 [.str x,.int .i64 pos]=>str=true/\0<=pos/\(if pos.toNat<x.size then K ((s.setMp .sit id 2 [.str x,.int .i64 ((pos.toNat+(Utf8.decode x pos.toNat).2:Nat):Int)]).put o.dst (.tup [.bool true,.int .i64 pos,.int .i32 (Utf8.decode x pos.toNat).1]))else K (s.put o.dst (.tup [.bool false])))
  |.mp .wlk (some id) sz cs=>str=false/\0<sz/\((cs.drop sz).length/sz=0->K (s.put o.dst (.tup [.bool false]))) /\
    ∀i,i<(cs.drop sz).length/sz->K ((s.setMp .wlk id sz (chunk sz (cs.drop sz) i++dropK sz (cs.drop sz) i)).put o.dst (.tup [.bool true,.agg (chunk sz (cs.drop sz) i),.bad]))
  |_=>False
 |.entry it=>match s.ev it with
  |.mp .wlk (some _) sz cs=>0<sz/\(keyVal (cs.take sz)).isSome=true/\K (s.put o.dst (.tup [.agg (cs.take sz),.bad]))
  |_=>False
 |.box _ x=>(s.ev x).known=true/\K (s.newBox o.dst (s.ev x).cells)
 |.alloc t=>∃z,zeroCs P t=some z/\K (s.newBox o.dst z)
 |.build t parts=>∃v,aBuild P t (parts.toList.map λp=>(p.1,s.ev p.2))=some v/\K (s.put o.dst v)
 |.buildSlice t len parts=>match P.underlying t,zeroCs P ((P.underlying t).elim 0 fun | .slice e=>e|_=>0)with
  |some (.slice e),some z=>(P.info? e).isSome/\z.length=P.cellsOf e/\0<z.length/\len*P.cellsOf e<=16777216/\∃cs,aFill (λi=>some (i*P.cellsOf e,P.cellsOf e)) (repl z len) (parts.toList.map λp=>(p.1,s.ev p.2))=some cs/\(K (s.newArr o.dst (P.cellsOf e) len cs)\/K (s.put o.dst (.sl none (P.cellsOf e) 0 len cs))\/K (s.newHd o.dst (P.cellsOf e) len cs))
  |_,_=>False
 |.makeSlice t l c=>match P.underlying t,s.ev l,s.ev c with
  |some (.slice e),.int .i64 ln,.int .i64 cn=>∃z,zeroCs P e=some z/\z.length=P.cellsOf e/\0<z.length/\(P.info? e).isSome/\0<=ln/\ln<=cn/\cn*P.bytesOf e<=140737488355328/\cn<=9223372036854775807/\K (s.newArr o.dst (P.cellsOf e) ln.toNat (repl z ln.toNat))
  |_,_,_=>False
 |.slice t x lo hi none=>∃v,aSlice P t (s.ev x) (lo.map s.ev) (hi.map s.ev)=some v/\K (s.put o.dst v)
 |.makeFunc (.func f) first caps=>(f<fnB/\first=#[]/\K (s.put o.dst (.fn f (caps.toList.map s.ev))))\/(caps=#[]/\K (s.put o.dst (.fn (f+fnB) (first.toList.map s.ev))))
 |.call c=>match c.callee with
  |.value f=>match s.ev f with
   |.fn g caps=>(∃fn,P.funcs[fnG g]?=some fn/\fn.name ≠ "runtime.NumGoroutine" /\ fn.body.isSome)/\ECallsY P s.nowY (fnG g) (fnA g (c.args.toList.map s.ev) caps) s.m λv E m'=>K ((s.after E m').put o.dst v)
   |.yld l=>∃y st pd,y∈s.nowY/\y.l=l/\(l,{ y.o with state:=st,pending:=pd })∈s.m.rc/\c.args.size=y.o.params.size/\EYield P s.nowY y.o l (c.args.toList.map s.ev) s.m λv E m'=>K ((s.after E m').put o.dst v)
   |_=>False
  |.builtin .len=>match c.argTypes[0]?,c.args.toList with
   |some t,[x]=>∃v,aLen P t (s.ev x)=some v/\K (s.put o.dst v)
   |_,_=>False
  |.builtin .min=>∃v,aMin (c.args.toList.map s.ev)=some v/\K (s.put o.dst v)
  |.builtin .max=>∃v,aMax (c.args.toList.map s.ev)=some v/\K (s.put o.dst v)
  |.builtin .append=>match c.argTypes,c.args.toList with
   |⟨[t,t']⟩,[x,y]=>t=t'/\aAppend P s o.dst t (s.ev x) (s.ev y) K
   |_,_=>False
  |_=>False
 |_=>False
structure SRel(φ:Phi)(w:World)(N:Nat)(s:St)(a:Act):Prop where
 tmp:∀t,VRel φ w (s.g t) (a.tmps.getD t undef)
 size:a.tmps.size=N
 mem:MRel φ s.m w
structure Anchor where
 φ0:Phi
 w0:World
 φ1:Phi
 w1:World
 tl:List Deferred:=[]
structure Rest(φ:Phi)(w:World)(φ':Phi)(w':World):Prop where
 size:w.heap.size<=w'.heap.size
 rest:∀b,b<w.heap.size->¬φ.own b->NoLoop w b->w'.heap[b]?=w.heap[b]?/\¬φ'.own b
theorem Rest.refl(φ:Phi)(w:World):Rest φ w φ w:=⟨Nat.le_refl _,λ_ _ h _=>⟨rfl,h⟩⟩
theorem Rest.trans{φ φ1 φ2:Phi}{w w1 w2:World}(h:Rest φ w φ1 w1)(k:Rest φ1 w1 φ2 w2):Rest φ w φ2 w2:=
 ⟨Nat.le_trans h.size k.size,λb hb ho hl=>by
  obtain⟨h1,h2⟩:=h.rest b hb ho hl;obtain⟨k1,k2⟩:=k.rest b (Nat.lt_of_lt_of_le hb h.size) h2 (λo=>by rw[h1];exact hl o);exact⟨k1.trans h1,k2⟩⟩
theorem Step.toRest{φ φ':Phi}{w w':World}{E:List Eff}(h:Step φ w φ' w' E):Rest φ w φ' w':=⟨h.size,h.rest⟩
structure Anch(A:Anchor)(φ:Phi)(w:World)(E:List Eff):Prop where
 st:Step A.φ0 A.w0 φ w E
 re:Rest A.φ1 A.w1 φ w
theorem Anch.trans{A:Anchor}{φ φ':Phi}{w w':World}{E F:List Eff}(h:Anch A φ w E)(k:Step φ w φ' w' F):Anch A φ' w' (E++F):=⟨h.st.trans k,h.re.trans k.toRest⟩
def Good(A:Anchor)(N:Nat)(D:List Deferred)(K:St->Prop)(a':Act)(w':World):Prop:=
 ∃s' φ',SRel φ' w' N s' a'/\Anch A φ' w' s'.eff/\a'.defers=D/\K s'
section
variable{P:Program}{φ:Phi}{w:World}{A:Anchor}{N n:Nat}{s:St}{a:Act}{K:St->Prop}{Q:Exit->Act->World->Prop}{r:Option Nat}
theorem vrel_pvOf(φ:Phi)(w:World)(v:Value):VRel φ w (pvOf v) v:=by
 unfold pvOf;split<;>simp[VRel]
theorem SRel.ev(h:SRel φ w N s a)(x:Operand):VRel φ w (s.ev x) (a.eval x):=by
 cases x with
 |tmp t=>exact h.tmp t
 |const v=>exact vrel_pvOf φ w v
 |global g=>simp[St.ev,VRel]
 |func f=>
  simp only[St.ev];split
  ·rename_i h;exact⟨[],(fnV_lt h _).symm,rfl⟩
  ·simp only[VRel]
theorem SRel.evs(h:SRel φ w N s a)(l:List Operand):VRelL φ w (l.map s.ev) (l.map a.eval):=by
 induction l with
 |nil=>rfl
 |cons x l ih=>exact⟨_,_,rfl,h.ev x,ih⟩
theorem put_defers(a:Act)(d:Option Tmp)(v:Value):(a.put d v).defers=a.defers:=by cases d<;>rfl
theorem tmp_put{g:Nat->PV}(h:∀t,VRel φ w (g t) (a.tmps.getD t undef))(hs:a.tmps.size=N){d:Nat}(hd:d<N){pv:PV}{v:Value}(hv:VRel φ w pv v)(t:Nat):
  VRel φ w (if t=d then pv else g t) ((a.tmps.setIfInBounds d v).getD t undef):=by
 by_cases ht:t=d
 ·subst ht;rw[if_pos rfl];have:t<a.tmps.size:=by omega
  simpa[this]using hv
 ·rw[if_neg ht];have:=h t;simpa[Array.getElem?_setIfInBounds_ne (Ne.symm ht)]using this
theorem SRel.put(h:SRel φ w N s a){d:Option Tmp}(hd:∀t,d=some t->t<N){pv:PV}{v:Value}(hv:VRel φ w pv v):SRel φ w N (s.put d pv) (a.put d v):=by
 cases d with
 |none=>exact h
 |some d=>exact⟨λt=>tmp_put h.tmp h.size (hd d rfl) hv t,by simpa[Act.put]using h.size,h.mem⟩
theorem wpX_of_run{o:Oper}{next:Act->World->Prop}(ho:∀c,o.op≠.defer c)(h:o.uponX P a next Q ((execOp a.eval o).run P w)):o.wpX r P a w next Q:=by
 unfold Oper.wpX;rw[Oper.semAt_eq _ _ _ ho];exact h
theorem good_val{o:Oper}(ho:∀c,o.op≠.defer c)(h:SRel φ w N s a)(hst:Anch A φ w s.eff)(hd:∀t,o.dst=some t->t<N){v:Value}{pv:PV}
  (hr:(execOp a.eval o).run P w=.ok (.value v) w) (hv:VRel φ w pv v) (hK:K (s.put o.dst pv)):o.wpX r P a w (Good A N a.defers K) Q:=by
 refine wpX_of_run ho ?_;rw[hr];exact⟨s.put o.dst pv,φ,h.put hd hv,by rw[St.put_eff];exact hst,put_defers _ _ _,hK⟩
theorem rel_int{k:IntKind}{m:Int}{v:Value}(h:VRel φ w (.int k m) v):v=.int k m:=h
theorem rel_bool{b:Bool}{v:Value}(h:VRel φ w (.bool b) v):v=.bool b:=h
theorem eqvT_run{t:TypeId}{x y:PV}{b:Bool}(h:eqvT P t x y=some b){vx vy:Value}(hx:VRel φ w x vx)(hy:VRel φ w y vy)(d:Nat):
  (Op.equalIn (d+1) t vx vy).run P w=.ok b w:=by
 unfold eqvT at h;split at h
 ·rename_i k0 k a k' b' hu;split at h
  ·rename_i hkk;subst hkk;injection h with h;rw[rel_int hx,rel_int hy,run_equalIn_int w d t k k0 a b' hu,←h];simp[BEq.beq]
  ·cases h
 ·rename_i c c' hu;injection h with h;rw[rel_bool hx,rel_bool hy,run_equalIn_bool' w d t c c' hu,←h]
 ·rename_i c c' hu;injection h with h;simp only[VRel]at hx hy;subst hx;subst hy;rw[run_equalIn_string w d t c c' hu,←h]
 ·cases h
theorem eqvT_plain{t:TypeId}{x y:PV}{b:Bool}(h:eqvT P t x y=some b):(isAgg t).run P w=.ok false w:=by
 unfold eqvT at h;split at h<;>first|(rename_i hu;simp[isAgg,run_underlying hu])|cases h
theorem eqvF_run(d:Nat):∀(fs:List Field)(i:Nat)(xs ys:List PV)(b:Bool),eqvF P fs i xs ys=some b->∀(vx vy:Array Value),VRelL φ w xs (vx.toList.drop i)->VRelL φ w ys (vy.toList.drop i) ->
  (Op.eqFields (d+1) vx vy fs).run P w=.ok b w
 |[],i,xs,ys,b,h,vx,vy,hx,hy=>by
  cases xs<;>cases ys<;>simp[eqvF]at h;subst h;simp[Op.eqFields]
 |f::fs,i,[],ys,b,h,_,_,_,_=>by simp[eqvF]at h
 |f::fs,i,x::xs,[],b,h,_,_,_,_=>by simp[eqvF]at h
 |f::fs,i,x::xs,y::ys,b,h,vx,vy,hx,hy=>by
  simp only[eqvF]at h;split at h
  ·rename_i hc;obtain⟨hn,ho⟩:=hc;cases h1:eqvT P f.type x y with
   |none=>rw[h1]at h;simp at h
   |some a=>
    cases h2:eqvF P fs (i+1) xs ys with
    |none=>rw[h1,h2]at h;simp at h
    |some c=>
     rw[h1,h2]at h;injection h with h;obtain⟨v,vs,ev,hv,hvs⟩:=hx;obtain⟨u,us,eu,hu,hus⟩:=hy;have gx:vx[i]?=some v:=by
      have:(vx.toList.drop i)[0]?=some v:=by rw[ev];rfl
      simpa using this
     have gy:vy[i]?=some u:=by
      have:(vy.toList.drop i)[0]?=some u:=by rw[eu];rfl
      simpa using this
     have dx:vx.toList.drop (i+1)=vs:=by rw[←List.drop_drop,ev];rfl
     have dy:vy.toList.drop (i+1)=us:=by rw[←List.drop_drop,eu];rfl
     have hp:=eqvT_plain (w:=w) h1;have he:=eqvT_run h1 hv hu d;have ih:=eqvF_run d fs (i+1) xs ys c h2 vx vy (by rw[dx];exact hvs) (by rw[dy];exact hus);simp only[Op.eqFields,hn,ne_eq,not_false_eq_true,if_true,part,Sem.run_bind,hp,Result.andThen_ok,Bool.false_eq_true,if_false,ho,gx,gy,Sem.run_pure,he];cases a
     ·simp[←h]
     ·simp[ih,←h]
  ·cases h
theorem eqvS_run{t:TypeId}{xs ys:List PV}{b:Bool}(h:eqvS P t xs ys=some b){vx vy:List Value}(hx:VRelL φ w xs vx)(hy:VRelL φ w ys vy):
  (Op.equal t (.agg vx.toArray) (.agg vy.toArray)).run P w=.ok b w/\P.eqGuardType P.depth t=false:=by
 unfold eqvS at h;split at h
 ·rename_i fs hu;split at h
  ·rename_i hc;have hf:P.fieldsOf t=fs:=by simp[Program.fieldsOf,hu]
   refine⟨?_,hc.2⟩;show(Op.equalIn 10000 t _ _).run P w=_;rw[show(10000:Nat)=9998+1+1 from rfl,run_equalIn_struct w (9998+1) t _ _ (by rw[hf];exact hu) hc.1,hf];exact eqvF_run 9998 fs.toList 0 xs ys b h _ _ (by simpa using hx) (by simpa using hy)
  ·cases h
 ·cases h
theorem eqGuard_none(op:BinOp)(t:TypeId)(x y:Operand)(va vb:Value)(h:va≠.nilIface)(h2:(∀xs,va≠.agg xs)\/P.eqGuardType P.depth t=false):
  (eqGuard op t x y va vb).run P w=.ok () w:=by
 unfold eqGuard;cases va with
 |nilIface=>exact absurd rfl h
 |agg xs=>
  have h2':P.eqGuardType P.depth t=false:=h2.resolve_left (λk=>k xs rfl);cases vb<;>(split<;>simp[run_program,h2'])
 |_=>split<;>simp
theorem bin_ok{op:BinOp}{t:TypeId}{x y:PV}{pv:PV}(h:aBin P op t x y=some pv){vx vy:Value}(hx:VRel φ w x vx)(hy:VRel φ w y vy)(ox oy:Operand):
  ∃v,(do eqGuard op t ox oy vx vy;binOp op t vx vy:Sem Value).run P w=.ok v w/\VRel φ w pv v:=by
 unfold aBin at h;split at h
 ·rename_i k a k' b;have e1:=rel_int hx;have e2:=rel_int hy;subst e1;subst e2;rw[Sem.run_bind,eqGuard_none op t ox oy _ _ (by simp) (.inl (by simp)),Result.andThen_ok];cases op<;>simp only at h;all_goals first
   |
    split at h
    ·rename_i hk;subst hk;first
      |(injection h with h;subst h;refine⟨_,?_,rfl⟩;simp[binOp,Op.intArith,Op.intCmp,Op.intBits,bits,BEq.beq,bne];done)
      |(injection h with h;subst h;refine⟨_,?_,rfl⟩;simp[binOp,Op.intArith,Op.intCmp,Op.intBits,bits];done)
      |
       split at h
       ·cases h
       ·rename_i hb;injection h with h;subst h;refine⟨_,?_,rfl⟩;simp[binOp,Op.intDiv,hb];done
      |cases h
    ·cases h
   |
    split at h
    ·rename_i hb;injection h with h;subst h;refine⟨_,?_,rfl⟩;simp[binOp,Op.shift,Int.not_lt.2 hb];done
    ·cases h
 ·rename_i a b;have e1:=rel_bool hx;have e2:=rel_bool hy;subst e1;subst e2;rw[Sem.run_bind,eqGuard_none op t ox oy _ _ (by simp) (.inl (by simp)),Result.andThen_ok];split at h
  ·rename_i hu;injection h with h;subst h;refine⟨.bool (a==b),?_,rfl⟩;have:=run_equalIn_bool' (P:=P) w 9999 t a b hu;simp[binOp,Op.equal,Op.maxDepth,this]
  ·rename_i hu;injection h with h;subst h;refine⟨.bool (a != b),?_,rfl⟩;have:=run_equalIn_bool' (P:=P) w 9999 t a b hu;simp[binOp,Op.equal,Op.maxDepth,this,bne]
  ·cases h
 ·rename_i xs ys;obtain⟨vx',e1,hx'⟩:=hx;obtain⟨vy',e2,hy'⟩:=hy;subst e1;subst e2;split at h
  ·rename_i b hb;injection h with h;subst h;obtain⟨hr,hg⟩:=eqvS_run hb hx' hy';rw[Sem.run_bind,eqGuard_none _ t ox oy _ _ (by simp) (.inr hg),Result.andThen_ok];exact⟨.bool b,by simp[binOp,hr],rfl⟩
  ·rename_i b hb;injection h with h;subst h;obtain⟨hr,hg⟩:=eqvS_run hb hx' hy';rw[Sem.run_bind,eqGuard_none _ t ox oy _ _ (by simp) (.inr hg),Result.andThen_ok];exact⟨.bool !b,by simp[binOp,hr],rfl⟩
  ·cases h
 ·simp only[VRel]at hx hy;subst hx;subst hy;rw[Sem.run_bind,eqGuard_none op t ox oy _ _ (by simp) (.inl (by simp)),Result.andThen_ok];split at h
  ·rename_i e hu;injection h with h;subst h;have:=run_equalIn_nil_slice (P:=P) w 9999 t e none 0 0 0 0 hu;exact⟨.bool true,by simp[binOp,Op.equal,Op.maxDepth,this],rfl⟩
  ·rename_i e hu;injection h with h;subst h;have:=run_equalIn_nil_slice (P:=P) w 9999 t e none 0 0 0 0 hu;exact⟨.bool false,by simp[binOp,Op.equal,Op.maxDepth,this],rfl⟩
  ·cases h
 ·obtain⟨_,a,cap,rfl,_,hp⟩:=hx;have ha:a.isSome:=by
   rcases hp with hp|⟨b,rfl,_,_⟩
   ·exact hp.2.2
   ·rfl
  obtain⟨a,rfl⟩:=Option.isSome_iff_exists.1 ha;simp only[VRel]at hy;subst hy;rw[Sem.run_bind,eqGuard_none op t ox oy _ _ (by simp) (.inl (by simp)),Result.andThen_ok];have heq:∀e,P.underlying t=some (.slice e)->∀n c d,(Op.equalIn (d+1) t (.slice (some a) n c) (.slice none 0 0)).run P w=.ok false w:=λe hu n c d=>by simp[Op.equalIn,run_underlying hu]
  split at h
  ·rename_i e hu;injection h with h;subst h;exact⟨.bool false,by simp[binOp,Op.equal,Op.maxDepth,heq e hu],rfl⟩
  ·rename_i e hu;injection h with h;subst h;exact⟨.bool true,by simp[binOp,Op.equal,Op.maxDepth,heq e hu],rfl⟩
  ·cases h
 ·rename_i a b;simp only[VRel]at hx hy;subst hx;subst hy;rw[Sem.run_bind,eqGuard_none op t ox oy _ _ (by simp) (.inl (by simp)),Result.andThen_ok];unfold aStr at h;split at h
  ·split at h
   ·rename_i hle;injection h with h;subst h;refine⟨_,?_,rfl⟩;have:¬(((a.size+b.size:Nat):Int)>IntKind.i64.max):=by
     have:IntKind.i64.max=9223372036854775807:=by decide
     rw[this];omega
    simp only[binOp,Op.stringOp,this,if_false,Sem.run_pure]
   ·cases h
  all_goals first|(cases h;done)|(injection h with h;subst h;exact⟨_,by simp only[binOp,Op.stringOp,Sem.run_pure],rfl⟩)
 ·cases h
end
end
end Go.Proofs.Ytjfejoadcdoobaa
