/- Part of the proof of RuleCover. No condition. -/
import Derived.RangeFuncIn
import Derived.RangeFuncRecord
import Derived.Test.YtlminnpaeaganaaGreatMCoverAE
namespace Go.Proofs.YtlminnpaeaganaaGreat
set_option maxRecDepth 100000
set_option linter.all false
section
open Go Go.RowKit
variable[cQ]
section
variable{P:Program}{φ bn:bo}{w:World}{A:Anchor}{N n:Nat}{s:aA}{a:Act}{m:Mem}{l:Nat}{o o':Loop}
theorem step_loop(h:w.heap[l]?=some (.loop o)):Step φ w φ (w.putObj l (.loop o')) []:=
 ⟨λq c aH=>aY.shut (Mx h) _ _ aH,rfl,rfl,by simp_all,
  λb hb ar ak=>⟨World.putObj_heap_other (λe=>ak o (by grind)),ar⟩⟩
theorem Od(h:w.heap[l]?=some (.loop o)):Rest φ w φ (w.putObj l (.loop o')):=(step_loop h).toRest
theorem HB{E:List b9}(k:cY A φ w E)(h:w.heap[l]?=some (.loop o)):cY A φ (w.putObj l (.loop o')) E:=by
 have:=k.trans (step_loop (o':=o') h);grind
theorem Oe{rc:List (Nat×Loop)}(hm:c0 φ m w)(h:w.heap[l]?=some (.loop o))(fb:∀p∈rc,p∈m.rc)(bU:∀p∈rc,p.1≠l):c0 φ { m with rc:=rc } (w.putObj l (.loop o')):=
 N9 (m:={ m with rc:=rc }) (Mx h) (λaG o ak=>bU _ ak) ⟨hm.box,hm.dt,hm.arr,hm.jo,hm.hp,hm.sep,λl o ak=>hm.gw l o (fb _ ak)⟩
theorem Of{rc1 rc2:List (Nat×Loop)}(hm:c0 φ m w)(fb:m.rc=rc1++(l,o)::rc2)(bU:∀p∈rc1++rc2,p.1≠l):c0 φ { m with rc:=rc1++(l,o')::rc2 } (w.putObj l (.loop o')):=by
 have h:w.heap[l]?=some (.loop o):=hm.gw l o (by grind);have aV:=Oe (o':=o') (rc:=rc1++rc2) hm h (λp ae=>by grind) bU;refine⟨aV.box,aV.dt,aV.arr,aV.jo,aV.hp,aV.sep,λaG z0 ak=>?_⟩;simp  at ak;rcases ak with ak|ak|ak
 ·exact aV.gw aG z0 (by simp[ak])
 ·grind [World.putObj_heap_same]
 ·exact aV.gw aG z0 (by simp[ak])
theorem Z9{m':Mem}{w':World}(h:cW φ w N s a)(ao:Step φ w φ w' [])(hm:c0 φ m' w'):cW φ w' N { s with m:=m' } a:=
 ⟨λt=>ao.tr _ _ (h.tmp t),h.size,hm⟩
def iH:eJ->Option Code
 |.normal=>none
 |.ret=>some .ret
 |.exit i=>some (.exit i)
def uR(g:Nat->aa):List Nat->List aa->Nat->aa
 |p::ps,v::af=>uR (λt=>if t=p then v else g t) ps af
 |_,_=>g
def ED(ys:List eN)(g:Nat->aa)(ps:List Nat)(args:List aa)(m:Mem):aA:=⟨uR g ps args,m,⟨m.an,m.n,ys⟩,[]⟩
theorem Og:∀(ps:List Nat)(args:List aa)(af:List Value)(g:Nat->aa)(tmps:Array Value),(∀p∈ps,p<tmps.size)->ps.length=args.length->bl φ w args af->(∀t,aY φ w (g t) (tmps.getD t undef)) ->
  (∀t,aY φ w (uR g ps args t) (((ps.zip af).foldl (λtmps (t,a)=>tmps.setIfInBounds t a) tmps).getD t undef))/\((ps.zip af).foldl (λtmps (t,a)=>tmps.setIfInBounds t a) tmps).size=tmps.size
 |[],args,af,g,tmps,_,_,_,h=>by simp_all[uR]
 |p::ps,[],af,g,tmps,_,ak,_,h=>by simp at ak
 |p::ps,v::args,af,g,tmps,ae,ak,ai,h=>by
  obtain⟨u,us,rfl,U,ab⟩:=ai;simp only[uR,List.zip_cons_cons,List.foldl_cons];obtain⟨k1,bf⟩:=Og ps args us (λt=>if t=p then v else g t) (tmps.setIfInBounds p u) (λq aH=>by grind) (by grind) ab (λt=>by
   simp ;grind [Array.getD_eq_getD_getElem?])
  grind
theorem VO{ys:List eN}{y:eN}{args:List aa}{Q:aa->List b9->Mem->Prop}(aF:y∈ys)(gy:∀p∈y.o.params.toList,p<y.o.tmps.size)(hlen:y.o.params.toList.length=args.length)
  (ahh:hr y.o.tmps.size y.o.assign=true) (ahi:hr y.o.tmps.size y.o.body=true) (TZ:mm y.o.assign=true) (kr:mm y.o.body=true)
  (h:ff P y.o.assign (ED ys y.g y.o.params.toList args m) λe s1=>e=.normal/\∃rc1 rc2 mJ,s1.m.rc=rc1++(y.l,{ y.o with state:=.ready,pending:=mJ })::rc2/\(∀p∈rc1++rc2,p.1≠y.l) /\
   ff P y.o.body { s1 with m:={ s1.m with rc:=rc1++(y.l,{ y.o with state:=.busy,pending:=mJ })::rc2 } } λe s2=>∃nZ n1 st KS,s2.m.rc=nZ++(y.l,{ y.o with state:=st,pending:=KS })::n1/\(∀p∈nZ++n1,p.1≠y.l) /\
    Q (.bool (iH e).isNone) s2.bb { s2.m with rc:=nZ++(y.l,{ y.o with state:=if(iH e).isNone then .ready else .done,pending:=iH e })::n1 }):wD P ys y.o y.l args m Q:=by
 intro φ af w n hm ai tw;refine VP ?_;have aen:(y.o.params.zip af.toArray).foldl (λtmps (t,a)=>tmps.setIfInBounds t a) y.o.tmps=(y.o.params.toList.zip af).foldl (λtmps (t,a)=>tmps.setIfInBounds t a) y.o.tmps:=by grind [Array.toList_zip]
 rw[aen];obtain⟨g1,a2⟩:=Og y.o.params.toList args af y.g y.o.tmps gy hlen ai (tw y aF);have ao:cW φ w y.o.tmps.size (ED ys y.g y.o.params.toList args m) { tmps:=(y.o.params.toList.zip af).foldl (λtmps (t,a)=>tmps.setIfInBounds t a) y.o.tmps,defers:=[] }:=⟨g1,a2,hm⟩;have aW:Old ⟨φ,w,φ,w⟩ (ED ys y.g y.o.params.toList args m):=⟨λi b hi=>(hm.arr i b hi).1,λi b hi=>Nat.lt_of_not_le λhle=>(by rw[hm.dt i hle]at hi;cases hi),tw⟩;refine k8 (h ⟨φ,w,φ,w⟩ φ w y.o.tmps.size n (some y.l) _ (OX ahh TZ) ao ⟨Step.refl φ w,Rest.refl φ w⟩ aW trivial) ?_;rintro e eD w1 ⟨ex,s1,ny,he,k1,bf,bP,kA,rfl,rc1,rc2,mJ,fb,bU,hb⟩;cases e<;>simp[eJ.of]at he<;>try (done)
 intro τ d;replace k1:=k1.a8 τ d;replace bf:=bf.tu τ d;replace bP:=bP.rest (sD ny w1 τ d).toRest;generalize a8 w1 τ d=w1 at *;have ak:w1.heap[y.l]?=some (.loop { y.o with state:=.ready,pending:=mJ }):=k1.mem.gw _ _ (by grind);refine⟨_,run_beginRound ak rfl,?_⟩;have kU:=Of (o':={ y.o with state:=.busy,pending:=mJ }) k1.mem fb bU;refine k8 (hb ⟨φ,w,φ,w⟩ ny _ y.o.tmps.size n (some y.l) eD (OX ahi kr) (Z9 k1 (step_loop ak) kU) (HB bf ak) kA (bP.rest (Od ak))) ?_;rintro e fA w2 ⟨ex,s2,xS,he,Gv,LK,amA,amB,nZ,n1,st,KS,Fi,J8,aH⟩;have fin:∀τ d,∃v w',(Instr.endRound y.l (iH ex)).run P (a8 w2 τ d)=.ok v w'/\∃a3 pv E m' bn,Ending.returned v=.returned a3/\aY bn w' pv a3/\c0 bn m' w'/\Step φ w bn w' E/\Q pv E m':=by
  intro τ d;replace Gv:=Gv.a8 τ d;replace LK:=LK.tu τ d;have bQ:w2.heap[y.l]?=some (.loop { y.o with state:=st,pending:=KS }):=Gv.mem.gw _ _ (by grind);refine⟨_,_,run_endRound (iH ex) bQ,_,.bool (iH ex).isNone,s2.bb,_,xS,rfl,rfl,Of Gv.mem Fi J8,?_,aH⟩;have:=(HB (o':={ y.o with state:=if(iH ex).isNone then .ready else .done,pending:=iH ex }) LK bQ).st;exact this
 cases e<;>simp[eJ.of]at he<;>try (done)
 all_goals subst he;exact fin
theorem VQ{h:Operand}{ps:Array Tmp}{kV body:Code}{g:FuncId}{caps:List aa}{Q:eJ->aA->Prop}{rc1 rc2:List (Nat×Loop)}
  (aQ:s.ay h=.fn g caps) (aN:∃fn,P.funcs[g]?=some fn/\fn.name ≠ "runtime.NumGoroutine" /\ fn.body.isSome) (fb:s.m.rc=rc1++rc2)
  (H:∀(l:Nat)(o:Loop),o.params=ps->o.assign=kV->o.body=body->o.state=.ready->o.pending=none->(∀p∈ps.toList,p<o.tmps.size)->hr o.tmps.size kV=true->hr o.tmps.size body=true->(∀p∈s.m.rc,p.1≠l) ->
   qR P (s.c7++[⟨l,o,s.g⟩]) g (.cq l::caps) { s.m with rc:=rc1++(l,o)::rc2 } λv E m'=>∃st ex nZ n1,m'.rc=nZ++(l,{ o with state:=st,pending:=iH ex })::n1/\st≠.busy/\(∀p∈nZ++n1,p.1≠l)/\Q ex (s.after E { m' with rc:=nZ++n1 })):
  ff P (.rangeFunc h ps kV body) s Q:=by
 intro A φ w N n r a aV ao au aW hm;have ad:r=none:=by
  cases r with
  |none=>rfl
  |some l=>grind [mC,mm]
 subst ad;have jv:=DR aV;simp only[hr,Bool.and_eq_true,List.all_eq_true,decide_eq_true_eq]at jv;refine VR λfn τ e=>?_;replace ao:=ao.a8 τ e;replace au:=au.tu τ e;replace hm:=hm.rest (sD φ w τ e).toRest;generalize a8 w τ e=w at *;have eH:=ao.ay h;rw[aQ]at eH;obtain⟨af,ai,e0⟩:=eH;obtain⟨ak5,afC,hs,JC⟩:=aN;obtain⟨code,JD⟩:=Option.isSome_iff_exists.1 JC;let o:Loop:={ state:=.ready,pending:=none,fn,tmps:=a.tmps,params:=ps,assign:=kV,body,defers:=w.heap.size };let w1:World:=(w.alloc (.deferred (some []))).alloc (.loop o);have bX:a.tmps.size=N:=ao.size;have wR:∀b,b<w.heap.size->w1.heap[b]?=w.heap[b]?:=λb hb=>by
  show((w.heap.push _).push _)[b]?=_;grind
 have kQ:(w.alloc (.deferred (some []))).heap.size=w.heap.size+1:=by simp
 have dg:w1.heap[w.heap.size+1]?=some (.loop o):=by grind [World.alloc_heap_new]
 have dQ:w1.heap[w.heap.size]?=some (.deferred (some [])):=by
  have U:=World.alloc_heap_new w (.deferred (some []));show((w.alloc (.deferred (some []))).heap.push _)[w.heap.size]?=_;grind
 have fg:w1.heap.size=w.heap.size+2:=by show((w.heap.push _).push _).size=_;simp
 have ju:∀b,φ.own b->b<w.heap.size:=by
  rintro b (⟨i,hi⟩|⟨i,hi⟩)
  ·obtain⟨cs,e,U,_⟩:=ao.mem.has hi;grind
  ·exact(ao.mem.arr i b hi).2.lt
 have q7:kk φ w φ w1:=⟨λ_ _ h=>h,λ_ _ h=>h,λ_ _ h=>h,by omega,λi b hi=>wR b (ju b (.inr ⟨i,hi⟩)),λb hb _=>wR b hb⟩;have eo:Step φ w φ w1 []:=⟨λq c aH=>aY.keeps q7 q c aH,rfl,rfl,by omega,λb hb ar _=>⟨wR b hb,ar⟩⟩;have gM:∀p∈s.m.rc,p.1<w.heap.size:=λp ae=>(Array.getElem?_eq_some_iff.1 (ao.mem.gw p.1 p.2 ae)).1;have xu:c0 φ { s.m with rc:=rc1++(w.heap.size+1,o)::rc2 } w1:=by
  refine⟨λi hi=>?_,ao.mem.dt,λi b hi=>?_,ao.mem.jo,ao.mem.hp,ao.mem.sep,λl z0 ak=>?_⟩
  ·rcases ao.mem.box i hi with U|⟨b,cs,e,U,ab,al⟩
   ·grind
   ·refine .inr ⟨b,cs,e,U,(wR b (ju b (.inl ⟨i,U⟩))).trans ab,?_⟩;show m3 φ w1 (s.m.β i) cs.toList;cases ah:s.m.β i with
    |cells l=>rw[ah]at al;exact bl.keeps q7 l _ al
    |inv I=>
     rw[ah]at al;obtain⟨l,cy,dM,gC,jF⟩:=al;exact⟨l,cy,dM,gC,bl.keeps q7 l _ jF⟩
    |hole=>rw[ah]at al;exact al.elim
  ·obtain⟨U,ab⟩:=ao.mem.arr i b hi;exact⟨U,ab.of_eq (wR b (ju b (.inr ⟨i,hi⟩)))⟩
  ·simp only[List.mem_append,List.mem_cons]at ak;have old:(l,z0)∈s.m.rc->w1.heap[l]?=some (.loop z0):=λak=>(wR l (gM _ ak)).trans (ao.mem.gw l z0 ak);rcases ak with ak|ak|ak
   ·exact old (by rw[fb];simp[ak])
   ·injection ak with U ab;subst U;subst ab;exact dg
   ·exact old (by rw[fb];simp[ak])
 have ahj:aY φ w1 (.cq (w.heap.size+1)) (.func (.yield (w.heap.size+1)) #[] #[]):=by simp only[aY]
 have mE:p9 (s.c7++[⟨w.heap.size+1,o,s.g⟩]) φ w1:=by
  intro y aF t;simp only[List.mem_append,List.mem_singleton]at aF;rcases aF with aF|rfl
  ·exact aY.keeps q7 _ _ (Hx au aW.2.2 y aF t)
  ·exact aY.keeps q7 _ _ (ao.tmp t)
 have afD:cY A φ w1 s.bb:=by
  have:=au.trans eo;rwa[List.append_nil]at this
 have Bd:=H (w.heap.size+1) o rfl rfl rfl rfl rfl (λp ae=>by show p<a.tmps.size;rw[bX];exact jv.1.1 p ae) (by show hr a.tmps.size kV=true;rw[bX];exact jv.1.2) (by show hr a.tmps.size body=true;rw[bX];exact jv.2) (λp ae=>by have:=gM p ae;omega)
  φ (.func (.yield (w.heap.size+1)) #[] #[]::af) w1 xu ⟨_,_,rfl,ahj,bl.keeps q7 _ _ e0⟩ mE
 refine⟨w.heap.size+1,[{ target:=.collected w.heap.size,args:=#[] }],w1,{ target:=.fn (.func g) af.toArray,args:=#[]++#[.func (.yield (w.heap.size+1)) #[] #[]] },w1,g,(.func (.yield (w.heap.size+1)) #[] #[]::af).toArray,w1,run_enterLoop_outer _ _ _ _ _,?_,?_,?_⟩
 ·have hcs:a.eval (.const (.func (.yield (w.heap.size+1)) #[] #[]))=.func (.yield (w.heap.size+1)) #[] #[]:=rfl;simp[resolve,ai,Deferred.ofValue,hcs]
 ·simp[invoke,callFunc,afC,hs,JD]
 ·refine Bd.mono ?_;rintro e w3 ⟨v,pv,E,m',bn,rfl,eW,eX,A2,st,ex,nZ,n1,Fi,JF,J8,aH⟩;intro τ d;replace eX:=eX.a8 τ d;replace A2:Step φ w1 bn (a8 w3 τ d) E:=by
   have:=A2.trans (sD bn w3 τ d);rwa[List.append_nil]at this
  clear eW;generalize a8 w3 τ d=w3 at *;have dC:w3.heap[w.heap.size+1]?=some (.loop { o with state:=st,pending:=iH ex }):=eX.gw _ _ (by rw[Fi];simp);refine⟨iH ex,_,run_endLoop dC JF,?_⟩;have ahk:c0 bn { m' with rc:=nZ++n1 } (w3.putObj (w.heap.size+1) (.loop { state:=.exhausted,pending:=iH ex,fn:=o.fn,tmps:=o.tmps,params:=o.params,assign:=o.assign,body:=o.body,defers:=o.defers })):=
   Oe eX dC (λp ae=>by rw[Fi];simp only[List.mem_append,List.mem_cons]at ae⊢;rcases ae with ae|ae<;>simp[ae]) J8
  have vq:cY A bn w3 (gV s.bg.a s.bb E):=cY.add aW.1 (afD.trans A2);have ahl:cW bn (w3.putObj (w.heap.size+1) (.loop { state:=.exhausted,pending:=iH ex,fn:=o.fn,tmps:=o.tmps,params:=o.params,assign:=o.assign,body:=o.body,defers:=o.defers })) N (s.after E { m' with rc:=nZ++n1 }) { a with defers:=[{ target:=.collected w.heap.size,args:=#[] }]++a.defers }:=
   ⟨λt=>(step_loop dC).tr _ _ (A2.tr _ _ (eo.tr _ _ (ao.tmp t))),ao.size,ahk⟩
  have gZ:Marks bn (w3.putObj (w.heap.size+1) (.loop { state:=.exhausted,pending:=iH ex,fn:=o.fn,tmps:=o.tmps,params:=o.params,assign:=o.assign,body:=o.body,defers:=o.defers })) A.c9 ([{ target:=.collected w.heap.size,args:=#[] }]++a.defers):=by
   have cn:Rest φ w1 bn (w3.putObj (w.heap.size+1) (.loop { state:=.exhausted,pending:=iH ex,fn:=o.fn,tmps:=o.tmps,params:=o.params,assign:=o.assign,body:=o.body,defers:=o.defers })):=A2.toRest.trans (Od dC);have fu:¬φ.own w.heap.size:=λh=>by have:=ju _ h;omega
   refine Marks.rest cn ⟨⟨w.heap.size,rfl,au.st.size,dQ,fu,λdq jv=>?_⟩,hm.rest eo.toRest⟩;intro e;subst e;have:∀{l:List Deferred},Marks φ w A.c9 l->∀D,{ target:=.collected D,args:=#[] }∈l->D<w.heap.size:=by
    intro l;induction l with
    |nil=>intro _ D h;cases h
    |cons d l az=>
     rintro⟨⟨D,U,_,ab,_⟩,ak⟩ D' h;rcases List.mem_cons.1 h with h|h
     ·rw[U]at h;injection h with h _;injection h with h;subst h;exact(Array.getElem?_eq_some_iff.1 ab).1
     ·exact az ak D' h
   have:=this hm _ jv;omega
  have J9:EP A N Q (match ex with | .normal=>.normal | .ret=>.ret | .exit i=>.exit i) { a with defers:=[{ target:=.collected w.heap.size,args:=#[] }]++a.defers } (w3.putObj (w.heap.size+1) (.loop { state:=.exhausted,pending:=iH ex,fn:=o.fn,tmps:=o.tmps,params:=o.params,assign:=o.assign,body:=o.body,defers:=o.defers })):=
   ⟨ex,_,bn,by cases ex<;>rfl,ahl,HB vq dC,gZ,aW,aH⟩
  cases ex with
  |normal=>exact J9
  |ret=>exact P5 J9
  |exit i=>exact OZ J9
end
end
section
open Go Go.RowKit
variable[cQ]
mutual
def aa.bK(id:Nat):aa->aa
 |.sl (some i) sz off len cs=>.sl (if i=id then none else some i) sz off len (iW id cs)
 |.sl none sz off len cs=>.sl none sz off len (iW id cs)
 |.bJ (some i) off cs=>.bJ (if i=id then none else some i) off (iW id cs)
 |.bJ none off cs=>.bJ none off (iW id cs)
 |.fn f cs=>.fn f (iW id cs)
 |.agg cs=>.agg (iW id cs)
 |.bD cs=>.bD (iW id cs)
 |.ptr i o=>.ptr i o
 |.int k m=>.int k m
 |.bool b=>.bool b
 |.str s=>.str s
 |.undef=>.undef
 |.bad=>.bad
 |.ca=>.ca
 |.eL=>.eL
 |.bC=>.bC
 |.dead k=>.dead k
 |.cq k=>.cq k
 |.mp it none sz cs=>.mp it none sz cs
 |.mp it (some i) sz cs=>.mp it (if i=id then none else some i) sz cs
def iW(id:Nat):List aa->List aa
 |[]=>[]
 |p::ps=>p.bK id::iW id ps
end
theorem sF(id:Nat)(l:List aa):iW id l=l.map (aa.bK id):=by
 induction l with
 |nil=>rfl
 |cons p ps az=>simp[iW,az]
def bo.drop(φ:bo)(id:Nat):bo:={ box:=φ.box,arr:=λi=>if i=id then none else φ.arr i }
section
variable{φ:bo}{w:World}{m:Mem}{id:Nat}
theorem Ms:sB id φ w (φ.drop id) w:=
 ⟨λ_ _ h=>h,λi b hi h=>by simp[bo.drop,hi,h],λb _ ar k=>ar (by
  rcases k with⟨i,h⟩|⟨i,h⟩
  ·exact .inl ⟨i,h⟩
  ·simp only[bo.drop]at h;split at h
   ·cases h
   ·exact .inr ⟨i,h⟩),Nat.le_refl _,λ_ _ _ _=>rfl,λ_ _ _=>rfl⟩
theorem AJ{b:Nat}(h:(φ.drop id).own b):φ.own b:=by
 rcases h with⟨i,h⟩|⟨i,h⟩
 ·exact .inl ⟨i,h⟩
 ·simp only[bo.drop]at h;split at h
  ·cases h
  ·exact .inr ⟨i,h⟩
theorem Me{b sz off cap:Nat}(h:place φ w none b sz off cap):place (φ.drop id) w none b sz off cap:=⟨λk=>h.1 (AJ k),h.2⟩
theorem NH(hm:c0 φ m w){i b sz off cap:Nat}(h:place φ w (some i) b sz off cap):place (φ.drop id) w (if i=id then none else some i) b sz off cap:=by
 by_cases hi:i=id
 ·rw[if_pos hi];refine⟨λar=>?_,jN hm h.1⟩;rcases ar with⟨j,aC⟩|⟨j,aC⟩
  ·exact hm.sep j i b aC h.1
  ·simp only[bo.drop]at aC;split at aC
   ·cases aC
   ·rename_i bU;exact bU ((hm.hp j i b aC h.1).trans hi)
 ·rw[if_neg hi];exact⟨by simp[bo.drop,hi,h.1],h.2⟩
mutual
theorem aY.bK(hm:c0 φ m w):∀(q:aa)(c:Value),aY φ w q c->aY (φ.drop id) w (q.bK id) c
 |.int _ _,c,h | .bool _,c,h | .str _,c,h | .undef,c,h | .bad,c,h | .ca,c,h | .eL,c,h | .bC,c,h | .dead _,c,h | .cq _,c,h=>by simp only[aY,aa.bK]at h⊢<;>exact h
 |.ptr i o,c,h=>by
  simp only[aY,aa.bK]at h⊢;exact h
 |.sl none sz off len cs,c,h=>by
  simp only[aY,aa.bK]at h⊢;obtain⟨ak,a,cap,ai,ah,h⟩:=h;refine⟨by rw[sF,List.length_map];exact ak,a,cap,ai,ah,?_⟩;rcases h with h|⟨b,bL,ae,ad⟩
  ·exact .inl h
  ·exact .inr ⟨b,bL,Me ae,b7.bK hm b cs off ad⟩
 |.sl (some i) sz off len cs,c,h=>by
  simp only[aY,aa.bK]at h⊢;obtain⟨ak,a,cap,ai,ah,h⟩:=h;refine⟨by rw[sF,List.length_map];exact ak,a,cap,ai,ah,?_⟩;rcases h with h|⟨b,bL,ae,ad⟩
  ·exact absurd h.1 (by simp)
  ·exact .inr ⟨b,bL,NH hm ae,b7.bK hm b cs off ad⟩
 |.bJ none off cs,c,h=>by
  simp only[aY,aa.bK]at h⊢;obtain⟨b,bL,ae,ad⟩:=h;exact⟨b,bL,Me ae,b7.bK hm b cs off ad⟩
 |.bJ (some i) off cs,c,h=>by
  simp only[aY,aa.bK]at h⊢;obtain⟨b,bL,ae,ad⟩:=h;exact⟨b,bL,NH hm ae,b7.bK hm b cs off ad⟩
 |.fn f cs,c,h=>by
  simp only[aY,aa.bK]at h⊢;obtain⟨af,U,ab⟩:=h;exact⟨af,U,bl.bK hm cs af ab⟩
 |.agg cs,c,h=>by
  simp only[aY,aa.bK]at h⊢;obtain⟨af,U,ab⟩:=h;exact⟨af,U,bl.bK hm cs af ab⟩
 |.bD cs,c,h=>by
  simp only[aY,aa.bK]at h⊢;obtain⟨af,U,ab⟩:=h;exact⟨af,U,bl.bK hm cs af ab⟩
 |.mp it none sz cs,c,h=>by
  simp only[aY,aa.bK]at h⊢;exact h.move (λb o ae bq _ _ _=>⟨λk=>ae (AJ k),bq⟩) λb o ae bq _ _ _=>⟨λk=>ae (AJ k),bq⟩
 |.mp it (some i) sz cs,c,h=>by
  simp only[aY,aa.bK]at h⊢;refine h.move (λb o ae bq _ _ _=>⟨?_,bq⟩) λb o ae bq _ _ _=>⟨λk=>ae (AJ k),bq⟩;simp only[o9]at ae;by_cases hi:i=id
  ·simp only[hi,if_true,o9];rintro(⟨j,aC⟩|⟨j,aC⟩)
   ·exact hm.sep j i b aC ae
   ·simp only[bo.drop]at aC;split at aC
    ·cases aC
    ·rename_i bU;exact bU ((hm.hp j i b aC ae).trans hi)
  ·simp[hi,o9,bo.drop,ae]
theorem bl.bK(hm:c0 φ m w):∀(l:List aa)(af:List Value),bl φ w l af->bl (φ.drop id) w (iW id l) af
 |[],af,h=>by simp only[bl,iW]at h⊢;exact h
 |p::ps,af,h=>by
  simp only[bl,iW]at h⊢;obtain⟨v,cB,e,aT,U⟩:=h;exact⟨v,cB,e,aY.bK hm p v aT,bl.bK hm ps cB U⟩
theorem b7.bK(hm:c0 φ m w)(b:Nat):∀(l:List aa)(off:Nat),b7 φ w b l off->b7 (φ.drop id) w b (iW id l) off
 |[],_,_=>by simp only[b7,iW]
 |p::ps,off,h=>by
  simp only[b7,iW]at h⊢;obtain⟨⟨c,ah,aT⟩,U⟩:=h;exact⟨⟨c,ah,aY.bK hm p c aT⟩,b7.bK hm b ps (off+1) U⟩
end
end
def di.bK(id:Nat):di->di
 |.cells l=>.cells (l.map (aa.bK id))
 |.inv I=>.inv I
 |.hole=>.hole
def aA.freeze(s:aA)(id:Nat):aA:={ s with g:=λt=>(s.g t).bK id,m:={ s.m with β:=λi=>(s.m.β i).bK id },bb:=gV s.bg.a s.bb [.kill id] }
theorem V5(s:aA)(id:Nat):dW s (s.freeze id):=by
 refine⟨rfl,λφ w N a A ao au aW=>⟨φ.drop id,⟨λt=>aY.bK ao.mem _ _ (ao.tmp t),ao.size,?_⟩,?_⟩⟩
 ·have hm:=ao.mem;refine⟨λi hi=>?_,hm.dt,λi b h=>?_,hm.jo,λi j b U ab=>?_,λi j b U ab=>?_,hm.gw⟩
  ·rcases hm.box i hi with⟨g1,a2⟩|⟨b,cs,e,hb,bq,ad⟩
   ·exact .inl ⟨by simp[aA.freeze,di.bK,g1],a2⟩
   ·refine .inr ⟨b,cs,e,hb,bq,?_⟩;cases ah:s.m.β i with
    |cells l=>
     rw[ah]at ad;simp only[aA.freeze,ah,di.bK,m3];rw[←sF];exact bl.bK hm l _ ad
    |inv I=>
     rw[ah]at ad;simp only[aA.freeze,ah,di.bK];obtain⟨l,U,ab,al,aJ⟩:=ad;refine⟨l,U,ab,al,?_⟩;have:=bl.kill (Ms (φ:=φ) (w:=w) (id:=id)) l _ aJ;rwa[ab]at this
    |hole=>rw[ah]at ad;exact ad.elim
  ·simp only[bo.drop]at h;split at h
   ·cases h
   ·exact hm.arr i b h
  ·simp only[bo.drop]at U ab;split at U<;>first|(cases U;done)|skip
   split at ab<;>first|(cases ab;done)|skip
   exact hm.hp i j b U ab
  ·simp only[bo.drop]at ab;split at ab<;>first|(cases ab;done)|skip
   exact hm.sep i j b U ab
 ·have bh:Step φ w (φ.drop id) w [.kill id]:=⟨λq c h=>aY.kill Ms q c h,rfl,rfl,Nat.le_refl _,λb _ ar _=>⟨rfl,λk=>ar (AJ k)⟩⟩;exact cY.add aW.1 (au.trans bh)
def aA.akX(s:aA)(i:Nat)(I:List aa->Prop):aA:={ s with m:={ s.m with β:=ea s.m.β i (.inv I) } }
end
section
open Go Go.RowKit
variable[cQ]
mutual
def aa.plain:aa->Bool
 |.int _ _ | .bool _ | .str _ | .ca | .eL | .bC=>true
 |.sl none _ _ _ cs=>bG cs
 |.bJ none _ cs=>bG cs
 |.fn _ cs=>bG cs
 |.agg cs=>bG cs
 |.bD cs=>jO cs
 |.mp _ none _ _=>true
 |_=>false
def bG:List aa->Bool
 |[]=>true
 |p::ps=>p.plain&&p.one&&bG ps
def jO:List aa->Bool
 |[]=>true
 |p::ps=>p.plain&&jO ps
end
inductive aR where
 |var (i:Nat)
 |proj (e:aR) (j:Nat)
 |bu (v:aa)
 deriving Inhabited
def cM(v:aa)(j:Nat):aa:=match v with
 |.agg cs=>cs.getD j .bad
 |_=>.bad
def aR.den(ρ:List aa):aR->aa
 |.var i=>ρ.getD i .bad
 |.proj e j=>cM (e.den ρ) j
 |.bu v=>v
inductive e9 where
 |real
 |cZ
 |dyn (x:aR)
 |map
 |it
 deriving Inhabited
inductive aS where
 |e (x:aR)
 |agg (l:List aS)
 |bD (l:List aS)
 |lit (sz len:Nat) (l:List aS)
 |fn (f:FuncId) (l:List aS)
 |ref (l:List aS)
 deriving Inhabited
mutual
def aS.den(ρ:List aa):aS->aa
 |.e x=>x.den ρ
 |.agg l=>.agg (ep ρ l)
 |.bD l=>.bD (ep ρ l)
 |.lit sz len l=>.sl none sz 0 len (ep ρ l)
 |.fn f l=>.fn f (ep ρ l)
 |.ref l=>.bJ none 0 (ep ρ l)
def ep(ρ:List aa):List aS->List aa
 |[]=>[]
 |x::l=>x.den ρ::ep ρ l
end
inductive Prim where
 |bin (op:BinOp) (t:TypeId) (x y:aS)
 |un (op:UnOp) (x:aS)
 |conv (src dst:TypeId) (x:aS)
 |ext (x:aS) (i:Nat)
 |agg (n:Nat) (x:aS)
 |one (x:aS)
 |row (sz:Nat) (x i:aS)
 |idx (t:TypeId) (x i:aS)
 |len (t:TypeId) (x:aS)
 |slice (t:TypeId) (x:aS) (lo hi:Option aS)
 |iz (max:Bool) (l:List aS)
 |j2 (l:List aS)
 |mk (z:List aa) (bytes:Nat) (n:aS)
 |kX (sz:Nat) (c:aR) (i:aS)
 |get (sz fo n:Nat) (c i:aR)
 |put (sz fo:Nat) (c i:aR) (l:List aS)
 |push (sz bytes:Nat) (c:aR) (y:aS)
 |oG (sz:Nat) (c:aR)
 |bK (sz:Nat) (born:e9) (c:aR)
 |deref (n:Nat) (x:aS)
 |cont (real:Bool) (sz:Nat) (x:aS)
 |wZ (x:aS)
 |ints (x:aS)
 |ins (cR:TypeId) (sz:Nat) (c:aR) (l:List aS)
 |keys (sz:Nat) (x:aS)
 |mI (sz:Nat) (c:aR)
 |lI (c:aR)
 |qz (c:aR)
 |qA (b:e9) (c:aR)
 deriving Inhabited
def ll(x:aa)(i:Nat):Option aa:=match x with
 |.bD af=>af[i]?
 |_=>none
def vc(n:Nat)(x:aa):Option aa:=match x with
 |.agg cs=>if cs.length=n then some x else none
 |_=>none
def na(x:aa):Option aa:=if x.one=true then some x else none
def kp(sz:Nat)(x i:aa):Option aa:=match x,i with
 |.sl none iL _ len cs,.int _ n=>if 0<=n/\n<(len:Int)/\iL=sz/\((cs.drop (n.toNat*sz)).take sz).length=sz then some (.agg ((cs.drop (n.toNat*sz)).take sz))else none
 |_,_=>none
def xK(qC:Bool)(l:List aa):Option aa:=if qC=true then u3 l else s4 l
def tL(z:List aa)(bytes:Nat)(n:aa):Option aa:=match n with
 |.int .i64 k=>if 0<=k/\k*bytes<=140737488355328/\k<=9223372036854775807 then some (.agg (e8 z k.toNat))else none
 |_=>none
def zj(sz:Nat)(c i:aa):Option aa:=match c,i with
 |.agg cs,.int k n=>if 0<=n/\n.toNat<cs.length/sz then some (.int k n)else none
 |_,_=>none
def zk(sz fo n:Nat)(c i:aa):Option aa:=match c,i with
 |.agg cs,.int _ k=>if n=((cs.drop (k.toNat*sz+fo)).take n).length then some (.agg ((cs.drop (k.toNat*sz+fo)).take n))else none
 |_,_=>none
def vd(sz fo:Nat)(c i:aa)(l:List aa):Option aa:=match c,i with
 |.agg cs,.int _ k=>if k.toNat*sz+fo+l.length<=cs.length then some (.agg (fa cs (k.toNat*sz+fo) l))else none
 |_,_=>none
def uW(sz bytes:Nat)(c y:aa):Option aa:=match c,wO sz y with
 |.agg cs,some (m,news)=>if news.length=m*sz/\(cs.length/sz+m)*bytes<=140737488355328/\cs.length/sz+m<=9223372036854775807 then some (.agg (cs++news))else none
 |_,_=>none
def Bg(sz:Nat)(c:aa):Option aa:=match c with
 |.agg cs=>some (.int .i64 (cs.length/sz:Nat))
 |_=>none
def isNil(ρ:List aa)(b:e9)(cs:List aa):Option Bool:=match b with
 |.real=>some false
 |.cZ=>some (match cs with | []=>true|_=>false)
 |.dyn x=>match x.den ρ with
  |.bool true=>match cs with
   |[]=>some true
   |_=>none
  |.bool false=>some false
  |_=>none
 |.map=>some false
 |.it=>some false
def Ku(P:Program)(cR:TypeId)(sz:Nat)(c:aa)(l:List aa):Option aa:=match c with
 |.agg cs=>if 0<sz/\l.length=sz/\AR P cR sz cs=true/\uL P cR l=true then some (.agg (m4 sz cs l))else none
 |_=>none
def JZ(sz:Nat)(x:aa):Option aa:=match x with
 |.mp false none iL cs=>if iL=sz/\0<sz/\bG cs=true/\cs.length=cs.length/sz*sz then some (.agg (e8 [.ca] sz++cs))else none
 |_=>none
def Lz(sz:Nat)(c:aa):Option aa:=match c with
 |.agg cs=>if 0<sz/\(jM (cs.take sz)).isSome=true/\(cs.take sz).length=sz then some (.agg (cs.take sz))else none
 |_=>none
def LA(c:aa):Option aa:=match c with
 |.agg (_::cs)=>some (.agg cs)
 |_=>none
def w6(sz:Nat)(cs:List aa):Nat:=(cs.drop sz).length/sz
def y8(sz:Nat)(cs:List aa)(i:Nat):aa:=
 if w6 sz cs=0 then .agg [.bool false]else .agg (.bool true::(chunk sz (cs.drop sz) (i%w6 sz cs)++hL sz (cs.drop sz) (i%w6 sz cs)))
def iU(ρ:List aa)(sz:Nat)(b:e9)(c:aa):Option aa:=match c with
 |.agg cs=>match isNil ρ b cs with
  |some true=>some .bC
  |some false=>match b with
   |.map=>some (.mp false none sz cs)
   |.it=>none
   |_=>some (.sl none sz 0 (cs.length/sz) cs)
  |none=>none
 |_=>none
def EI(x:aa):Option aa:=match x with
 |.bC=>some (.bool true)
 |.sl none _ _ _ _=>some (.bool false)
 |_=>none
def zh(c:aa):Bool:=match c with
 |.int .i64 _=>true
 |_=>false
def wY(x:aa):Bool:=match x with
 |.bC=>true
 |.sl none 1 _ len cs=>decide (cs.length=len)&&cs.all zh
 |_=>false
def EX(x:aa):Option aa:=if wY x=true then some x else none
def UT:aa->Int
 |.int _ n=>n
 |_=>0
def lP(cs:List aa):List aa:=((cs.map UT).mergeSort λx y=>decide (x<=y)).map (aa.int .i64)
def J0(p:Int):List Int->List Int
 |[]=>[]
 |y::ys=>if y=p then J0 p ys else y::J0 y ys
def agM:List Int->List Int
 |[]=>[]
 |x::xs=>x::J0 x xs
def E4(cs:List aa):List aa:=(agM (cs.map UT)).map (aa.int .i64)
def Kv(c:aa):Option aa:=match c with
 |.agg cs=>if cs.all zh=true/\cs.length<1099511627776 then some (.agg (lP cs))else none
 |_=>none
def Kw(ρ:List aa)(b:e9)(c:aa):Option aa:=match c with
 |.agg cs=>if cs.all zh=true/\cs.length<1099511627776 then(match isNil ρ b cs with
  |some true=>some .bC
  |some false=>some (.sl none 1 0 (E4 cs).length (E4 cs))
  |none=>none)else none
 |_=>none
def po(real:Bool)(sz:Nat)(x:aa):Option aa:=match x with
 |.bC=>if real=true then none else some (.agg [])
 |.sl none iL 0 len cs=>if iL=sz/\cs.length=len*sz then some (.agg cs)else none
 |_=>none
def A5(n:Nat)(x:aa):Option aa:=match x with
 |.bJ none _ cs=>if n=(cs.take n).length then some (.agg (cs.take n))else none
 |_=>none
def Prim.run(P:Program)(ρ:List aa):Prim->Option aa
 |.bin op t x y=>eB P op t (x.den ρ) (y.den ρ)
 |.un op x=>rH op (x.den ρ)
 |.conv s d x=>q5 P s d (x.den ρ)
 |.ext x i=>ll (x.den ρ) i
 |.agg n x=>vc n (x.den ρ)
 |.one x=>na (x.den ρ)
 |.row sz x i=>kp sz (x.den ρ) (i.den ρ)
 |.idx t x i=>uJ P t (x.den ρ) (i.den ρ)
 |.len t x=>ht P t (x.den ρ)
 |.slice t x lo hi=>p1 P t (x.den ρ) (lo.map (aS.den ρ)) (hi.map (aS.den ρ))
 |.iz qC l=>xK qC (ep ρ l)
 |.j2 l=>some (.agg (ep ρ l))
 |.mk z b n=>tL z b (n.den ρ)
 |.kX sz c i=>zj sz (c.den ρ) (i.den ρ)
 |.get sz fo n c i=>zk sz fo n (c.den ρ) (i.den ρ)
 |.put sz fo c i l=>vd sz fo (c.den ρ) (i.den ρ) (ep ρ l)
 |.push sz b c y=>uW sz b (c.den ρ) (y.den ρ)
 |.oG sz c=>Bg sz (c.den ρ)
 |.bK sz b c=>iU ρ sz b (c.den ρ)
 |.deref n x=>A5 n (x.den ρ)
 |.cont r sz x=>po r sz (x.den ρ)
 |.wZ x=>EI (x.den ρ)
 |.ints x=>EX (x.den ρ)
 |.ins cR sz c l=>Ku P cR sz (c.den ρ) (ep ρ l)
 |.keys sz x=>JZ sz (x.den ρ)
 |.mI sz c=>Lz sz (c.den ρ)
 |.lI c=>LA (c.den ρ)
 |.qz c=>Kv (c.den ρ)
 |.qA b c=>Kw ρ b (c.den ρ)
inductive Tree where
 |ret (v:aS)
 |jump (L:Nat) (l:List aS)
 |av (p:Prim) (t:Tree)
 |ite (c:aR) (a b:Tree)
 |call (g:FuncId) (args:List aS) (t:Tree)
 |kL (f:aR) (args:List aS) (t:Tree)
 |pick (sz:Nat) (c:aR) (t:Tree)
 |loop (L:Nat) (init:List aS) (body:Tree)
 |join (L:Nat) (body k:Tree)
 |die
 deriving Inhabited
inductive Out where
 |val (v:aa)
 |jump (L:Nat) (l:List aa)
abbrev b2:=List Bool->Nat
def b2.l(ω:b2):b2:=λp=>ω (false::p)
def b2.r(ω:b2):b2:=λp=>ω (true::p)
def b2.mk(a b:b2):b2:=λp=>match p with
 |false::p=>a p
 |true::p=>b p
 |[]=>0
@[simp]theorem b2.tf(a b:b2):(b2.mk a b).l=a:=rfl
@[simp]theorem b2.BD(a b:b2):(b2.mk a b).r=b:=rfl
def iter(step:b2->List aa->Option Out)(L:Nat):Nat->b2->List aa->Option Out
 |0,_,_=>none
 |k+1,ω,af=>match step ω.l af with
  |some (.jump cL cB)=>if cL=L then iter step L k ω.r cB else some (.jump cL cB)
  |o=>o
def eval(P:Program)(C:b2->FuncId->List aa->Option aa)(n:Nat):Tree->b2->List aa->Option Out
 |.ret v,_,ρ=>some (.val (v.den ρ))
 |.jump L l,_,ρ=>some (.jump L (ep ρ l))
 |.av p t,ω,ρ=>match p.run P ρ with
  |some v=>eval P C n t ω (ρ++[v])
  |none=>none
 |.ite c a b,ω,ρ=>match c.den ρ with
  |.bool true=>eval P C n a ω ρ
  |.bool false=>eval P C n b ω ρ
  |_=>none
 |.call g args t,ω,ρ=>match C ω.l g (ep ρ args)with
  |some v=>eval P C n t ω.r (ρ++[v])
  |none=>none
 |.kL f args t,ω,ρ=>match f.den ρ with
  |.fn g caps=>match C ω.l g (ep ρ args++caps)with
   |some v=>eval P C n t ω.r (ρ++[v])
   |none=>none
  |_=>none
 |.pick sz c t,ω,ρ=>match c.den ρ with
  |.agg cs=>eval P C n t ω.r (ρ++[y8 sz cs (ω.l [])])
  |_=>none
 |.loop L init body,ω,ρ=>iter (λω af=>eval P C n body ω (ρ++af)) L n ω (ep ρ init)
 |.join L body k,ω,ρ=>match eval P C n body ω.l ρ with
  |some (.jump cL af)=>if cL=L then eval P C n k ω.r (ρ++af)else some (.jump cL af)
  |o=>o
 |.die,_,_=>none
inductive aL where
 |e (x:aR)
 |undef
 |bT
 |ptr (i off:Nat)
 |c8
 |cq (y:Nat)
 |own (k:Nat)
 |fF (k:Nat) (x:aR) (fo:Nat)
 |fQ (x:aR) (sz fo:Nat)
 |ft (l:List aL) (fo:Nat)
 |fn (f:FuncId) (caps:List aL)
 |agg (l:List aL)
 |bD (l:List aL)
 |lit (sz len:Nat) (l:List aL)
 deriving Inhabited
inductive ga where
 |cells (l:List aL)
 |c8
 |gone
 deriving Inhabited
structure c6 where
 sz:Nat
 born:e9
 c:aR
 deriving Inhabited
structure cj where
 g:List aL
 f:FuncId
 ps:List Nat
 kV:Code
 body:Code
 p:Nat
 pend:Option (Option Nat)
 busy:Bool
 deriving Inhabited
structure Sym where
 g:List aL
 bx:List ga
 bd:List (Option c6)
 ys:List cj
 cd:Nat
 cU:List Nat
 ey:Nat
 site:Nat
 base:Nat
 dO:Nat
 bb:Bool
 deriving Inhabited
end
section
open Go Go.RowKit
variable[cQ]
def Cx:aa->aa->Bool
 |.int k a,.int bB b=>decide (k=bB)&&decide (a=b)
 |.bool a,.bool b=>a==b
 |.bC,.bC=>true
 |.ca,.ca=>true
 |.eL,.eL=>true
 |.agg [],.agg []=>true
 |_,_=>false
def aR.b:aR->aR->Bool
 |.var i,.var j=>decide (i=j)
 |.proj x i,.proj y j=>decide (i=j)&&x.b y
 |.bu v,.bu u=>Cx v u
 |_,_=>false
def e9.b:e9->e9->Bool
 |.real,.real=>true
 |.cZ,.cZ=>true
 |.dyn x,.dyn y=>x.b y
 |.map,.map=>true
 |.it,.it=>true
 |_,_=>false
def e9.still:e9->Bool
 |.dyn _=>false
 |.map | .it=>false
 |_=>true
def e9.j2:e9->Bool
 |.map | .it=>false
 |_=>true
def e9.isMap:e9->Bool
 |.map=>true
 |_=>false
def e9.Kx:e9->Bool
 |.it=>true
 |_=>false
mutual
def aL.b:aL->aL->Bool
 |.e x,.e y=>x.b y
 |.undef,.undef=>true
 |.ptr i o,.ptr j p=>decide (i=j)&&decide (o=p)
 |.c8,.c8=>true
 |.cq a,.cq b=>decide (a=b)
 |.own k,.own j=>decide (k=j)
 |.fF k x fo,.fF j y L8=>decide (k=j)&&x.b y&&decide (fo=L8)
 |.fQ x s fo,.fQ y t L8=>x.b y&&decide (s=t)&&decide (fo=L8)
 |.ft l a,.ft m b=>decide (a=b)&&rF l m
 |.fn f l,.fn g m=>decide (f=g)&&rF l m
 |.agg l,.agg m=>rF l m
 |.bD l,.bD m=>rF l m
 |.lit a b l,.lit c d m=>decide (a=c)&&decide (b=d)&&rF l m
 |_,_=>false
def rF:List aL->List aL->Bool
 |[],[]=>true
 |x::l,y::m=>x.b y&&rF l m
 |_,_=>false
end
mutual
def aL.cu:aL->Option aS
 |.e x=>some (.e x)
 |.agg l=>(hT l).map .agg
 |.bD l=>(hT l).map .bD
 |.lit sz len l=>(hT l).map (.lit sz len)
 |.fn f l=>(hT l).map (.fn f)
 |.ft l 0=>(hT l).map .ref
 |_=>none
def hT:List aL->Option (List aS)
 |[]=>some []
 |x::l=>match x.cu,hT l with
  |some p,some ps=>some (p::ps)
  |_,_=>none
end
mutual
def aL.owns:aL->List Nat
 |.own k=>[k+k]
 |.fF k _ _=>[k+k]
 |.ptr i _=>[i+i+1]
 |.agg l=>nV l
 |.bD l=>nV l
 |.lit _ _ l=>nV l
 |.fn _ l=>nV l
 |.ft l _=>nV l
 |_=>[]
def nV:List aL->List Nat
 |[]=>[]
 |x::l=>x.owns++nV l
end
mutual
def aL.cx(i:Nat)(l:List aL):aL->aL
 |.ptr j o=>if j=i then .ft l o else .ptr j o
 |.fn f m=>.fn f (uO i l m)
 |.agg m=>.agg (uO i l m)
 |.bD m=>.bD (uO i l m)
 |.lit a b m=>.lit a b (uO i l m)
 |.ft m o=>.ft (uO i l m) o
 |.own k=>.own k
 |.fF k x fo=>.fF k x fo
 |.e y=>.e y
 |.undef=>.undef
 |.bT=>.bT
 |.c8=>.c8
 |.cq a=>.cq a
 |.fQ y s fo=>.fQ y s fo
def uO(i:Nat)(l:List aL):List aL->List aL
 |[]=>[]
 |v::m=>v.cx i l::uO i l m
end
mutual
def aL.bK(k:Nat)(x:aR):aL->aL
 |.own j=>if j=k then .e x else .own j
 |.fF j i fo=>if j=k then .bT else .fF j i fo
 |.fn f l=>.fn f (u0 k x l)
 |.ft l o=>.ft (u0 k x l) o
 |.agg l=>.agg (u0 k x l)
 |.bD l=>.bD (u0 k x l)
 |.lit a b l=>.lit a b (u0 k x l)
 |.e y=>.e y
 |.undef=>.undef
 |.bT=>.bT
 |.ptr i o=>.ptr i o
 |.c8=>.c8
 |.cq a=>.cq a
 |.fQ y s fo=>.fQ y s fo
def u0(k:Nat)(x:aR):List aL->List aL
 |[]=>[]
 |v::l=>v.bK k x::u0 k x l
end
mutual
def aL.ts(k:Nat)(all:Bool):aL->aL
 |.own j=>if j=k/\all=true then .bT else .own j
 |.fF j i fo=>if j=k then .bT else .fF j i fo
 |.fn f l=>.fn f (u1 k all l)
 |.ft l o=>.ft (u1 k all l) o
 |.agg l=>.agg (u1 k all l)
 |.bD l=>.bD (u1 k all l)
 |.lit a b l=>.lit a b (u1 k all l)
 |.e y=>.e y
 |.undef=>.undef
 |.bT=>.bT
 |.ptr i o=>.ptr i o
 |.c8=>.c8
 |.cq a=>.cq a
 |.fQ y s fo=>.fQ y s fo
def u1(k:Nat)(all:Bool):List aL->List aL
 |[]=>[]
 |v::l=>v.ts k all::u1 k all l
end
def aL.E5:aL->Bool
 |.bT=>false
 |_=>true
def ga.map(f:aL->aL):ga->ga
 |.cells l=>.cells (l.map f)
 |.c8=>.c8
 |.gone=>.gone
def aL.kI:aL->aL
 |.own _=>.bT
 |.fF _ _ _=>.bT
 |.e y=>.e y
 |.undef=>.undef
 |.ptr i o=>.ptr i o
 |.c8=>.c8
 |.cq a=>.cq a
 |.fQ y s fo=>.fQ y s fo
 |v=>match v.owns.filter (·%2==0)with
  |[]=>v
  |_=>.bT
def Sym.get(S:Sym)(t:Nat):aL:=S.g.getD t .bT
def Sym.put(S:Sym)(d:Option Tmp)(v:aL):Sym:=match d with
 |some d=>{ S with g:=S.g.set d v }
 |none=>S
def Sym.dD(S:Sym)(f:aL->aL):Sym:={ S with g:=S.g.map f,bx:=S.bx.map (ga.map f) }
def Ky:aa->aL
 |.undef=>.undef
 |.bad=>.bT
 |v=>if v.plain then .e (.bu v)else .bT
def Sym.ay(S:Sym):Operand->aL
 |.tmp t=>S.get t
 |.const v=>Ky (jT v)
 |.func f=>.fn f []
 |.global _=>.bT
abbrev M:=Except String Tree
def die(s:String):M:=.error s
def FG(x:aR)(a b:M):M:=match a,b with
 |.ok a,.ok b=>.ok (.ite x a b)
 |.error e,_=>.error e
 |_,.error e=>.error e
def emit(p:Prim)(cU:Bool)(S:Sym)(k:aR->Sym->M):M:=do
 let t ←k (.var S.cd) { S with cd:=S.cd+1,cU:=if cU then S.cd::S.cU else S.cU }
 pure (.av p t)
def Sym.hK(S:Sym)(k:Nat)(x:aR):Sym:={ S.dD (aL.bK k x)with bd:=S.bd.set k none,bb:=S.bb||decide (k<S.base) }
def Kz(k:Nat)(S:Sym)(K:Sym->M):M:=match S.bd.getD k none with
 |some a=>emit (.bK a.sz a.born a.c) true S λx S=>K (S.hK k x)
 |none=>die "freeze"
def Sym.oA(S:Sym)(i:Nat)(l:List aL):Sym:={ S.dD (aL.cx i l)with bx:=(S.bx.map (ga.map (aL.cx i l))).set i .gone }
def kj:Nat->List Nat->Sym->(Sym->M)->M
 |0,_,_,_=>die "freeze- too deep"
 |_,[],S,K=>K S
 |n+1,k::l,S,K=>if k%2=0 then match S.bd.getD (k/2) none with
   |some _=>Kz (k/2) S λS=>kj n l S K
   |none=>kj n l S K
  else match S.bx.getD (k/2) .gone with
   |.cells c=>match nV c with
    |[]=>match hT c with
     |some _=>if k/2<S.dO then die "freeze- an elder box" else kj n l (S.oA (k/2) c) K
     |none=>die "freeze- a box"
    |ck=>kj n (ck++k::l) S K
   |_=>kj n l S K
def Sym.E6(S:Sym):aR->Bool
 |.bu v=>v.one
 |.proj _ _=>true
 |.var i=>S.cU.contains i
def Sym.sP(S:Sym)(a:c6)(d:Option Tmp):Sym:=Sym.put { S with bd:=S.bd++[some a] } d (.own S.bd.length)
def Sym.dm(S:Sym)(k:Nat)(all:Bool)(a:c6):Sym:={ S.dD (aL.ts k all)with bd:=S.bd.set k (some a),bb:=S.bb||decide (k<S.base) }
def Sym.arr(S:Sym)(k:Nat):Option c6:=S.bd.getD k none
def Sym.var(S:Sym):Sym:={ S with cd:=S.cd+1 }
def Sym.hq(S:Sym)(i:Nat)(l:List aL):Sym:={ S with bx:=S.bx.set i (.cells l) }
def Sym.gu(S:Sym)(d:Option Tmp)(l:List aL):Sym:=Sym.put { S with bx:=S.bx++[ga.cells l] } d (.ptr S.bx.length 0)
def aL.yN(S:Sym):aL->Bool
 |.e x=>S.E6 x
 |.ptr _ _ | .own _ | .fn _ _ | .lit _ _ _ | .ft _ _ | .c8 | .cq _ | .bT=>true
 |_=>false
structure zr where
 new:FuncId
 qz:Option FuncId
 qA:Option FuncId
 deriving Inhabited
structure Ctx where
 P:Program
 inl:List FuncId
 own:List (Nat×Nat)
 TK:List (Nat×Nat)
 nb:List (FuncId×Option (Nat×Nat)×Nat×Bool)
 eM:TypeId
 hI:zr
section
variable(X:Ctx)
def uP(t:TypeId)(v:aL)(S:Sym)(K:List aL->Sym->M):M:=
 match ik X.P t,v with
 |some true,.agg l=>if l.length=X.P.cellsOf t then K l S else die "cells"
 |some true,.e x=>emit (.agg (X.P.cellsOf t) (.e x)) false S λx S=>K ((List.range (X.P.cellsOf t)).map λj=>.e (.proj x j)) S
 |some false,.e x=>if S.E6 x then K [.e x] S else emit (.one (.e x)) true S λx S=>K [.e x] S
 |some false,.ptr i o=>K [.ptr i o] S
 |some false,.own k=>K [.own k] S
 |some false,.fn f l=>K [.fn f l] S
 |some false,.ft l o=>K [.ft l o] S
 |some false,.c8=>K [.c8] S
 |some false,.cq y=>K [.cq y] S
 |some false,.lit a b l=>K [.lit a b l] S
 |_,_=>die "cells of what is none"
def wA:List (Nat×TypeId×aL)->Sym->(List (Nat×List aL)->Sym->M)->M
 |[],S,K=>K [] S
 |(i,t,v)::l,S,K=>uP X t v S λc S=>wA l S λr S=>K ((i,c)::r) S
def AX(l:List aL)(off:Nat)(af:List aL):List aL:=l.take off++af++l.drop (off+af.length)
def w7(place:Nat->Option (Nat×Nat))(cells:List aL):List (Nat×List aL)->Option (List aL)
 |[]=>some cells
 |(i,v)::rest=>match place i with
  |none=>none
  |some (off,size)=>if v.length=size/\off+size<=cells.length then w7 place (AX cells off v) rest else none
def oJ:List aa->List aL
 |[]=>[]
 |v::l=>.e (.bu v)::oJ l
def E7(z:List aL):Nat->List aL
 |0=>[]
 |n+1=>z++E7 z n
def E8(S:Sym)(gf:Option Nat)(t:TypeId)(i off:Nat):Option aL:=match S.bx[i]?,ik X.P t with
 |some (.cells l),some true=>if off+X.P.cellsOf t<=l.length/\(X.P.info? t).isSome/\(gf.all λb=>decide (i<b))then some (.agg ((l.drop off).take (X.P.cellsOf t)))else none
 |some (.cells l),some false=>if(gf.all λb=>decide (i<b))then l[off]? else none
 |_,_=>none
def yO(lx:Option Nat)(S:Sym):List aL->Option (List aS)
 |[]=>some []
 |v::l=>match v,yO lx S l with
  |.c8,some ps=>some (.e (.bu (.ptr 0 0))::ps)
  |.ptr i 0,some ps=>match S.bx[i]? with
   |some .c8=>if(lx.all λb=>decide (i<b))then some (.e (.bu (.ptr 0 0))::ps)else none
   |_=>none
  |v,some ps=>match v.cu with
   |some p=>some (p::ps)
   |none=>none
  |_,none=>none
def thaw(lx:Option Nat)(key:Nat)(ck:List Nat)(S:Sym)(K:Sym->M):M:=match ck with
 |[]=>K S
 |k::ck=>if lx.isSome then die "x" else kj 40 (k::ck) S K
def Iu(o:Oper)(c x y:Operand)(S:Sym)(K:Sym->M):M:=match S.ay c with
 |.e (.bu (.bool t))=>K (S.put o.dst (if t then S.ay x else S.ay y))
 |.e c=>do
  let a ←K (S.put o.dst (S.ay x))
  let b ←K (S.put o.dst (S.ay y))
  pure (.ite c a b)
 |_=>die "pick"
def I1(o:Oper)(x:Operand)(S:Sym)(K:Sym->M):M:=match S.ay x with
 |.ptr i off=>K (S.put o.dst (.ptr i off))
 |.fn f l=>K (S.put o.dst (.fn f l))
 |_=>die "nilCheck"
def I2(o:Oper)(x:Operand)(i:Nat)(S:Sym)(K:Sym->M):M:=match S.ay x with
 |.bD l=>match l[i]? with
  |some v=>K (S.put o.dst v)
  |none=>die "extract"
 |.e x=>emit (.ext (.e x) i) false S λv S=>K (S.put o.dst (.e v))
 |_=>die "extract"
def Hp(o:Oper)(t:TypeId)(x:Operand)(f:Nat)(S:Sym)(K:Sym->M):M:=match X.P.underlying t with
 |some (.struct fs)=>match fs[f]? with
  |some fd=>if ik X.P fd.type=some false then(match S.ay x with
    |.agg l=>match l[fd.offset]? with
     |some v=>K (S.put o.dst v)
     |none=>die "field"
    |.e e=>if fd.offset<X.P.cellsOf t then emit (.agg (X.P.cellsOf t) (.e e)) false S λv S=>K (S.put o.dst (.e (.proj v fd.offset)))else die "field"
    |_=>die "field")else die "field"
  |none=>die "field"
 |_=>die "field"
def HQ(o:Oper)(t:TypeId)(x:Operand)(f:Nat)(S:Sym)(K:Sym->M):M:=match X.P.underlying t with
 |some (.struct fs)=>match fs[f]? with
  |some fd=>if X.P.cellsOf fd.type=0\/(X.P.info? fd.type).isNone then die "fieldAddr" else match S.ay x with
   |.ptr i off=>K (S.put o.dst (.ptr i (off+fd.offset)))
   |.fQ e sz fo=>K (S.put o.dst (.fQ e sz (fo+fd.offset)))
   |.ft l fo=>K (S.put o.dst (.ft l (fo+fd.offset)))
   |.fF k e fo=>K (S.put o.dst (.fF k e (fo+fd.offset)))
   |.e x=>emit (.deref (X.P.cellsOf t) (.e x)) false S λv S=>K (S.put o.dst (.fQ v (X.P.cellsOf t) fd.offset))
   |_=>die "fieldAddr"
  |none=>die "fieldAddr"
 |_=>die "fieldAddr"
def GW(o:Oper)(t:TypeId)(x i:Operand)(S:Sym)(K:Sym->M):M:=match X.P.underlying t with
 |some (.slice e)=>match(S.ay i).cu with
  |some pi=>if(X.P.info? e).isNone\/X.P.cellsOf e=0 then die "indexAddr" else match S.ay x with
   |.own k=>match S.arr k with
    |some a=>if a.sz=X.P.cellsOf e/\a.born.j2=true then emit (.kX a.sz a.c pi) true S λv S=>K (S.put o.dst (.fF k v 0))else die "indexAddr"
    |none=>die "indexAddr"
   |v=>match v.cu with
    |some Vr=>emit (.row (X.P.cellsOf e) Vr pi) false S λv S=>K (S.put o.dst (.fQ v (X.P.cellsOf e) 0))
    |none=>die "indexAddr"
  |none=>die "indexAddr"
 |some (.array len e)=>match S.ay i,S.ay x with
  |.e (.bu (.int _ n)),.ptr b off=>if 0<=n/\n<(len:Int)/\(X.P.info? e).isSome then K (S.put o.dst (.ptr b (off+n.toNat*X.P.cellsOf e)))else die "indexAddr"
  |_,_=>die "indexAddr"
 |_=>die "indexAddr"
def Iv(lx:Option Nat)(o:Oper)(t:TypeId)(x:Operand)(S:Sym)(K:Sym->M):M:=match S.ay x with
 |.ptr i off=>match E8 X S lx t i off with
  |some v=>K (S.put o.dst v)
  |none=>die "x"
 |.ft l fo=>match ik X.P t with
  |some true=>if fo+X.P.cellsOf t<=l.length/\(X.P.info? t).isSome then K (S.put o.dst (.agg ((l.drop fo).take (X.P.cellsOf t))))else die "x"
  |some false=>match l[fo]? with
   |some v=>K (S.put o.dst v)
   |none=>die "x"
  |none=>die "x"
 |.fQ e sz fo=>match ik X.P t with
  |some true=>if fo+X.P.cellsOf t<=sz/\(X.P.info? t).isSome then K (S.put o.dst (.agg ((List.range (X.P.cellsOf t)).map λj=>.e (.proj e (fo+j)))))else die "x"
  |some false=>if fo<sz then K (S.put o.dst (.e (.proj e fo)))else die "x"
  |none=>die "x"
 |.fF k i fo=>match S.arr k with
  |some a=>match ik X.P t with
   |some true=>if fo+X.P.cellsOf t<=a.sz/\(X.P.info? t).isSome then emit (.get a.sz fo (X.P.cellsOf t) a.c i) false S λv S=>K (S.put o.dst (.agg ((List.range (X.P.cellsOf t)).map λj=>.e (.proj v j))))else die "x"
   |some false=>if fo<a.sz then emit (.get a.sz fo 1 a.c i) false S λv S=>K (S.put o.dst (.e (.proj v 0)))else die "x"
   |none=>die "x"
  |none=>die "x"
 |.e x=>match ik X.P t with
  |some true=>if X.P.cellsOf t=0\/(X.P.info? t).isNone then die "x" else emit (.deref (X.P.cellsOf t) (.e x)) false S λv S=>K (S.put o.dst (.agg ((List.range (X.P.cellsOf t)).map λj=>.e (.proj v j))))
  |some false=>emit (.deref 1 (.e x)) false S λv S=>K (S.put o.dst (.e (.proj v 0)))
  |none=>die "x"
 |_=>die "x"
def DC(lx:Option Nat)(o:Oper)(t:TypeId)(x y:Operand)(S:Sym)(K:Sym->M):M:=
 if o.dst.isSome\/(X.P.info? t).isNone then die "x" else match S.ay x with
 |.ptr i off=>uP X t (S.ay y) S λc S=>match S.bx[i]? with
  |some (ga.cells l)=>if c.length=X.P.cellsOf t/\c.all aL.E5=true/\off+c.length<=l.length/\(lx.all λb=>decide (off=0)&&decide (b<=i)&&decide (l.length=c.length))then K (S.hq i (AX l off c))else die "x"
  |_=>die "x"
 |.fF _ _ _=>if lx.isSome\/X.P.cellsOf t=0 then die "x" else
  kj 40 (S.ay y).owns S λS=>uP X t (S.ay y) S λc S=>match S.ay x with
   |.fF k e fo=>match S.arr k,hT c with
    |some a,some ps=>if c.length≠X.P.cellsOf t\/a.sz<fo+c.length\/a.born.j2=false then die "x" else
      emit (.put a.sz fo a.c e ps) false S λv S=>K (S.dm k false { a with c:=v })
    |_,_=>die "x"
   |_=>die "x"
 |.fQ _ _ _=>pure .die
 |_=>die "x"
def HR(o:Oper)(t:TypeId)(parts:Array (Nat×Operand))(S:Sym)(K:Sym->M):M:=match X.P.underlying t,ki X.P t with
 |some (.struct fs),some z=>if bG z/\fs.toList.all (λf=>(X.P.info? f.type).isSome)then
   wA X (parts.toList.map λp=>(p.1,((fs[p.1]?).map (·.type)).getD 0,S.ay p.2)) S λcs S=>match w7 (ya X.P fs) (oJ z) cs with
    |some l=>K (S.put o.dst (.agg l))
    |none=>die "build"
  else die "build"
 |some (.array _ e),some z=>if bG z/\(X.P.info? e).isSome then
   wA X (parts.toList.map λp=>(p.1,e,S.ay p.2)) S λcs S=>match w7 (λi=>some (i*X.P.cellsOf e,X.P.cellsOf e)) (oJ z) cs with
    |some l=>K (S.put o.dst (.agg l))
    |none=>die "build"
  else die "build"
 |_,_=>die "build"
def Ab(lx:Option Nat)(key:Nat)(o:Oper)(t:TypeId)(len:Nat)(parts:Array (Nat×Operand))(S:Sym)(K:Sym->M):M:=match X.P.underlying t with
 |some (.slice e)=>match ki X.P e with
  |some z=>if bG z/\(X.P.info? e).isSome/\z.length=X.P.cellsOf e/\0<z.length/\len*X.P.cellsOf e<=16777216 then
    thaw lx key (nV (parts.toList.map λp=>S.ay p.2)) S λS=>
     wA X (parts.toList.map λp=>(p.1,e,S.ay p.2)) S λcs S=>match w7 (λi=>some (i*X.P.cellsOf e,X.P.cellsOf e)) (E7 (oJ z) len) cs with
      |some l=>match hT l with
       |some ps=>if o.dst.any (λd=>X.own.contains (S.site,d))then(if lx.isSome then die "own" else emit (.j2 ps) false S λv S=>K (S.sP ⟨X.P.cellsOf e,.real,v⟩ o.dst))else K (S.put o.dst (.lit (X.P.cellsOf e) len l))
       |none=>die "buildSlice cells"
      |none=>die "buildSlice"
   else die "buildSlice"
  |none=>die "buildSlice"
 |_=>die "buildSlice"
def D8(lx:Option Nat)(o:Oper)(t:TypeId)(l c:Operand)(S:Sym)(K:Sym->M):M:=if lx.isSome then die "makeSlice" else match X.P.underlying t with
 |some (.slice e)=>match S.ay l,S.ay c,ki X.P e with
  |.e a,.e b,some z=>if a.b b/\bG z/\z.length=X.P.cellsOf e/\0<z.length/\(X.P.info? e).isSome then
    emit (.mk z (X.P.bytesOf e) (.e a)) false S λv S=>K (S.sP ⟨X.P.cellsOf e,.real,v⟩ o.dst)
   else die "makeSlice"
  |_,_,_=>die "makeSlice"
 |_=>die "makeSlice"
def zY(S:Sym):Option Operand->Option (Option aS)
 |none=>some none
 |some x=>(S.ay x).cu.map some
def HS(lx:Option Nat)(key:Nat)(o:Oper)(t:TypeId)(x:Operand)(lo hi:Option Operand)(S:Sym)(K:Sym->M):M:=
 thaw lx key (S.ay x).owns S λS=>match(S.ay x).cu,zY S lo,zY S hi with
  |some p,some a,some b=>emit (.slice t p a b) true S λv S=>K (S.put o.dst (.e v))
  |_,_,_=>die "slice"
def Dl(lx:Option Nat)(o:Oper)(t:TypeId)(x y:Operand)(S:Sym)(K:Sym->M):M:=if lx.isSome then die "append" else match X.P.underlying t with
 |some (.slice e)=>if(X.P.info? e).isSome/\0<X.P.cellsOf e/\(zeroOf X.P e).any (λz=>z.cells.size=X.P.cellsOf e)=true then
   kj 40 (S.ay y).owns S λS=>match(S.ay y).cu with
   |some L9=>match S.ay x with
    |.own k=>match S.arr k with
     |some a=>if a.sz=X.P.cellsOf e/\a.born.still=true then emit (.push a.sz (X.P.bytesOf e) a.c L9) false S λv S=>K ((S.dm k true { a with c:=v }).put o.dst (.own k))else die "append"
     |none=>die "append"
    |.e (.bu .bC)=>emit (.push (X.P.cellsOf e) (X.P.bytesOf e) (.bu (.agg [])) L9) false S λv S=>K (S.sP ⟨X.P.cellsOf e,.cZ,v⟩ o.dst)
    |_=>die "append to what is not ours"
   |none=>die "append"
  else die "append"
 |_=>die "append"
def I3(o:Oper)(t:TypeId)(x:Operand)(S:Sym)(K:Sym->M):M:=match S.ay x with
 |.own k=>match X.P.underlying t,S.arr k with
  |some (.slice _),some a=>if a.born.j2=false then die "len" else emit (.oG a.sz a.c) true S λv S=>K (S.put o.dst (.e v))
  |_,_=>die "len"
 |v=>match X.P.underlying t with
  |some (.array n _)=>K (S.put o.dst (.e (.bu (.int .i64 n))))
  |_=>match v.cu with
   |some p=>emit (.len t p) true S λv S=>K (S.put o.dst (.e v))
   |none=>die "len"
abbrev fh:=Nat->FuncId->List aL->Sym->(aL->Sym->M)->M
def mW:List (FuncId×Option (Nat×Nat)×Nat×Bool)->FuncId->Option (Option (Nat×Nat)×Nat×Bool)
 |[],_=>none
 |(f,r)::l,g=>if f=g then some r else mW l g
def y9(r:Bool)(sz:Nat)(x:aS)(S:Sym)(K:c6->Sym->M):M:=if sz=0 then die "own of nothing" else emit (.cont r sz x) false S λc S=>
 if r then K ⟨sz,.real,c⟩ S else emit (.wZ x) true S λb S=>K ⟨sz,.dyn b,c⟩ S
def uI(r:Option (Nat×Nat)×Nat×Bool)(x:aR)(d:Option Tmp)(S:Sym)(K:Sym->M):M:=match r with
 |(none,sz,b)=>y9 b sz (.e x) S λa S=>K (S.sP a d)
 |(some (n,j),sz,b)=>emit (.agg n (.e x)) false S λx S=>y9 b sz (.e (.proj x j)) S λa S=>
   K (Sym.put { S with bd:=S.bd++[some a] } d (.agg (((List.range n).map λi=>aL.e (.proj x i)).set j (.own S.bd.length))))
def ad7(S:Sym)(i:Nat):Bool:=match S.bx.getD i .gone with
 |.c8=>true
 |_=>false
def QX(S:Sym)(l:List aL):List Nat:=(nV l).filter λk=>!(k%2==1&&ad7 S (k/2))
def AK(inl:fh)(yl:fh)(lx:Option Nat)(key:Nat)(o:Oper)(f:Operand)(args:List Operand)(S:Sym)(K:Sym->M):M:=match S.ay f with
 |.fn g caps=>match X.P.funcs[g]? with
  |some fn=>if fn.name = "runtime.NumGoroutine" \/ fn.body.isNone then die "call" else
   if g=X.hI.new then(if lx.isSome then die "x" else thaw lx key (nV (args.map S.ay)) S λS=>match S.ay f,hT (args.map S.ay)with
    |.fn g' [],some [p]=>if g'=g then emit (.ints p) false S λ_ S=>K (Sym.put { S with bx:=S.bx++[ga.c8] } o.dst (.ptr S.bx.length 0))else die "dice"
    |_,_=>die "dice")else
   if X.hI.qz=some g then(if lx.isSome then die "sort" else match caps,args.map S.ay with
    |[],[.own k]=>match S.arr k with
     |some a=>if a.sz=1/\a.born.still=true then emit (.qz a.c) false S λv S=>K ((S.dm k false { a with c:=v }).put o.dst .undef)else die "sort"
     |none=>die "sort"
    |_,_=>die "sort")else
   if X.hI.qA=some g then(if lx.isSome then die "compact" else match caps,args.map S.ay with
    |[],[.own k]=>match S.arr k with
     |some a=>if a.sz=1/\a.born.still=true then emit (.qA a.born a.c) true S λv S=>K ((S.dm k true a).put o.dst (.e v))else die "compact"
     |none=>die "compact"
    |_,_=>die "compact")else
   if X.inl.contains g&&lx.isNone then inl key g (args.map S.ay++caps) S λv S=>K (S.put o.dst v)else
    thaw lx key (QX S (args.map S.ay++caps)) S λS=>match S.ay f with
     |.fn g' caps=>if g'=g then match yO lx S (args.map S.ay++caps)with
      |some ps=>Except.map (Tree.call g ps) (match mW X.nb g with
        |some r=>if X.TK.contains (S.site,key)then uI r (.var S.cd) o.dst S.var K else if lx.isSome then die "own result" else K (S.var.put o.dst (.e (.var S.cd)))
        |none=>K (S.var.put o.dst (.e (.var S.cd))))
      |none=>die "x" else die "call"
     |_=>die "call"
  |none=>die "call"
 |.e _=>if lx.isSome&&!X.nb.isEmpty then die "a value is called where own results are" else thaw lx key (QX S (args.map S.ay)) S λS=>match S.ay f with
  |.e x=>match yO lx S (args.map S.ay)with
   |some ps=>Except.map (Tree.kL x ps) (K (S.var.put o.dst (.e (.var S.cd))))
   |none=>die "args of a value"
  |_=>die "call"
 |.cq y=>if lx.isSome then die "yield" else yl key y (args.map S.ay) S λv S=>K (S.put o.dst v)
 |_=>die "call of what is none"
def Ju(P:Program)(cR:TypeId):Bool:=laidOutB P&&decide (cR<P.types.size)&&P.keyTypeAt 3 cR&&(match P.underlying cR with|some (.array _ _)|some (.struct _)=>true|_=>false)
theorem Zy{P:Program}{cR:TypeId}(h:Ju P cR=true):Maps.Keyed P cR:=by
 unfold Ju at h;simp  at h;exact Maps.Keyed.of_law (deep_law_laid h.1.1.1 (m:=3) (by omega) h.1.1.2 h.1.2 h.2)
def Dc(lx:Option Nat)(o:Oper)(t:TypeId)(r:Option Operand)(S:Sym)(K:Sym->M):M:=if lx.isSome\/r.isSome then die "makeMap" else match X.P.underlying t with
 |some (.map cR _)=>if 0<X.P.cellsOf cR then emit (.j2 []) false S λv S=>K (S.sP ⟨X.P.cellsOf cR,.map,v⟩ o.dst)else die "makeMap"
 |_=>die "makeMap"
def CZ(lx:Option Nat)(o:Oper)(t:TypeId)(m k:Operand)(S:Sym)(K:Sym->M):M:=if lx.isSome\/o.dst.isSome then die "mapUpdate" else match X.P.underlying t with
 |some (.map cR _)=>if Ju X.P cR then match S.ay k,S.ay m with
   |.agg l,.own k=>match S.arr k,hT l with
    |some a,some ps=>if a.born.isMap=true then emit (.ins cR a.sz a.c ps) false S λv S=>K (S.dm k false { a with c:=v })else die "mapUpdate"
    |_,_=>die "mapUpdate"
   |_,_=>die "mapUpdate"
  else die "mapUpdate- key"
 |_=>die "mapUpdate"
def Dm(lx:Option Nat)(o:Oper)(t:TypeId)(x:Operand)(S:Sym)(K:Sym->M):M:=if lx.isSome then die "range" else match X.P.underlying t with
 |some (.map cR _)=>kj 40 (S.ay x).owns S λS=>match S.ay x with
  |.e v=>emit (.keys (X.P.cellsOf cR) (.e v)) false S λc S=>K (S.sP ⟨X.P.cellsOf cR,.it,c⟩ o.dst)
  |_=>die "range"
 |_=>die "range"
def D9(lx:Option Nat)(o:Oper)(x:Operand)(str:Bool)(S:Sym)(K:Sym->M):M:=if lx.isSome\/str=true then die "next" else match S.ay x with
 |.own k=>match S.arr k with
  |some a=>if a.born.Kx=true then do
    let A ←emit (.lI (.var S.cd)) false S.var λv S=>K ((S.dm k false { a with c:=v }).put o.dst (.bD [.e (.bu (.bool true)),.bT,.bT]));let B ←K (S.var.put o.dst (.bD [.e (.bu (.bool false))]))
    pure (.pick a.sz a.c (.ite (.proj (.var S.cd) 0) A B))
   else die "next"
  |none=>die "next"
 |_=>die "next"
def DD(lx:Option Nat)(o:Oper)(x:Operand)(S:Sym)(K:Sym->M):M:=if lx.isSome then die "entry" else match S.ay x with
 |.own k=>match S.arr k with
  |some a=>if a.born.Kx=true then emit (.mI a.sz a.c) false S λv S=>K (S.put o.dst (.bD [.agg ((List.range a.sz).map λj=>.e (.proj v j)),.bT]))else die "entry"
  |none=>die "entry"
 |_=>die "entry"
def sQ(inl:fh)(yl:fh)(lx:Option Nat)(key:Nat)(o:Oper)(S:Sym)(K:Sym->M):M:=match o.op with
 |.move x | .assign x=>K (S.put o.dst (S.ay x))
 |.pick c x y=>Iu o c x y S K
 |.binOp op t x y _=>match(S.ay x).cu,(S.ay y).cu with
  |some p,some q=>emit (.bin op t p q) true S λv S=>K (S.put o.dst (.e v))
  |_,_=>die "binOp"
 |.unOp .not _ x=>match(S.ay x).cu with
  |some (.e (.bu (.bool b)))=>K (S.put o.dst (.e (.bu (.bool !b))))
  |some p=>emit (.un .not p) true S λv S=>K (S.put o.dst (.e v))
  |none=>die "unOp"
 |.unOp op _ x=>match(S.ay x).cu with
  |some p=>emit (.un op p) true S λv S=>K (S.put o.dst (.e v))
  |none=>die "unOp"
 |.convert src dst x=>match(S.ay x).cu with
  |some p=>emit (.conv src dst p) true S λv S=>K (S.put o.dst (.e v))
  |none=>die "convert"
 |.nilCheck x=>I1 o x S K
 |.extract x i=>I2 o x i S K
 |.fieldAddr t x f=>HQ X o t x f S K
 |.field t x f=>Hp X o t x f S K
 |.indexAddr t x i=>GW X o t x i S K
 |.index t x i=>match(S.ay x).cu,(S.ay i).cu with
  |some p,some q=>emit (.idx t p q) true S λv S=>K (S.put o.dst (.e v))
  |_,_=>die "index"
 |.load t x=>Iv X lx o t x S K
 |.store t x y=>DC X lx o t x y S K
 |.box t x=>uP X t (S.ay x) S λc S=>K (S.gu o.dst c)
 |.alloc t=>match ki X.P t with
  |some z=>if bG z then K (S.gu o.dst (oJ z))else die "alloc"
  |none=>die "alloc"
 |.build t parts=>HR X o t parts S K
 |.buildSlice t len parts=>Ab X lx key o t len parts S K
 |.makeSlice t l c=>D8 X lx o t l c S K
 |.slice t x lo hi none=>HS lx key o t x lo hi S K
 |.makeFunc (.func f) first caps=>if first.size≠0\/(caps.toList.all λx=>(S.ay x).yN S)=false then die "makeFunc" else K (S.put o.dst (.fn f (caps.toList.map S.ay)))
 |.call c=>match c.callee with
  |.value f=>AK X inl yl lx key o f c.args.toList S K
  |.builtin .len=>match c.argTypes[0]?,c.args.toList with
   |some t,[x]=>I3 X o t x S K
   |_,_=>die "len"
  |.builtin .min=>match hT (c.args.toList.map S.ay)with
   |some l=>emit (.iz false l) true S λv S=>K (S.put o.dst (.e v))
   |none=>die "min"
  |.builtin .max=>match hT (c.args.toList.map S.ay)with
   |some l=>emit (.iz true l) true S λv S=>K (S.put o.dst (.e v))
   |none=>die "max"
  |.builtin .append=>match c.argTypes,c.args.toList with
   |⟨[t,bw]⟩,[x,y]=>if t=bw then Dl X lx o t x y S K else die "append"
   |_,_=>die "append"
  |_=>die "builtin"
 |.makeMap t r=>Dc X lx o t r S K
 |.mapUpdate t m k _=>CZ X lx o t m k S K
 |.range t x=>Dm X lx o t x S K
 |.next x str=>D9 lx o x str S K
 |.entry x=>DD lx o x S K
 |.panic _=>pure .die
 |.makeInterface _ _=>pure .die
 |_=>die "operation"
def kh(inl:fh)(yl:fh)(lx:Option Nat)(ops:Array Oper)(e2:Nat):List Oper->Nat->Sym->(Sym->M)->M
 |[],_,S,K=>K S
 |o::l,i,S,K=>match o.guard with
  |none=>sQ X inl yl lx (e2*1000+i) o S λS=>kh inl yl lx ops e2 l (i+1) S K
  |some (j,want)=>match(ops[j]?).bind (·.dst)with
   |none=>kh inl yl lx ops e2 l (i+1) (S.put o.dst .undef) K
   |some d=>match S.get d with
    |.undef=>kh inl yl lx ops e2 l (i+1) (S.put o.dst .undef) K
    |.e (.bu (.bool b))=>if b=want then sQ X inl yl lx (e2*1000+i) o S λS=>kh inl yl lx ops e2 l (i+1) S K else kh inl yl lx ops e2 l (i+1) (S.put o.dst .undef) K
    |.e x=>
     let run:=λ(S:Sym)=>sQ X inl yl lx (e2*1000+i) o S λS=>kh inl yl lx ops e2 l (i+1) S K;let skip:=λ(S:Sym)=>kh inl yl lx ops e2 l (i+1) (S.put o.dst .undef) K;let aA:=S.put (some d) (.e (.bu (.bool true)));let Vs:=S.put (some d) (.e (.bu (.bool false)))
     if want then FG x (run aA) (skip Vs)else FG x (skip aA) (run Vs)
    |_=>die "guard"
end
end
end Go.Proofs.YtlminnpaeaganaaGreat
