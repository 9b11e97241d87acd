/- Part of the proof of RuleCover. No condition. -/
import Derived.RangeFuncLeaves
import Derived.OrdersIn
import Derived.RangeFuncRecord
import Derived.Test.YtlminnpaeaganaaGreatMCoverAC
namespace Go.Proofs.YtlminnpaeaganaaGreat
set_option maxRecDepth 100000
set_option linter.all false
section
open Go Go.RowKit
variable[cQ]
inductive eJ where
 |normal
 |exit (id:Nat)
 |ret
def eJ.of:Exit->Option eJ
 |.normal=>some .normal
 |.exit i=>some (.exit i)
 |.ret=>some .ret
 |_=>none
def Marks(φ:bo)(w c9:World):List Deferred->Prop
 |[]=>True
 |d::ds=>(∃D,d={ target:=.collected D,args:=#[] }/\c9.heap.size<=D/\w.heap[D]?=some (.deferred (some []))/\¬φ.own D/\∀dq∈ds,dq≠d)/\Marks φ w c9 ds
theorem Marks.rest{φ bn:bo}{w w' c9:World}(r:Rest φ w bn w'):∀{ds:List Deferred},Marks φ w c9 ds->Marks bn w' c9 ds
 |[],_=>trivial
 |d::ds,⟨⟨D,U,ab,al,aJ,bm⟩,h⟩=>by
  have aU:D<w.heap.size:=(Array.getElem?_eq_some_iff.1 al).1;obtain⟨k1,bf⟩:=r.rest D aU aJ (λo e=>by grind);exact⟨⟨D,U,ab,k1.trans al,bf,bm⟩,Marks.rest r h⟩
def Old(A:Anchor)(s:aA):Prop:=(∀i b,A.gg.arr i=some b->i<s.bg.a)/\(∀i b,A.gg.box i=some b->i<s.bg.n)/\p9 s.bg.ys A.gg A.c9
def EP(A:Anchor)(N:Nat)(Q:eJ->aA->Prop):Exit->Act->World->Prop:=λe a' w'=>
 ∃ex s' bn,eJ.of e=some ex/\cW bn w' N s' a'/\cY A bn w' s'.bb/\Marks bn w' A.c9 a'.defers/\Old A s'/\Q ex s'
def nT(N:Nat)(o:Oper):Bool:=match o.dst with
 |some d=>decide (d<N)
 |none=>true
def hr(N:Nat):Code->Bool
 |.region _ ops _=>ops.toList.all (nT N)
 |.seq a b=>hr N a&&hr N b
 |.cond _ a b=>hr N a&&hr N b
 |.block _ c=>hr N c
 |.loop c=>hr N c
 |.rangeFunc _ ps a b=>ps.toList.all (λd=>decide (d<N))&&hr N a&&hr N b
 |.scope c=>hr N c
 |_=>true
def mm:Code->Bool
 |.seq x y=>mm x&&mm y
 |.cond _ x y=>mm x&&mm y
 |.block _ x=>mm x
 |.loop x=>mm x
 |.rangeFunc _ _ _ _=>false
 |.scope x=>mm x
 |_=>true
def mC(r:Option Nat)(N:Nat)(c:Code):Bool:=hr N c&&(r.isNone||mm c)
theorem DR{r:Option Nat}{N:Nat}{c:Code}(h:mC r N c=true):hr N c=true:=by grind [mC]
theorem ZX{N:Nat}{c:Code}(h:hr N c=true):mC none N c=true:=by simp[mC,h]
theorem OX{l N:Nat}{c:Code}(h:hr N c=true)(k:mm c=true):mC (some l) N c=true:=by simp[mC,h,k]
theorem abw{r:Option Nat}{N:Nat}{x y:Code}(h:mC r N (.seq x y)=true):mC r N x=true/\mC r N y=true:=by grind [mC,hr,mm]
theorem ZY{r:Option Nat}{N:Nat}{c:Operand}{x y:Code}(h:mC r N (.cond c x y)=true):mC r N x=true/\mC r N y=true:=by grind [mC,hr,mm]
def ff(P:Program)(c:Code)(s:aA)(Q:eJ->aA->Prop):Prop:=
 ∀(A:Anchor)(φ:bo)(w:World)(N n:Nat)(r:Option Nat)(a:Act),mC r N c=true->cW φ w N s a->cY A φ w s.bb->Old A s->Marks φ w A.c9 a.defers ->
  c.dE r P (EP A N Q) a w
theorem DS(φ:bo)(w:World)(τ:Tape)(d:Nat):kk φ w φ (a8 w τ d):=⟨λ_ _ h=>h,λ_ _ h=>h,λ_ _ h=>h,Nat.le_refl _,λ_ _ _=>rfl,λ_ _ _=>rfl⟩
theorem c0.a8{φ:bo}{w:World}{m:Mem}(h:c0 φ m w)(τ:Tape)(d:Nat):c0 φ m (a8 w τ d):=by
 refine⟨λi hi=>?_,h.dt,h.arr,h.jo,h.hp,h.sep,h.gw⟩;rcases h.box i hi with h|⟨b,cs,e,U,ab,al⟩
 ·grind
 ·exact .inr ⟨b,cs,e,U,ab,v7 (DS φ w τ d) al⟩
theorem cW.a8{φ:bo}{w:World}{N:Nat}{s:aA}{a:Act}(h:cW φ w N s a)(τ:Tape)(d:Nat):cW φ (a8 w τ d) N s a:=⟨λt=>aY.keeps (DS φ w τ d) _ _ (h.tmp t),h.size,h.mem.a8 τ d⟩
theorem sD(φ:bo)(w:World)(τ:Tape)(d:Nat):Step φ w φ (Go.Proofs.YtlminnpaeaganaaGreat.a8 w τ d) []:=⟨λq c h=>aY.keeps (DS φ w τ d) _ _ h,rfl,rfl,Nat.le_refl _,λ_ _ h _=>⟨rfl,h⟩⟩
theorem cY.tu{A:Anchor}{φ:bo}{w:World}{E:List b9}(h:cY A φ w E)(τ:Tape)(d:Nat):cY A φ (Go.Proofs.YtlminnpaeaganaaGreat.a8 w τ d) E:=by
 have:=h.trans (sD φ w τ d);grind
def ld(ops:Array Oper)(s:aA)(o:Oper)(X Y:Prop):Prop:=match o.guard with
 |none=>X
 |some (j,want)=>match(ops[j]?).bind (·.dst)with
  |some d=>match s.g d with
   |.bool b=>if b=want then X else Y
   |.undef=>Y
   |_=>False
  |none=>Y
def dW(s s1:aA):Prop:=s1.bg=s.bg/\∀(φ:bo)(w:World)(N:Nat)(a:Act)(A:Anchor),cW φ w N s a->cY A φ w s.bb->Old A s->∃bn,cW bn w N s1 a/\cY A bn w s1.bb
theorem dW.refl(s:aA):dW s s:=⟨rfl,λφ _ _ _ _ U ab _=>⟨φ,U,ab⟩⟩
theorem dW.trans{s s1 s2:aA}(h:dW s s1)(k:dW s1 s2):dW s s2:=
 ⟨k.1.trans h.1,λφ w N a A U ab al=>by
  obtain⟨bn,g1,a2⟩:=h.2 φ w N a A U ab al;exact k.2 bn w N a A g1 a2 (by unfold Old at al⊢;rw[h.1];exact al)⟩
def h1(P:Program)(ops:Array Oper):List Oper->aA->(aA->Prop)->Prop
 |[],s,K=>K s
 |o::rest,s,K=>ld ops s o (∃s1,dW s s1/\eQ P s1 o λs'=>h1 P ops rest s' K) (h1 P ops rest (s.put o.dst .undef) K)
def CH(P:Program):Code->aA->(eJ->aA->Prop)->Prop
 |.skip,s,Q=>Q .normal s
 |.region _ ops false,s,Q=>h1 P ops ops.toList s (Q .normal)
 |.seq x y,s,Q=>CH P x s λe s'=>match e with
  |.normal=>CH P y s' Q
  |.exit i=>Q (.exit i) s'
  |.ret=>Q .ret s'
 |.cond c x y,s,Q=>∃t,s.ay c=.bool t/\(if t=true then CH P x s Q else CH P y s Q)
 |.block id c,s,Q=>CH P c s λe s'=>match e with
  |.normal=>Q .normal s'
  |.exit i=>if i=id then Q .normal s' else Q (.exit i) s'
  |.ret=>Q .ret s'
 |.exit id,s,Q=>Q (.exit id) s
 |.ret,s,Q=>Q .ret s
 |c,s,Q=>ff P c s Q
section
variable{P:Program}{φ:bo}{w:World}{A:Anchor}{N n:Nat}{s:aA}{a:Act}{r:Option Nat}
theorem Xp{t:TypeId}{x v:aa}{K fy:aA->Prop}(aq:∀s',s'.bg=s.bg->K s'->fy s')(h:uK P s t x v K):uK P s t x v fy:=by
 unfold uK at *;split at h
 ·obtain⟨U,ab,al,aJ,l,bm,bI,cS⟩:=h;exact⟨U,ab,al,aJ,l,bm,bI,aq _ (by simp) cS⟩
 ·obtain⟨U,ab,al,aJ,bm,bI,cS⟩:=h;exact⟨U,ab,al,aJ,bm,bI,aq _ (by simp) cS⟩
 grind
theorem WE{d:Option Tmp}{t:TypeId}{x y:aa}{K fy:aA->Prop}(aq:∀s',s'.bg=s.bg->K s'->fy s')(h:uB P s d t x y K):uB P s d t x y fy:=by
 unfold uB at *;split at h
 ·obtain⟨U,ab,al,h⟩:=h;refine⟨U,ab,al,?_⟩;split at h
  ·obtain⟨aJ,h⟩:=h;refine⟨aJ,?_⟩;split at h
   ·obtain⟨bm,bI,h⟩:=h;exact⟨bm,bI,aq _ (by split<;>simp) h⟩
   ·obtain⟨bm,bI,cS,et,gp,h⟩:=h;simp_all
   grind
  grind
 grind
theorem uC{o:Oper}{K fy:aA->Prop}(aq:∀s',s'.bg=s.bg->K s'->fy s')(h:eQ P s o K):eQ P s o fy:=by
 obtain⟨dst,op,type,pos,after,guard⟩:=o;cases op with
 |move x=>exact aq _ (by simp) h
 |assign x=>exact aq _ (by simp) h
 |pick c x y=>obtain⟨t,U,ab⟩:=h;exact⟨t,U,aq _ (by simp) ab⟩
 |binOp op t x y aje=>obtain⟨t,U,ab⟩:=h;exact⟨t,U,aq _ (by simp) ab⟩
 |unOp op t x=>obtain⟨t,U,ab⟩:=h;exact⟨t,U,aq _ (by simp) ab⟩
 |convert a b x=>obtain⟨t,U,ab⟩:=h;exact⟨t,U,aq _ (by simp) ab⟩
 |fieldAddr t x f=>obtain⟨t,U,ab⟩:=h;exact⟨t,U,aq _ (by simp) ab⟩
 |field t x f=>obtain⟨t,U,ab⟩:=h;exact⟨t,U,aq _ (by simp) ab⟩
 |indexAddr t x f=>obtain⟨t,U,ab⟩:=h;exact⟨t,U,aq _ (by simp) ab⟩
 |index t x f=>obtain⟨t,U,ab⟩:=h;exact⟨t,U,aq _ (by simp) ab⟩
 |load t x=>obtain⟨t,U,ab⟩:=h;exact⟨t,U,aq _ (by simp) ab⟩
 |alloc t=>obtain⟨t,U,ab⟩:=h;exact⟨t,U,aq _ (by simp) ab⟩
 |build t ps=>obtain⟨t,U,ab⟩:=h;exact⟨t,U,aq _ (by simp) ab⟩
 |box t x=>exact⟨h.1,aq _ (by simp) h.2⟩
 |store t x y=>exact⟨h.1,Xp aq h.2⟩
 |nilCheck x=>
  simp only[eQ]at h⊢;split at h;all_goals simp_all
 |extract x i=>
  simp only[eQ]at h⊢;split at h
  ·obtain⟨t,U,ab⟩:=h;simp_all
  grind
 |buildSlice t len ps=>
  simp only[eQ]at h⊢;split at h
  ·obtain⟨U,ab,al,aJ,cs,bm,bI⟩:=h;exact⟨U,ab,al,aJ,cs,bm,bI.imp (aq _ (by simp)) (aq _ (by simp))⟩
  grind
 |makeSlice t l c=>
  simp only[eQ]at h⊢;split at h
  ·obtain⟨z,U,ab,al,aJ,bm,bI,cS,et,gp⟩:=h;simp_all
  grind
 |slice t x lo hi qC=>
  cases qC with
  |none=>obtain⟨t,U,ab⟩:=h;exact⟨t,U,aq _ (by simp) ab⟩
  |some _=>trivial
 |makeMap t r=>
  obtain⟨U,h⟩:=h;refine⟨U,?_⟩;split at h;all_goals simp_all[aA.qa]
 |mapUpdate t m k x=>
  obtain⟨U,h⟩:=h;refine⟨U,?_⟩;split at h
  ·obtain⟨ab,al,aJ,bm,bI,cS⟩:=h;exact⟨ab,al,aJ,bm,bI,aq _ (by rfl) cS⟩
  grind
 |range t x=>
  simp only[eQ]at h⊢;split at h;all_goals simp_all[aA.qa]
 |next x str=>
  obtain⟨U,h⟩:=h;refine⟨U,?_⟩;split at h;all_goals simp_all[aA.q6]
 |entry x=>
  simp only[eQ]at h⊢;split at h;all_goals simp_all
 |makeFunc fn first caps=>
  cases fn with
  |func f=>exact⟨h.1,aq _ (by simp) h.2⟩
  |_=>trivial
 |call c=>
  simp only[eQ]at h⊢;split at h
  ·split at h
   ·exact⟨h.1,h.2.mono λ_ _ _ h=>aq _ (by simp) h⟩
   ·obtain⟨y,st,mJ,U,ab,al,aJ,bm⟩:=h;exact⟨y,st,mJ,U,ab,al,aJ,bm.mono λ_ _ _ h=>aq _ (by simp) h⟩
   grind
  ·split at h
   ·obtain⟨t,U,ab⟩:=h;simp_all
   grind
  ·obtain⟨t,U,ab⟩:=h;simp_all
  ·obtain⟨t,U,ab⟩:=h;simp_all
  all_goals grind [WE]
 |_=>exact h.elim
theorem Xq{ops:Array Oper}{j d:Nat}{b:Bool}(h:cW φ w N s a)(aV:(ops[j]?).bind (·.dst)=some d)(hb:s.g d=.bool b):yielded ops a.tmps j=some b:=by
 have e:=h.tmp d;rw[hb]at e;have e:=yv e;have aU:d<a.tmps.size:=by grind [undef]
 simp_all[yielded]
theorem WG{ops:Array Oper}{j d:Nat}(h:cW φ w N s a)(aV:(ops[j]?).bind (·.dst)=some d)(hb:s.g d=.undef):yielded ops a.tmps j=none:=by
 have e:=h.tmp d;rw[hb]at e;simp only[aY]at e;unfold yielded;rw[aV];simp ;cases aN:a.tmps[d]? with
 |none=>rfl
 |some v=>simp_all
theorem yc{ops:Array Oper}{o:Oper}{X Y:Prop}(h:cW φ w N s a)(aN:ld ops s o X Y):
  (Region.wanted o (yielded ops a.tmps)=true/\X)\/(Region.wanted o (yielded ops a.tmps)=false/\Y):=by
 unfold ld at aN;unfold Region.wanted;split at aN
 ·grind
 ·rename_i j want aT;rw[aT];split at aN
  ·rename_i d aV;split at aN
   ·rename_i b hb;simp only[Xq h aV hb];grind
   all_goals grind [WG]
  grind [yielded]
theorem Hc{ops:Array Oper}{K:aA->Prop}{Q:Exit->Act->World->Prop}:∀(l:List Oper)(k:Nat)(s:aA)(a:Act)(φ:bo)(w:World),(∀j,l[j]?=ops[k+j]?)->l.all (nT N)=true ->
  cW φ w N s a->cY A φ w s.bb->Old A s->h1 P ops l s K->(∀a' w',(∃s',s'.bg=s.bg/\Good A N a.defers (λu=>u=s'/\K u) a' w')->Q .normal a' w') ->
  nQ r P ops Q (List.range' k l.length) a w
 |[],k,s,a,φ,w,_,_,ao,au,_,a9,gI=>by exact gI a w ⟨s,rfl,s,φ,ao,au,rfl,rfl,a9⟩
 |o::l,k,s,a,φ,w,ak,aV,ao,au,aW,a9,gI=>by
  have aT:ops[k]?=some o:=by simpa using(ak 0).symm
  have er:∀j,l[j]?=ops[k+1+j]?:=λj=>by have:=ak (j+1);grind
  simp only[List.all_cons,Bool.and_eq_true]at aV;have nh:∀t,o.dst=some t->t<N:=λt e=>by grind [nT]
  simp only[List.length_cons,List.range'_succ,nQ,aT];rcases yc ao a9 with⟨hw,fz⟩|⟨hw,g4⟩
  ·rw[if_pos hw];intro τ d;obtain⟨s1,⟨aK,Bu⟩,fz⟩:=fz;obtain⟨ny,kQ,pC⟩:=Bu φ w N a A ao au aW;replace kQ:=kQ.a8 τ d;replace pC:=pC.tu τ d;have qm:Old A s1:=by grind [Old]
   refine Oper.k8 ?_ (yn (A:=A) kQ pC nh qm.1 qm.2.2 (uC (λs' e h=>(⟨e,h⟩:s'.bg=s1.bg/\_)) fz));rintro a' w' ⟨s',bn,U,ab,al,aJ,bm⟩;replace aJ:=aJ.trans aK;exact Hc l (k+1) s' a' bn w' er aV.2 U ab (by grind [Old]) bm (λfA w2 ⟨s2,aO,h⟩=>gI fA w2 ⟨s2,aO.trans aJ,by grind⟩)
  ·rw[if_neg (by simp[hw])];have U:cW φ w N (s.put o.dst .undef) (a.put o.dst undef):=ao.put nh rfl;exact Hc l (k+1) _ _ φ w er aV.2 U (by simp_all) (by grind [Old,aA.EA]) g4
    (λfA w2 ⟨s2,aO,h⟩=>gI fA w2 ⟨s2,by simp_all,by grind [put_defers]⟩)
theorem oZ{c:Code}{Q lB:eJ->aA->Prop}(h:ff P c s Q)(aH:∀e s,Q e s->lB e s):ff P c s lB:=
 λA φ w N n r a aV ao au aW hm=>k8 (h A φ w N n r a aV ao au aW hm) λ_ _ _ ⟨ex,s',bn,U,ab,al,aJ,bI,bm⟩=>⟨ex,s',bn,U,ab,al,aJ,bI,aH _ _ bm⟩
theorem GP{c:Code}{s1:aA}{Q:eJ->aA->Prop}(ao:dW s s1)(h:ff P c s1 Q):ff P c s Q:=by
 intro A φ w N n r a aV ad au aW hm;obtain⟨bn,U,ab⟩:=ao.2 φ w N a ⟨A.gg,A.c9,φ,w⟩ ad ⟨au.st,Rest.refl φ w⟩ aW;exact h A bn w N n r a aV U ⟨ab.st,au.a8.trans ab.a8⟩ (by unfold Old at aW⊢;rw[ao.1];exact aW) (hm.rest ab.a8)
theorem qL{id:Nat}{ops:Array Oper}{Q:eJ->aA->Prop}(h:h1 P ops ops.toList s (Q .normal)):ff P (.region id ops false) s Q:=by
 intro A φ w N n r a aV ao au aW hm;have jv:ops.toList.all (nT N)=true:=DR aV;refine Xr ?_;rw[List.range_eq_range',←Array.length_toList];have kR:cY ⟨A.gg,A.c9,φ,w⟩ φ w s.bb:=⟨au.st,Rest.refl φ w⟩;refine Hc (A:=⟨A.gg,A.c9,φ,w⟩) ops.toList 0 s a φ w (by simp) jv ao kR aW h ?_;rintro a' w' ⟨s',e,s2,bn,U,ab,al,rfl,bm⟩;exact⟨.normal,s2,bn,rfl,U,⟨ab.st,au.a8.trans ab.a8⟩,by rw[al];exact hm.rest ab.a8,by grind [Old],bm⟩
end
section
variable{P:Program}{s:aA}
theorem OY{Q:eJ->aA->Prop}(h:Q .normal s):ff P .skip s Q:=λA φ w N n r a aV ao au aW hm=>ZZ ⟨.normal,s,φ,rfl,ao,au,hm,aW,h⟩
theorem aeO{l:Nat}{Q:eJ->aA->Prop}(h:Q .normal s):ff P (.label l) s Q:=λA φ w N n r a aV ao au aW hm=>aeP ⟨.normal,s,φ,rfl,ao,au,hm,aW,h⟩
theorem aeV{c:Code}{Q:eJ->aA->Prop}(h:ff P c s Q):ff P (.scope c) s Q:=λA φ w N n r a aV ao au aW hm=>ae3 (h A φ w N n r a aV ao au aW hm)
theorem Iz{Q:eJ->aA->Prop}(h:Q .ret s):ff P .ret s Q:=λA φ w N n r a aV ao au aW hm=>P5 ⟨.ret,s,φ,rfl,ao,au,hm,aW,h⟩
theorem Z0{id:Nat}{Q:eJ->aA->Prop}(h:Q (.exit id) s):ff P (.exit id) s Q:=λA φ w N n r a aV ao au aW hm=>OZ ⟨.exit id,s,φ,rfl,ao,au,hm,aW,h⟩
theorem AA{c:Operand}{x y:Code}{Q:eJ->aA->Prop}(t:Bool)(a1:s.ay c=.bool t)(h:if t=true then ff P x s Q else ff P y s Q):ff P (.cond c x y) s Q:=by
 intro A φ w N n r a aV ao au aW hm;replace aV:=ZY aV;have e:=ao.ay c;rw[a1]at e;refine Z1 (yv e) ?_;cases t
 ·exact h A φ w N n r a aV.2 ao au aW hm
 ·exact h A φ w N n r a aV.1 ao au aW hm
theorem Yz{id:Nat}{c:Code}{Q:eJ->aA->Prop}(h:ff P c s λe s'=>match e with
  |.normal=>Q .normal s'
  |.exit i=>if i=id then Q .normal s' else Q (.exit i) s'
  |.ret=>Q .ret s'):ff P (.block id c) s Q:=by
 intro A φ w N n r a aV ao au aW hm;refine YA (k8 (h A φ w N n r a aV ao au aW hm) ?_);rintro e a' w' ⟨ex,s',bn,he,k1,bf,bP,kA,cX⟩;cases e<;>simp[eJ.of]at he<;>try (done)
 ·subst he;exact⟨.normal,s',bn,rfl,k1,bf,bP,kA,cX⟩
 ·subst he;simp only at cX;simp only[Exit.inBlock];split
  ·rename_i h;rw[if_pos h]at cX;exact⟨.normal,s',bn,rfl,k1,bf,bP,kA,cX⟩
  ·rename_i h;rw[if_neg h]at cX;exact⟨.exit _,s',bn,rfl,k1,bf,bP,kA,cX⟩
 ·subst he;exact⟨.ret,s',bn,rfl,k1,bf,bP,kA,cX⟩
theorem o6{x y:Code}{Q:eJ->aA->Prop}(h:ff P x s λe s'=>match e with
  |.normal=>ff P y s' Q
  |.exit i=>Q (.exit i) s'
  |.ret=>Q .ret s'):ff P (.seq x y) s Q:=by
 intro A φ w N n r a aV ao au aW hm;replace aV:=abw aV;refine abx (k8 (h A φ w N n r a aV.1 ao au aW hm) ?_);rintro e a' w' ⟨ex,s',bn,he,k1,bf,bP,kA,cX⟩;cases e<;>simp[eJ.of]at he<;>try (done)
 ·subst he;exact cX A bn w' N n r a' aV.2 k1 bf kA bP
 ·subst he;exact⟨.exit _,s',bn,rfl,k1,bf,bP,kA,cX⟩
 ·subst he;exact⟨.ret,s',bn,rfl,k1,bf,bP,kA,cX⟩
end
end
section
open Go Go.RowKit
variable[cQ]
def bo.cut(φ:bo)(n an:Nat):bo:={ box:=λi=>if i<n then φ.box i else none,arr:=λi=>if i<an then φ.arr i else none }
section
variable{P:Program}{φ:bo}{w:World}{A:Anchor}{N n an:Nat}{s:aA}{a:Act}{r:Option Nat}{m:Mem}
theorem pZ{b:Nat}(h:(φ.cut n an).own b):φ.own b:=by
 rcases h with⟨i,h⟩|⟨i,h⟩<;>simp only[bo.cut]at h<;>split at h<;>first|cases h|skip
 ·exact .inl ⟨i,h⟩
 ·exact .inr ⟨i,h⟩
theorem v8{id:Option Nat}{b sz off cap:Nat}(h:place φ w id b sz off cap)(hi:∀i,id=some i->i<an):place (φ.cut n an) w id b sz off cap:=by
 cases id with
 |none=>exact⟨λk=>h.1 (pZ k),h.2⟩
 |some i=>
  obtain⟨au,h⟩:=h;exact⟨by grind [bo.cut],h⟩
mutual
theorem aY.cut:∀(q:aa)(c:Value),aY φ w q c->q.cT n an->aY (φ.cut n an) w q c
 |.int _ _,c,h,_ | .bool _,c,h,_ | .str _,c,h,_ | .undef,c,h,_ | .bad,c,h,_ | .ca,c,h,_ | .eL,c,h,_ | .bC,c,h,_ | .dead _,c,h,_ | .cq _,c,h,_=>by assumption
 |.ptr i o,c,h,hb=>by simp_all[aY,aa.cT,bo.cut]
 |.sl id sz off len cs,c,h,hb=>by
  obtain⟨ak,a,cap,ai,ah,h⟩:=h;refine⟨ak,a,cap,ai,ah,?_⟩;rcases h with h|⟨b,au,ae,ad⟩
  ·grind
  ·refine .inr ⟨b,au,v8 ae (λi e=>?_),b7.cut b cs off ad ?_⟩
   ·grind [aa.cT]
   ·cases id<;>simp only[aa.cT]at hb<;>first|exact hb|exact hb.2
 |.bJ id off cs,c,h,hb=>by
  obtain⟨b,au,ae,ad⟩:=h;refine⟨b,au,v8 ae (λi e=>?_),b7.cut b cs off ad ?_⟩
  ·grind [aa.cT]
  ·cases id<;>simp only[aa.cT]at hb<;>first|exact hb|exact hb.2
 |.fn f cs,c,h,hb=>by
  obtain⟨af,U,ab⟩:=h;exact⟨af,U,bl.cut cs af ab hb⟩
 |.agg cs,c,h,hb=>by
  obtain⟨af,U,ab⟩:=h;exact⟨af,U,bl.cut cs af ab hb⟩
 |.bD cs,c,h,hb=>by
  obtain⟨af,U,ab⟩:=h;exact⟨af,U,bl.cut cs af ab hb⟩
 |.mp it id sz cs,c,h,hb=>by
  refine h.move (λb o ae bq _ _ _=>⟨?_,bq⟩) λb o ae bq _ _ _=>⟨λk=>ae (pZ k),bq⟩;cases id with
  |none=>exact λk=>ae (pZ k)
  |some i=>grind [aa.cT,o9,bo.cut]
theorem bl.cut:∀(l:List aa)(af:List Value),bl φ w l af->e5 n an l->bl (φ.cut n an) w l af
 |[],af,h,_=>by assumption
 |p::ps,af,h,hb=>by
  obtain⟨v,cB,e,aT,U⟩:=h;exact⟨v,cB,e,aY.cut p v aT hb.1,bl.cut ps cB U hb.2⟩
theorem b7.cut(b:Nat):∀(l:List aa)(off:Nat),b7 φ w b l off->e5 n an l->b7 (φ.cut n an) w b l off
 |[],_,_,_=>by assumption
 |p::ps,off,h,hb=>by
  obtain⟨⟨c,ah,aT⟩,U⟩:=h;exact⟨⟨c,ah,aY.cut p c aT hb.1⟩,b7.cut b ps (off+1) U hb.2⟩
end
mutual
theorem Du(hb:∀i b,φ.box i=some b->i<n)(au:∀i b,φ.arr i=some b->i<an):∀(q:aa)(c:Value),aY φ w q c->q.cT n an
 |.int _ _,c,_ | .bool _,c,_ | .str _,c,_ | .undef,c,_ | .bad,c,_ | .ca,c,_ | .eL,c,_ | .bC,c,_ | .dead _,c,_ | .cq _,c,_=>by trivial
 |.ptr i o,c,h=>by grind [aY,aa.cT]
 |.sl none sz off len cs,c,h=>by
  simp only[aY,aa.cT]at h⊢;obtain⟨ak,a,cap,ai,ah,h⟩:=h;rcases h with h|⟨b,_,ae,ad⟩
  ·simp_all[e5]
  ·exact Ae hb au b cs off ad
 |.sl (some i) sz off len cs,c,h=>by
  obtain⟨ak,a,cap,ai,ah,h⟩:=h;rcases h with h|⟨b,_,ae,ad⟩
  ·grind
  ·exact⟨au i b ae.1,Ae hb au b cs off ad⟩
 |.bJ none off cs,c,h=>by
  obtain⟨b,_,ae,ad⟩:=h;exact Ae hb au b cs off ad
 |.bJ (some i) off cs,c,h=>by
  obtain⟨b,_,ae,ad⟩:=h;exact⟨au i b ae.1,Ae hb au b cs off ad⟩
 |.fn f cs,c,h=>by
  obtain⟨af,_,ab⟩:=h;exact ui hb au cs af ab
 |.agg cs,c,h=>by
  obtain⟨af,_,ab⟩:=h;exact ui hb au cs af ab
 |.bD cs,c,h=>by
  obtain⟨af,_,ab⟩:=h;exact ui hb au cs af ab
 |.mp it none sz cs,c,h=>by trivial
 |.mp it (some i) sz cs,c,h=>by
  obtain⟨b,_,ae,_⟩:=h;exact au i b ae
theorem ui(hb:∀i b,φ.box i=some b->i<n)(au:∀i b,φ.arr i=some b->i<an):∀(l:List aa)(af:List Value),bl φ w l af->e5 n an l
 |[],_,_=>by trivial
 |p::ps,af,h=>by
  obtain⟨v,cB,_,aT,U⟩:=h;exact⟨Du hb au p v aT,ui hb au ps cB U⟩
theorem Ae(hb:∀i b,φ.box i=some b->i<n)(au:∀i b,φ.arr i=some b->i<an)(b:Nat):∀(l:List aa)(off:Nat),b7 φ w b l off->e5 n an l
 |[],_,_=>by assumption
 |p::ps,off,h=>by
  obtain⟨⟨c,_,aT⟩,U⟩:=h;exact⟨Du hb au p c aT,Ae hb au b ps (off+1) U⟩
end
mutual
theorem aY.cH(au:∀i b,φ.arr i=some b->i<an):∀(q:aa)(c:Value),aY φ w q c->aY (φ.cut n an) w (q.cH n) c
 |.int _ _,c,h | .bool _,c,h | .str _,c,h | .undef,c,h | .bad,c,h | .ca,c,h | .eL,c,h | .bC,c,h | .dead _,c,h | .cq _,c,h=>by assumption
 |.ptr i o,c,h=>by
  simp only[aa.cH];split;all_goals simp_all[aY,bo.cut]
 |.sl id sz off len cs,c,h=>by
  obtain⟨ak,a,cap,ai,ah,h⟩:=h;refine⟨by grind [o3],a,cap,ai,ah,?_⟩;rcases h with h|⟨b,bL,ae,ad⟩
  ·grind
  ·exact .inr ⟨b,bL,v8 ae (λi e=>by subst e;exact au i b ae.1),b7.cH au b cs off ad⟩
 |.bJ id off cs,c,h=>by
  obtain⟨b,bL,ae,ad⟩:=h;exact⟨b,bL,v8 ae (λi e=>by subst e;exact au i b ae.1),b7.cH au b cs off ad⟩
 |.fn f cs,c,h=>by
  obtain⟨af,U,ab⟩:=h;exact⟨af,U,bl.cH au cs af ab⟩
 |.agg cs,c,h=>by
  obtain⟨af,U,ab⟩:=h;exact⟨af,U,bl.cH au cs af ab⟩
 |.bD cs,c,h=>by
  obtain⟨af,U,ab⟩:=h;exact⟨af,U,bl.cH au cs af ab⟩
 |.mp it id sz cs,c,h=>by
  refine h.move (λb o ae bq _ _ _=>⟨?_,bq⟩) λb o ae bq _ _ _=>⟨λk=>ae (pZ k),bq⟩;cases id with
  |none=>exact λk=>ae (pZ k)
  |some i=>grind [o9,bo.cut]
theorem bl.cH(au:∀i b,φ.arr i=some b->i<an):∀(l:List aa)(af:List Value),bl φ w l af->bl (φ.cut n an) w (iR n l) af
 |[],af,h=>by assumption
 |p::ps,af,h=>by
  obtain⟨v,cB,e,aT,U⟩:=h;exact⟨v,cB,e,aY.cH au p v aT,bl.cH au ps cB U⟩
theorem b7.cH(au:∀i b,φ.arr i=some b->i<an)(b:Nat):∀(l:List aa)(off:Nat),b7 φ w b l off->b7 (φ.cut n an) w b (iR n l) off
 |[],_,_=>by assumption
 |p::ps,off,h=>by
  obtain⟨⟨c,ah,aT⟩,U⟩:=h;exact⟨⟨c,ah,aY.cH au p c aT⟩,b7.cH au b ps (off+1) U⟩
end
def b9.clean:b9->Prop
 |.wr _ _ v=>∀n an,v.cT n an
 |.kill _=>True
theorem N7{n an:Nat}{v:aa}(ai:v.cT n an){cs:List aa}{off p:Nat}(h:e5 n an cs):e5 n an (setAt cs off p v):=by grind [setAt,abo]
mutual
theorem P6{n an:Nat}{e:b9}(he:e.clean):∀q:aa,q.cT n an->(q.bW e).cT n an
 |.int _ _,_ | .bool _,_ | .str _,_ | .undef,_ | .bad,_ | .ca,_ | .eL,_ | .bC,_ | .dead _,_ | .cq _,_=>by assumption
 |.ptr i _,h=>by assumption
 |.sl none _ _ _ cs,h=>by exact uu he cs h
 |.sl (some i) _ _ _ cs,h=>by
  simp only[aa.cT]at h;have ah:=uu he cs h.2;cases e with
  |kill j=>grind [aa.bW,aa.cT]
  |wr j p v=>
   simp only[aa.bW];split<;>simp only[aa.cT]
   ·exact⟨h.1,N7 (he n an) ah⟩
   grind
 |.bJ none _ cs,h=>by exact uu he cs h
 |.bJ (some i) _ cs,h=>by
  simp only[aa.cT]at h;have ah:=uu he cs h.2;cases e with
  |kill j=>grind [aa.bW,aa.cT]
  |wr j p v=>
   simp only[aa.bW];split<;>simp only[aa.cT]
   ·exact⟨h.1,N7 (he n an) ah⟩
   grind
 |.fn _ cs,h=>by exact uu he cs h
 |.agg cs,h=>by exact uu he cs h
 |.bD cs,h=>by exact uu he cs h
 |.mp _ none _ cs,h=>by assumption
 |.mp _ (some i) _ cs,h=>by
  cases e with
  |kill j=>grind [aa.bW,aa.cT]
  |wr j p v=>
   simp only[aa.bW];grind [aa.cT]
theorem uu{n an:Nat}{e:b9}(he:e.clean):∀l:List aa,e5 n an l->e5 n an (eF e l)
 |[],_=>by assumption
 |p::ps,h=>by exact⟨P6 he p h.1,uu he ps h.2⟩
end
theorem I7{n an:Nat}:∀{E:List b9}(_:∀e∈E,e.clean){q:aa},q.cT n an->(q.sub E).cT n an
 |[],_,_,h=>h
 |e::E,he,q,h=>I7 (E:=E) (λe' bc=>he e' (by simp[bc])) (P6 (he e (by simp)) q h)
theorem DT{gg:bo}{c9:World}{E:List b9}(ej:∀e∈E,e.clean)(h:Step gg c9 φ w E)(hb:∀i b,gg.box i=some b->i<n)(au:∀i b,gg.arr i=some b->i<an):Step gg c9 (φ.cut n an) w E:=
 ⟨λq c aH=>aY.cut _ c (h.tr q c aH) (I7 ej (Du hb au q c aH)),h.os,h.output,h.size,λb aU ar ak=>⟨(h.rest b aU ar ak).1,λk=>(h.rest b aU ar ak).2 (pZ k)⟩⟩
theorem H4{m':Mem}(hm:c0 φ m w)(fb:m'.rc=m.rc)(aI:m'.n<=m.n)(bq:∀i,i<m'.n->m.β i=.hole->m'.β i=.hole)(fW:∀i af,i<m'.n->m3 φ w (m.β i) af->m3 (φ.cut m'.n m'.an) w (m'.β i) af):c0 (φ.cut m'.n m'.an) m' w:=by
 refine⟨λi hi=>?_,λi hi=>?_,λi b h=>?_,λi j b U ab=>?_,λi j b U ab=>?_,λi j b U ab=>?_,by rw[fb];exact hm.gw⟩
 ·rcases hm.box i (by omega)with⟨g1,a2⟩|⟨b,cs,e,hb,bq,ad⟩;all_goals grind [bo.cut]
 ·grind [bo.cut]
 ·simp only[bo.cut]at h;split at h
  ·rename_i hi;exact⟨hi,(hm.arr i b h).2⟩
  ·cases h
 ·simp only[bo.cut]at U ab;split at U<;>split at ab<;>first|cases U|cases ab|exact hm.jo i j b U ab
 ·simp only[bo.cut]at U ab;split at U<;>split at ab<;>first|cases U|cases ab|exact hm.hp i j b U ab
 ·simp only[bo.cut]at U ab;split at U<;>split at ab<;>first|cases U|cases ab|exact hm.sep i j b U ab
def di.cH(n:Nat):di->di
 |.cells l=>.cells (l.map (aa.cH n))
 |.inv I=>.inv I
 |.hole=>.hole
def aA.trim(s:aA)(n:Nat):aA:={ s with g:=λt=>(s.g t).cH n,m:={ s.m with β:=λi=>(s.m.β i).cH n,n:=n } }
@[simp]theorem aA.ade(t:Nat):(s.trim n).g t=(s.g t).cH n:=rfl
@[simp]theorem aA.AY(i:Nat):(s.trim n).m.β i=(s.m.β i).cH n:=rfl
@[simp]theorem aA.adf:(s.trim n).m.n=n:=rfl
@[simp]theorem aA.akj:(s.trim n).m.an=s.m.an:=rfl
@[simp]theorem aA.akk:(s.trim n).bg=s.bg:=rfl
@[simp]theorem aA.Z2:(s.trim n).bb=s.bb:=rfl
theorem N8(h:cW φ w N s a)(aI:n<=s.m.n):cW (φ.cut n s.m.an) w N (s.trim n) a:=by
 have au:∀i b,φ.arr i=some b->i<s.m.an:=λi b bc=>(h.mem.arr i b bc).1;refine⟨λt=>aY.cH au _ _ (h.tmp t),h.size,H4 (m':=(s.trim n).m) h.mem rfl aI (λi _ h=>by grind [aA.AY,di.cH]) λi af _ ad=>?_⟩;cases ah:s.m.β i with
 |cells l=>
  rw[ah]at ad;simp only[aA.AY,ah,di.cH,m3];rw[←o3];exact bl.cH au l af ad
 |inv I=>
  rw[ah]at ad;simp only[aA.AY,ah,di.cH];obtain⟨l,U,ab,al,aJ⟩:=ad;refine⟨l,U,ab,al,?_⟩;have:=bl.cH (n:=n) au l af aJ;simp_all
 |hole=>rw[ah]at ad;trivial
theorem GX{p:Nat->Prop}(h:∃k,p k):∃k,p k/\∀j,p j->k<=j:=by
 obtain⟨k,aq⟩:=h;induction k using Nat.strongRecOn with
 |_ k az=>grind
theorem Z3{c:Code}{Q:eJ->aA->Prop}(I:aA->Prop)(μ:aA->Nat)(aT:I s)
  (round:∀s,I s->ff P c s λe s'=>match e with
   |.normal=>(I s'/\μ s'<μ s)\/((∀e∈s'.bb,e.clean)/\s'.bg.n<=s.m.n/\s'.bg.a<=s'.m.an/\s.m.n<=s'.m.n/\I (s'.trim s.m.n)/\μ (s'.trim s.m.n)<μ s)
   |.exit i=>Q (.exit i) s'
   |.ret=>Q .ret s'):ff P (.loop c) s Q:=by
 intro A φ w N n r a aV ao au aW hm;let R:aA->Act->World->Prop:=λs a w=>∃φ,cW φ w N s a/\cY A φ w s.bb/\Old A s/\Marks φ w A.c9 a.defers/\I s;have AZ:∀a w,∃k:Nat,(∃s,R s a w)->(∃s,R s a w/\μ s=k)/\∀s,R s a w->k<=μ s:=by
  intro a w;by_cases h:∃s,R s a w
  ·obtain⟨s,ao⟩:=h;obtain⟨k,⟨s',U,ab⟩,aq⟩:=GX (p:=λk=>∃s,R s a w/\μ s=k) ⟨μ s,s,ao,rfl⟩;exact⟨k,λ_=>⟨⟨s',U,ab⟩,λs h=>aq _ ⟨s,h,rfl⟩⟩⟩
  simp_all
 let M:Act->World->Nat:=λa w=>Classical.choose (AZ a w);have e3:∀a w,(∃s,R s a w)->(∃s,R s a w/\μ s=M a w)/\∀s,R s a w->M a w<=μ s:=λa w=>Classical.choose_spec (AZ a w);refine Z4 (λa w=>∃s,R s a w) M ⟨s,φ,ao,au,aW,hm,aT⟩ λa w cn=>?_;obtain⟨⟨s,⟨φ,U,ab,al,aJ,bm⟩,LH⟩,_⟩:=e3 a w cn;refine k8 (round s bm A φ w N n r a aV U ab al aJ) ?_;rintro e a' w' ⟨ex,s',bn,he,k1,bf,bP,kA,cX⟩;cases e<;>simp[eJ.of]at he<;>try (done)
 ·subst he;rcases cX with⟨iM,aU⟩|⟨bI,cS,et,gp,iM,aU⟩
  ·have ni:R s' a' w':=⟨bn,k1,bf,kA,bP,iM⟩;have:=(e3 a' w' ⟨s',ni⟩).2 s' ni;exact⟨⟨s',ni⟩,by omega⟩
  ·have ni:R (s'.trim s.m.n) a' w':=by
    have ah:Step A.gg A.c9 (bn.cut s.m.n s'.m.an) w' s'.bb:=DT bI bf.st (λi b hb=>Nat.lt_of_lt_of_le (kA.2.1 i b hb) cS) (λi b hb=>Nat.lt_of_lt_of_le (kA.1 i b hb) et);have wN:Rest bn w' (bn.cut s.m.n s'.m.an) w':=⟨Nat.le_refl _,λb _ ar _=>⟨rfl,λk=>ar (pZ k)⟩⟩;exact⟨bn.cut s.m.n s'.m.an,N8 k1 gp,⟨by simp_all,bf.a8.trans wN⟩,kA,bP.rest wN,iM⟩
   have:=(e3 a' w' ⟨_,ni⟩).2 _ ni;exact⟨⟨_,ni⟩,by omega⟩
 ·subst he;exact⟨.exit _,s',bn,rfl,k1,bf,bP,kA,cX⟩
 ·subst he;exact⟨.ret,s',bn,rfl,k1,bf,bP,kA,cX⟩
end
def uQ(P:Program)(s:aA):ResultVar->Option aa
 |.tmp t=>some (s.g t)
 |.cell x t=>h0 P s.m t (s.g x)
def q9(P:Program)(s:aA):List ResultVar->Option (List aa)
 |[]=>some []
 |v::af=>match uQ P s v,q9 P s af with
  |some p,some ps=>some (p::ps)
  |_,_=>none
def pt(P:Program)(s:aA)(l:List ResultVar):Option aa:=match q9 P s l with
 |some [p]=>some p
 |some ps=>some (.bD ps)
 |none=>none
def wE(ys:List eN)(args:List aa)(m:Mem):aA:=⟨λt=>(args[t]?).getD .undef,m,⟨m.an,m.n,ys⟩,[]⟩
abbrev entry(args:List aa)(m:Mem):aA:=wE [] args m
section
variable{P:Program}{φ:bo}{w:World}
def A0(tmps:Array Value):ResultVar->Sem Value
 |.tmp t=>pure (tmps.getD t undef)
 |.cell x t=>do loadVar t (←asAddr (tmps.getD x undef))
theorem YB{N:Nat}{s:aA}{a:Act}(ao:cW φ w N s a){x:ResultVar}{p:aa}(h:uQ P s x=some p):∃v,(A0 a.tmps x).run P w=.ok v w/\aY φ w p v:=by
 cases x with
 |tmp t=>
  simp[uQ]at h;subst h;exact⟨_,by rfl,ao.tmp t⟩
 |cell x t=>
  simp only[uQ]at h;obtain⟨v,ak1,ae⟩:=PY (P:=P) h ao.mem (ao.tmp x);have zc:∃cs,nW s.m (s.g x)=some cs:=by grind [h0]
  obtain⟨cs,zc⟩:=zc;obtain⟨b,off,e,_⟩:=Hv zc ao.mem (ao.tmp x);grind [A0,Instr.loadAt,Instr.sureAddr,asAddr]
theorem WH{N:Nat}{s:aA}{a:Act}(ao:cW φ w N s a){fn:Func}{pv:aa}(h:pt P s fn.results.toList=some pv):∃v,(results fn a.tmps).run P w=.ok v w/\aY φ w pv v:=by
 have ak:∀(l:List ResultVar)(ps:List aa),q9 P s l=some ps->∃af:List Value,(l.mapM (A0 a.tmps)).run P w=.ok af w/\bl φ w ps af:=by
  intro l;induction l with
  |nil=>intro ps h;injection h with h;subst h;exact⟨[],by simp,rfl⟩
  |cons x l az=>
   intro ps h;simp only[q9]at h;split at h
   ·rename_i p iv U ab;injection h with h;subst h;obtain⟨af,ad,ai⟩:=az iv ab;obtain⟨v,al,aJ⟩:=YB ao U;exact⟨v::af,by simp_all,v,af,rfl,aJ,ai⟩
   ·cases h
 have hm:∀l ps,fn.results.toList=l->q9 P s l=some ps->∃af:List Value,(fn.results.mapM (A0 a.tmps)).run P w=.ok af.toArray w/\bl φ w ps af:=by
  intro l ps e h;obtain⟨af,U,ab⟩:=ak l ps h;refine⟨af,?_,ab⟩;rw[Array.mapM_eq_mapM_toList,e,map_eq_pure_bind,Sem.run_bind,U];simp
 have zw:results fn a.tmps=(do let af ←fn.results.mapM (A0 a.tmps);pure (if h:af.size=1 then af[0]else .tuple af)):=by rfl
 rw[zw,Sem.run_bind];unfold pt at h;split at h
 ·rename_i p ae;injection h with h;obtain⟨af,U,ab⟩:=hm _ _ rfl ae;obtain⟨v,cB,rfl,al,rfl⟩:=ab;simp_all
 ·rename_i ps bU ae;injection h with h;subst h;obtain⟨af,U,ab⟩:=hm _ _ rfl ae;rw[U];refine⟨.tuple af.toArray,?_,af,rfl,ab⟩;have:af.length≠1:=by
   have:=mg ab
   match ps,bU with
   |[],_=>grind
   |[p],bU=>grind
   |_::_::_,_=>grind
  simp[this]
 ·cases h
end
end
section
open Go Go.RowKit
variable[cQ]
section
variable{P:Program}{φ:bo}{w:World}{D:Nat}{o:Obj}
def nM(w:World)(D:Nat):Prop:=∃x,w.heap[D]?=some x/\(∀a b c,x≠.cells a b c)/\(∀k,w.cell? ⟨D,k,none⟩=none)/\((∃l,x=.loop l)\/∃d,x=.deferred d)
theorem GM{x:Option (List Deferred)}(h:w.heap[D]?=some (.deferred x)):nM w D:=⟨_,h,λ_ _ _ e=>(by cases e),λk=>by simp[World.cell?,h],.inr ⟨_,rfl⟩⟩
theorem Mx{x:Loop}(h:w.heap[D]?=some (.loop x)):nM w D:=⟨_,h,λ_ _ _ e=>(by cases e),λk=>by simp[World.cell?,h],.inl ⟨_,rfl⟩⟩
theorem nM.ne'{b:Nat}{o:Obj}(h:nM w D)(k:w.heap[b]?=some o)(U:∀l,o≠.loop l)(ab:∀d,o≠.deferred d):b≠D:=by
 obtain⟨x,g1,_,_,g⟩:=h;grind
theorem nM.ahb{b:Nat}(h:nM w D)(k:kz w b):b≠D:=by rcases k with⟨_,_,k⟩|⟨_,_,k⟩|⟨_,_,_,_,k⟩<;>exact h.ne' k (by simp) (by simp)
theorem nM.ne{b:Nat}{cs e f}(h:nM w D)(k:w.heap[b]?=some (.cells cs e f)):b≠D:=by
 obtain⟨x,U,ab,_⟩:=h;grind
theorem YC(dQ:nM w D){b k:Nat}{v:Value}(h:w.cell? ⟨b,k,none⟩=some v):(w.putObj D o).cell? ⟨b,k,none⟩=some v:=by
 by_cases e:b=D
 ·obtain⟨_,_,_,al,_⟩:=dQ;grind
 grind [AQ,World.putObj_heap_other]
theorem Ni(dQ:nM w D){id:Option Nat}{b sz off cap:Nat}(h:place φ w id b sz off cap):place φ (w.putObj D o) id b sz off cap:=by
 cases id with
 |none=>exact⟨h.1,by simpa using h.2⟩
 |some i=>
  obtain⟨au,cur,e,hb,ah⟩:=h;have bU:b≠D:=dQ.ne hb;exact⟨au,cur,e,(World.putObj_heap_other bU).trans hb,ah⟩
mutual
theorem aY.shut(dQ:nM w D):∀(p:aa)(v:Value),aY φ w p v->aY φ (w.putObj D o) p v
 |.int _ _,v,h=>by assumption
 |.bool _,v,h=>by assumption
 |.str _,v,h=>by assumption
 |.undef,v,h=>by assumption
 |.bad,v,h=>by assumption
 |.ca,v,h=>by assumption
 |.eL,v,h=>by assumption
 |.bC,v,h=>by assumption
 |.dead _,v,h | .cq _,v,h=>by assumption
 |.ptr i o,v,h=>by assumption
 |.sl id sz off len cs,v,h=>by
  obtain⟨ak,a,cap,ai,ah,h⟩:=h;refine⟨ak,a,cap,ai,ah,?_⟩;rcases h with h|⟨b,au,ae,ad⟩
  ·exact .inl h
  ·exact .inr ⟨b,au,Ni dQ ae,b7.shut dQ b cs off ad⟩
 |.bJ id off cs,v,h=>by
  obtain⟨b,ai,ae,ad⟩:=h;exact⟨b,ai,Ni dQ ae,b7.shut dQ b cs off ad⟩
 |.fn f caps,v,h=>by
  obtain⟨af,ai,ad⟩:=h;exact⟨af,ai,bl.shut dQ caps af ad⟩
 |.agg cs,v,h=>by
  obtain⟨af,ai,ad⟩:=h;exact⟨af,ai,bl.shut dQ cs af ad⟩
 |.bD cs,v,h=>by
  obtain⟨af,ai,ad⟩:=h;exact⟨af,ai,bl.shut dQ cs af ad⟩
 |.mp it id sz cs,v,h=>by exact h.move (λb o ae bq _ U ab=>⟨ae,(World.putObj_heap_other (dQ.ne' bq U ab)).trans bq⟩) λb o ae bq _ U ab=>⟨ae,(World.putObj_heap_other (dQ.ne' bq U ab)).trans bq⟩
theorem bl.shut(dQ:nM w D):∀(ps:List aa)(af:List Value),bl φ w ps af->bl φ (w.putObj D o) ps af
 |[],af,h=>by assumption
 |p::ps,af,h=>by
  obtain⟨v,cB,e,aT,U⟩:=h;exact⟨v,cB,e,aY.shut dQ p v aT,bl.shut dQ ps cB U⟩
theorem b7.shut(dQ:nM w D)(b:Nat):∀(ps:List aa)(off:Nat),b7 φ w b ps off->b7 φ (w.putObj D o) b ps off
 |[],_,_=>by assumption
 |p::ps,off,h=>by
  obtain⟨⟨c,ah,aT⟩,U⟩:=h;exact⟨⟨c,YC dQ ah,aY.shut dQ p c aT⟩,b7.shut dQ b ps (off+1) U⟩
end
theorem N9{m:Mem}(dQ:nM w D)(ak:∀l o,(l,o)∈m.rc->l≠D)(h:c0 φ m w):c0 φ m (w.putObj D o):=by
 have bU:∀(b:Nat) cs e,w.heap[b]?=some (Obj.cells cs e (0,0))->(w.putObj D o).heap[b]?=some (Obj.cells cs e (0,0)):=by
  intro b cs e hb;have:b≠D:=dQ.ne hb;grind [World.putObj_heap_other]
 refine⟨λi hi=>?_,h.dt,λi b hb=>?_,h.jo,h.hp,h.sep,λl o' er=>(World.putObj_heap_other (ak l o' er)).trans (h.gw l o' er)⟩
 ·rcases h.box i hi with g|⟨b,cs,e,U,ab,al⟩
  ·grind
  refine .inr ⟨b,cs,e,U,bU b cs e ab,?_⟩;cases ah:m.β i with
  |cells l=>rw[ah]at al;exact bl.shut dQ l _ al
  |inv I=>
   rw[ah]at al;obtain⟨l,k1,bf,bP,cX⟩:=al;exact⟨l,k1,bf,bP,bl.shut dQ l _ cX⟩
  |hole=>rw[ah]at al;trivial
 ·obtain⟨U,ab⟩:=h.arr i b hb;exact⟨U,ab.of_eq (World.putObj_heap_other (dQ.ahb ab))⟩
theorem My{A:Anchor}{N:Nat}{fn:Func}{R:Ending->World->Prop}{s:aA}{a:Act}:∀(ds:List Deferred)(φ:bo)(w:World),cW φ w N s a->cY A φ w s.bb->Marks φ w A.c9 ds ->
  (∀w',cW φ w' N s a->Step A.gg A.c9 φ w' s.bb->yC P fn a.tmps R [] w')->yC P fn a.tmps R ds w
 |[],φ,w,ao,au,_,gI=>gI w ao au.st
 |d::ds,φ,w,ao,au,⟨⟨D,e,U,ab,al,aJ⟩,hm⟩,gI=>by
  subst e;refine⟨D,rfl,λτ d=>⟨_,run_takeDeferred (w:=a8 w τ d) ab,?_⟩⟩;replace ao:=ao.a8 τ d;replace au:=au.tu τ d;replace hm:Marks φ (a8 w τ d) A.c9 ds:=hm.rest (sD φ w τ d).toRest;replace ab:(a8 w τ d).heap[D]?=some (.deferred (some [])):=ab;generalize a8 w τ d=w at *;have tv:cW φ (w.putObj D (.deferred none)) N s a:=⟨λt=>aY.shut (GM ab) _ _ (ao.tmp t),ao.size,N9 (GM ab) (λl o ak e=>by have:=ao.mem.gw l o ak;grind) ao.mem⟩;have bh:Step A.gg A.c9 φ (w.putObj D (.deferred none)) s.bb:=⟨λq c aH=>aY.shut (GM ab) _ _ (au.st.tr q c aH),au.st.os,au.st.output,by grind [World.putObj_size],
   λb hb ar ak=>by
    obtain⟨k1,bf⟩:=au.st.rest b hb ar ak;grind [World.putObj_heap_other]⟩
  refine My (A:=⟨A.gg,A.c9,φ,w.putObj D (.deferred none)⟩) ds φ _ tv ⟨bh,Rest.refl _ _⟩ ?_ (λw' k1 bf=>gI w' k1 bf);have q7:∀(l:List Deferred),Marks φ w A.c9 l->(∀dq∈l,dq≠{ target:=.collected D,args:=#[] })->Marks φ (w.putObj D (.deferred none)) A.c9 l:=by
   intro l;induction l with
   |nil=>exact λ_ _=>trivial
   |cons d l az=>
    rintro⟨⟨D',e,k1,bf,bP,cX⟩,fi⟩ bU;have ahc:D'≠D:=by grind
    exact⟨⟨D',e,k1,(World.putObj_heap_other ahc).trans bf,bP,cX⟩,az fi (λdq jv=>bU dq (by simp[jv]))⟩
  grind
end
mutual
def aa.anon(n an:Nat):aa->aa
 |.ptr i o=>if i<n then .ptr i o else .bad
 |.sl (some i) sz off len cs=>.sl (if i<an then some i else none) sz off len (kK n an cs)
 |.sl none sz off len cs=>.sl none sz off len (kK n an cs)
 |.bJ (some i) off cs=>.bJ (if i<an then some i else none) off (kK n an cs)
 |.bJ none off cs=>.bJ none off (kK n an cs)
 |.fn f cs=>.fn f (kK n an cs)
 |.agg cs=>.agg (kK n an cs)
 |.bD cs=>.bD (kK n an cs)
 |.int k m=>.int k m
 |.bool b=>.bool b
 |.str s=>.str s
 |.undef=>.undef
 |.bad=>.bad
 |.ca=>.ca
 |.eL=>.eL
 |.bC=>.bC
 |.dead k=>.dead k
 |.cq k=>.cq k
 |.mp it none sz cs=>.mp it none sz cs
 |.mp it (some i) sz cs=>.mp it (if i<an then some i else none) sz cs
def kK(n an:Nat):List aa->List aa
 |[]=>[]
 |p::ps=>p.anon n an::kK n an ps
end
theorem DU(n an:Nat)(l:List aa):kK n an l=l.map (aa.anon n an):=by
 induction l with
 |nil=>rfl
 |cons p ps az=>simp[kK,az]
section
variable{φ:bo}{w:World}{m:Mem}{n an:Nat}
theorem Nj(hm:c0 φ m w){i b sz off cap:Nat}(h:place φ w (some i) b sz off cap):place (φ.cut n an) w (if i<an then some i else none) b sz off cap:=by
 by_cases hi:i<an
 ·grind [v8]
 ·rw[if_neg hi];refine⟨λar=>?_,jN hm h.1⟩;rcases ar with⟨j,aC⟩|⟨j,aC⟩<;>simp only[bo.cut]at aC<;>split at aC<;>first|cases aC|skip
  ·exact hm.sep j i b aC h.1
  ·have:=hm.hp j i b aC h.1;omega
mutual
theorem aY.anon(hm:c0 φ m w):∀(q:aa)(c:Value),aY φ w q c->aY (φ.cut n an) w (q.anon n an) c
 |.int _ _,c,h | .bool _,c,h | .str _,c,h | .undef,c,h | .bad,c,h | .ca,c,h | .eL,c,h | .bC,c,h | .dead _,c,h | .cq _,c,h=>by assumption
 |.ptr i o,c,h=>by
  simp only[aa.anon];split;all_goals simp_all[aY,bo.cut]
 |.sl none sz off len cs,c,h=>by
  obtain⟨ak,a,cap,ai,ah,h⟩:=h;refine⟨by rw[DU,List.length_map];exact ak,a,cap,ai,ah,?_⟩;rcases h with h|⟨b,bL,ae,ad⟩
  ·exact .inl h
  ·exact .inr ⟨b,bL,v8 ae (λi e=>by cases e),b7.anon hm b cs off ad⟩
 |.sl (some i) sz off len cs,c,h=>by
  obtain⟨ak,a,cap,ai,ah,h⟩:=h;refine⟨by rw[DU,List.length_map];exact ak,a,cap,ai,ah,?_⟩;rcases h with h|⟨b,bL,ae,ad⟩
  ·exact absurd h.1 (by simp)
  ·exact .inr ⟨b,bL,Nj hm ae,b7.anon hm b cs off ad⟩
 |.bJ none off cs,c,h=>by
  obtain⟨b,bL,ae,ad⟩:=h;exact⟨b,bL,v8 ae (λi e=>by cases e),b7.anon hm b cs off ad⟩
 |.bJ (some i) off cs,c,h=>by
  obtain⟨b,bL,ae,ad⟩:=h;exact⟨b,bL,Nj hm ae,b7.anon hm b cs off ad⟩
 |.fn f cs,c,h=>by
  obtain⟨af,U,ab⟩:=h;exact⟨af,U,bl.anon hm cs af ab⟩
 |.agg cs,c,h=>by
  obtain⟨af,U,ab⟩:=h;exact⟨af,U,bl.anon hm cs af ab⟩
 |.bD cs,c,h=>by
  obtain⟨af,U,ab⟩:=h;exact⟨af,U,bl.anon hm cs af ab⟩
 |.mp it none sz cs,c,h=>by exact h.move (λb o ae bq _ _ _=>⟨λk=>ae (pZ k),bq⟩) λb o ae bq _ _ _=>⟨λk=>ae (pZ k),bq⟩
 |.mp it (some i) sz cs,c,h=>by
  refine h.move (λb o ae bq _ _ _=>⟨?_,bq⟩) λb o ae bq _ _ _=>⟨λk=>ae (pZ k),bq⟩;by_cases hi:i<an
  ·grind [o9,bo.cut]
  ·simp only[hi,if_false,o9];rintro(⟨k,aq⟩|⟨k,aq⟩)<;>simp only[bo.cut]at aq<;>split at aq<;>first|cases aq|skip
   ·exact hm.sep k i b aq ae
   ·have:=hm.hp k i b aq ae;omega
theorem bl.anon(hm:c0 φ m w):∀(l:List aa)(af:List Value),bl φ w l af->bl (φ.cut n an) w (kK n an l) af
 |[],af,h=>by assumption
 |p::ps,af,h=>by
  obtain⟨v,cB,e,aT,U⟩:=h;exact⟨v,cB,e,aY.anon hm p v aT,bl.anon hm ps cB U⟩
theorem b7.anon(hm:c0 φ m w)(b:Nat):∀(l:List aa)(off:Nat),b7 φ w b l off->b7 (φ.cut n an) w b (kK n an l) off
 |[],_,_=>by assumption
 |p::ps,off,h=>by
  obtain⟨⟨c,ah,aT⟩,U⟩:=h;exact⟨⟨c,ah,aY.anon hm p c aT⟩,b7.anon hm b ps (off+1) U⟩
end
mutual
theorem Xs:∀(q:aa),(∀e,q.bW e=q)->q.anon n an=q.cH n
 |.int _ _,_ | .bool _,_ | .str _,_ | .undef,_ | .bad,_ | .ca,_ | .eL,_ | .bC,_ | .dead _,_ | .cq _,_ | .ptr _ _,_=>by rfl
 |.sl none sz off len cs,h=>by
  simp only[aa.anon,aa.cH];rw[ug cs (λe=>by simp_all[aa.bW])]
 |.sl (some i) sz off len cs,h=>by
  have:=h (.kill i);grind [aa.bW]
 |.bJ none off cs,h=>by
  simp only[aa.anon,aa.cH];rw[ug cs (λe=>by simp_all[aa.bW])]
 |.bJ (some i) off cs,h=>by
  have:=h (.kill i);grind [aa.bW]
 |.fn f cs,h=>by
  simp only[aa.anon,aa.cH];rw[ug cs (λe=>by simp_all[aa.bW])]
 |.agg cs,h=>by
  simp only[aa.anon,aa.cH];rw[ug cs (λe=>by simp_all[aa.bW])]
 |.bD cs,h=>by
  simp only[aa.anon,aa.cH];rw[ug cs (λe=>by simp_all[aa.bW])]
 |.mp it none sz cs,h=>by rfl
 |.mp it (some i) sz cs,h=>by
  have:=h (.kill i);grind [aa.bW]
theorem ug:∀(l:List aa),(∀e,eF e l=l)->kK n an l=iR n l
 |[],_=>by rfl
 |p::ps,h=>by
  simp only[kK,iR];rw[Xs p (λe=>by simp_all[eF]),ug ps (λe=>by simp_all[eF])]
end
end
def leaves(s:aA)(pv kS:aa)(m m':Mem):Prop:=(m'=s.m/\kS=pv) \/
 (s.bb=[]/\m.n<=m'.n/\m.an<=m'.an/\m'.n<=s.m.n/\m'.rc=s.m.rc/\kS=pv.anon m'.n m'.an /\
  ∀i,i<m'.n->(i<m.n/\m'.β i=m.β i/\s.m.β i=m.β i)\/∃l,s.m.β i=.cells l/\m'.β i=.cells (kK m'.n m'.an l))
mutual
theorem aby{n an eu eR:Nat}(aI:n<=eu)(au:an<=eR):∀(q:aa),q.cT n an->q.cT eu eR
 |.int _ _,_ | .bool _,_ | .str _,_ | .undef,_ | .bad,_ | .ca,_ | .eL,_ | .bC,_ | .dead _,_ | .cq _,_=>by assumption
 |.ptr i _,h=>by grind [aa.cT]
 |.sl none _ _ _ cs,h=>by exact wc aI au cs h
 |.sl (some i) _ _ _ cs,h=>by simp only[aa.cT]at h⊢;exact⟨by omega,wc aI au cs h.2⟩
 |.bJ none _ cs,h=>by exact wc aI au cs h
 |.bJ (some i) _ cs,h=>by simp only[aa.cT]at h⊢;exact⟨by omega,wc aI au cs h.2⟩
 |.fn _ cs,h | .agg cs,h | .bD cs,h=>by exact wc aI au cs h
 |.mp _ none _ _,h=>by assumption
 |.mp _ (some i) _ _,h=>by grind [aa.cT]
theorem wc{n an eu eR:Nat}(aI:n<=eu)(au:an<=eR):∀(l:List aa),e5 n an l->e5 eu eR l
 |[],_=>by assumption
 |p::ps,h=>by exact⟨aby aI au p h.1,wc aI au ps h.2⟩
end
theorem Mi{P:Program}{ys:List eN}{f:FuncId}{fn:Func}{c:Code}{args:List aa}{m:Mem}{Q:aa->List b9->Mem->Prop}
  (aQ:P.funcs[f]?=some fn) (hb:fn.body=some c) (gq:args.length<=fn.ntmps) (aV:hr fn.ntmps c=true) (fM:jU P c=false)
  (h:ff P c (wE ys args m) λe s'=>(e=.normal\/e=.ret)/\∃pv,pt P s' fn.results.toList=some pv/\∃kS m',leaves s' pv kS m m'/\Q kS s'.bb m'):qR P ys f args m Q:=by
 intro φ af w hm ai tw;refine Vw aQ hb fM ?_;have hlen:af.length=args.length:=(mg ai).symm;have ao:cW φ w fn.ntmps (wE ys args m) { tmps:=af.toArray++Array.replicate (fn.ntmps-af.toArray.size) undef,defers:=[] }:=by
  refine⟨λt=>?_,by grind,hm⟩;simp[wE];grind [o1,aY,undef]
 have aW:Old ⟨φ,w,φ,w⟩ (wE ys args m):=⟨λi b hi=>(hm.arr i b hi).1,λi b hi=>Nat.lt_of_not_le λhle=>(by rw[hm.dt i hle]at hi;cases hi),tw⟩;refine k8 (h ⟨φ,w,φ,w⟩ φ w fn.ntmps 0 none _ (ZX aV) ao ⟨Step.refl φ w,Rest.refl φ w⟩ aW trivial) ?_;rintro e a' w' ⟨ex,s',bn,he,k1,bf,bP,kA,hex,pv,gO,kS,m',ak,aH⟩;have key:yC P fn a'.tmps (λe w'=>∃v pv E m' bn,e=.returned v/\aY bn w' pv v/\c0 bn m' w'/\Step φ w bn w' E/\Q pv E m') a'.defers w':=by
  refine My a'.defers bn w' k1 bf bP λw2 s2 t2=>?_;intro τ d;replace s2:=s2.a8 τ d;replace t2:Step φ w bn (a8 w2 τ d) s'.bb:=by
   have:=t2.trans (sD bn w2 τ d);grind
  generalize a8 w2 τ d=w2 at *;obtain⟨v,ad,ae⟩:=WH (P:=P) s2 gO;refine⟨v,w2,ad,?_⟩;rcases ak with⟨rfl,rfl⟩|⟨U,ab,al,aJ,fb,rfl,cS⟩
  ·exact⟨v,kS,s'.bb,s'.m,bn,rfl,ae,s2.mem,t2,aH⟩
  ·refine⟨v,_,s'.bb,m',bn.cut m'.n m'.an,rfl,aY.anon s2.mem _ _ ae,H4 s2.mem fb aJ (λi hi g=>?_) λi af hi ad=>?_,?_,aH⟩
   ·grind
   ·rcases cS i hi with⟨e1,aK,aO⟩|⟨l,aK,aO⟩
    ·rw[aK];rw[aO]at ad;cases ah:m.β i with
     |cells l=>
      rw[ah]at ad;obtain⟨b,cs,bS,g1,a2,bZ⟩:=hm.cells e1 (by grind);rw[ah]at bZ;have lp:e5 m.n m.an l:=ui aW.2.1 aW.1 l _ bZ;exact bl.cut l af ad (wc ab al l lp)
     |inv I=>
      rw[ah]at ad;obtain⟨l,g1,a2,bZ,dR⟩:=ad;refine⟨l,g1,a2,bZ,?_⟩;have:=bl.anon (n:=m'.n) (an:=m'.an) s2.mem l af dR;grind [ug]
     |hole=>rw[ah]at ad;trivial
    ·rw[aK]at ad;rw[aO];exact bl.anon s2.mem l af ad
   ·rw[U]at t2⊢;exact DT (λ_ h=>by cases h) t2 (λi b hb=>Nat.lt_of_lt_of_le (aW.2.1 i b hb) ab) (λi b hb=>Nat.lt_of_lt_of_le (aW.1 i b hb) al)
 rcases hex with rfl|rfl
 ·cases e<;>simp[eJ.of]at he<;>first|trivial|exact key
 ·cases e<;>simp[eJ.of]at he<;>first|trivial|exact key
theorem GQ{P:Program}{f:FuncId}{fn:Func}{c:Code}{args:List aa}{m:Mem}{Q:aa->List b9->Mem->Prop}
  (aQ:P.funcs[f]?=some fn) (hb:fn.body=some c) (gq:args.length<=fn.ntmps) (aV:hr fn.ntmps c=true) (fM:jU P c=false)
  (h:ff P c (entry args m) λe s'=>(e=.normal\/e=.ret)/\∃pv,pt P s' fn.results.toList=some pv/\∃kS m',leaves s' pv kS m m'/\Q kS s'.bb m'):gL P f args m Q:=
 λφ af w hm ai=>Mi (ys:=[]) aQ hb gq aV fM h φ af w hm ai (λy aF=>(by cases aF))
def akP(m:Mem)(s:aA):Prop:=s.bb=[]/\m.n<=s.m.n/\m.an<=s.m.an/\m.rc=s.m.rc/\∀i,i<m.n->s.m.β i=m.β i
def ak2(P:Program)(f:FuncId)(args:List aa)(m:Mem)(v:aa):Prop:=gL P f args m λa3 E m'=>a3=v/\E=[]/\m'=m
end
section
open Go Go.RowKit
variable[cQ]
section
variable{Λ V:Type}{L cL:Nat->Prop}{out rn:Nat->Λ->Option V}{mL TW σ Gs:Λ->V}{i:Nat}{o:Λ->Option V}
def lC(L:Nat->Prop)(out:Nat->Λ->Option V)(mL σ:Λ->V):Prop:=
 ∀l,(∃j v,L j/\out j l=some v/\(∀j5,L j5->(out j5 l).isSome->j5<=j)/\σ l=v)\/((∀j,L j->out j l=none)/\σ l=mL l)
def app(o:Λ->Option V)(σ:Λ->V):Λ->V:=λl=>(o l).getD (σ l)
theorem O0:lC (λ_=>False) out mL mL:=λ_=>.inr ⟨λ_ h=>h.elim,rfl⟩
theorem we(h:lC L out mL σ)(dg:∀j,L j↔cL j)(ar:∀j,L j->out j=rn j):lC cL rn mL σ:=by
 intro l;rcases h l with⟨j,v,U,ab,al,aJ⟩|⟨U,ab⟩;all_goals grind
theorem Q7(h:lC L out mL σ)(hi:¬L i)(Sj:∀j,L j->i<j->∀l,(o l).isSome->out j l=none):
  lC (λj=>L j\/j=i) (λj=>if j=i then o else out j) mL (app o σ):=by
 intro l;cases ar:o l with
 |some v=>grind [app]
 |none=>
  rcases h l with⟨j,v,U,ab,al,aJ⟩|⟨U,ab⟩;all_goals grind [app]
theorem O1{l:Λ}(h:lC L out mL σ)(bc:lC cL rn TW Gs)(U:∀j,L j->(out j l).isSome->cL j)(ab:∀j,cL j->(rn j l).isSome->L j)
  (ar:∀j,L j->cL j->out j l=rn j l) (aT:mL l=TW l\/∃j,cL j/\(rn j l).isSome):σ l=Gs l:=by
 rcases h l with⟨j,v,eD,fA,jD,tU⟩|⟨eD,fA⟩
 ·rcases bc l with⟨k,u,fj,gB,k2,LI⟩|⟨fj,gB⟩;all_goals grind
 ·rcases bc l with⟨k,u,fj,gB,k2,LI⟩|⟨fj,gB⟩;all_goals grind
end
inductive s6 where
 |slot (t:Nat)
 |box (i:Nat)
 |cnt
inductive vG where
 |pv (p:aa)
 |bx (c:di)
 |nat (n:Nat)
structure hg where
 v:aa
 bx:Option (Nat×List aa)
 an:Option Nat
def hg.out(d:Option Tmp)(r:hg):s6->Option vG
 |.slot t=>if d=some t then some (.pv r.v)else none
 |.box i=>match r.bx with
  |some (id,cs)=>if id=i then some (.bx (.cells cs))else none
  |none=>none
 |.cnt=>r.an.map .nat
def aA.loc(s:aA):s6->vG
 |.slot t=>.pv (s.g t)
 |.box i=>.bx (s.m.β i)
 |.cnt=>.nat s.m.an
def aA.res(s:aA)(d:Option Tmp)(r:hg)(eu:Nat):aA:=
 { (s.put d r.v)with m:=⟨match r.bx with|some (id,cs)=>ea s.m.β id (.cells cs)|none=>s.m.β,eu,r.an.getD s.m.an,s.m.rc⟩ }
theorem P7(s:aA)(d:Option Tmp)(r:hg)(eu:Nat):(s.res d r eu).loc=app (r.out d) s.loc:=by
 funext l;cases l with
 |slot t=>
  cases d with
  |none=>rfl
  |some d=>grind [aA.loc,aA.res,app,hg.out,aA.put]
 |box i=>
  obtain⟨v,bx,an⟩:=r;cases bx with
  |none=>rfl
  |some p=>
   obtain⟨id,cs⟩:=p;by_cases h:id=i
   ·simp_all[aA.loc,aA.res,app,hg.out]
   ·have:¬i=id:=λe=>h e.symm;simp[aA.loc,aA.res,app,hg.out,ea,h,this]
 |cnt=>simp_all[aA.loc,aA.res,app,hg.out]
theorem adg{s s':aA}(h:s.loc=s'.loc)(aI:s.m.n=s'.m.n)(aT:s.bg=s'.bg)(he:s.bb=s'.bb)(ad:s.m.rc=s'.m.rc):s=s':=by
 have U:s.g=s'.g:=funext λt=>by have:=congrFun h (.slot t);grind [aA.loc]
 have ab:s.m.β=s'.m.β:=funext λt=>by have:=congrFun h (.box t);grind [aA.loc]
 have al:s.m.an=s'.m.an:=by have:=congrFun h .cnt;grind [aA.loc]
 obtain⟨g,⟨β,n,an,rc⟩,bg,bb⟩:=s;simp_all
abbrev l0:=FuncId->List aa->Nat->aa->Nat->Prop
def pw(m0 m:Mem):Prop:=m0.n<=m.n/\∀i,i<m0.n->m.β i=m0.β i
def g7(o:Oper):Bool:=match o.op with
 |.alloc _ | .box _ _=>true
 |_=>false
def mU(o:Oper):Bool:=match o.op with
 |.store _ _ _=>true
 |_=>false
def oB(o:Oper):Bool:=match o.op with
 |.call c=>match c.callee with
  |.value _=>true
  |_=>false
 |_=>false
def bV(P:Program)(m0:Mem)(e:Operand->aa)(o:Oper):Option aa:=match o.op with
 |.move x | .assign x=>some (e x)
 |.pick c x y=>match e c with
  |.bool t=>some (if t then e x else e y)
  |_=>none
 |.binOp op t x y _=>eB P op t (e x) (e y)
 |.unOp op _ x=>rH op (e x)
 |.convert src dst x=>q5 P src dst (e x)
 |.nilCheck x=>match e x with
  |.ptr i off=>some (.ptr i off)
  |.fn f caps=>some (.fn f caps)
  |_=>none
 |.extract x i=>match e x with
  |.bD af=>af[i]?
  |_=>none
 |.fieldAddr t x f=>pd P t (e x) f
 |.field t x f=>yB P t (e x) f
 |.indexAddr t x i=>pT P t (e x) (e i)
 |.index t x i=>uJ P t (e x) (e i)
 |.load t x=>h0 P m0 t (e x)
 |.build t parts=>sI P t (parts.toList.map λp=>(p.1,e p.2))
 |.buildSlice t len parts=>match P.underlying t with
  |some (.slice el)=>match ki P el with
   |some z=>if(P.info? el).isSome/\z.length=P.cellsOf el/\0<z.length/\len*P.cellsOf el<=16777216 then
     (kJ (λi=>some (i*P.cellsOf el,P.cellsOf el)) (e8 z len) (parts.toList.map λp=>(p.1,e p.2))).map λcs=>.sl none (P.cellsOf el) 0 len cs
    else none
   |none=>none
  |_=>none
 |.slice t x lo hi none=>p1 P t (e x) (lo.map e) (hi.map e)
 |.makeFunc (.func f) first caps=>if first=#[]then some (.fn f (caps.toList.map e))else none
 |.call c=>match c.callee with
  |.builtin .len=>match c.argTypes[0]?,c.args.toList with
   |some t,[x]=>ht P t (e x)
   |_,_=>none
  |.builtin .min=>s4 (c.args.toList.map e)
  |.builtin .max=>u3 (c.args.toList.map e)
  |_=>none
 |_=>none
def EB(P:Program)(m0:Mem)(T:l0)(g:FuncId)(args:List aa)(an:Nat):Prop:=
 (∃v eR,T g args an v eR)/\∀m,pw m0 m->m.an=an->gL P g args m λv E m'=>E=[]/\m'={ m with an:=m'.an }/\m.an<=m'.an/\T g args an v m'.an
def sR(P:Program)(m0:Mem)(T:l0)(e:Operand->aa)(β:Nat->di)(da an:Nat)(o:Oper):Prop:=match o.op with
 |.alloc t=>∃z,ki P t=some z
 |.box _ x=>(e x).known=true
 |.store t x y=>o.dst=none/\(P.info? t).isSome/\(e y).cells.length=P.cellsOf t/\(e y).cells.all aa.one=true/\∃id l,e x=.ptr id 0/\m0.n<=id/\id<da/\β id=.cells l/\l.length=(e y).cells.length
 |.call c=>match c.callee with
  |.value f=>match e f with
   |.fn g caps=>(∃fn,P.funcs[g]?=some fn/\fn.name ≠ "runtime.NumGoroutine" /\ fn.body.isSome)/\EB P m0 T g (c.args.toList.map e++caps) an
   |_=>False
  |_=>∃v,bV P m0 e o=some v
 |_=>∃v,bV P m0 e o=some v
def iS(P:Program)(m0:Mem)(T:l0)(e:Operand->aa)(da an:Nat)(o:Oper)(r:hg):Prop:=match o.op with
 |.alloc t=>∃z,ki P t=some z/\r=⟨.ptr da 0,some (da,z),none⟩
 |.box _ x=>r=⟨.ptr da 0,some (da,(e x).cells),none⟩
 |.store _ x y=>∃id,e x=.ptr id 0/\m0.n<=id/\id<da/\r=⟨.undef,some (id,(e y).cells),none⟩
 |.call c=>match c.callee with
  |.value f=>match e f with
   |.fn g caps=>∃v eR,T g (c.args.toList.map e++caps) an v eR/\r=⟨v,none,some eR⟩
   |_=>False
  |_=>∃v,bV P m0 e o=some v/\r=⟨v,none,none⟩
 |_=>∃v,bV P m0 e o=some v/\r=⟨v,none,none⟩
def mY(P:Program)(m0:Mem)(T:l0)(s:aA)(o:Oper)(K:aA->Prop):Prop:=match o.op with
 |.alloc t=>∃z,ki P t=some z/\K (s.gu o.dst z)
 |.box _ x=>(s.ay x).known=true/\K (s.gu o.dst (s.ay x).cells)
 |.store t x y=>o.dst=none/\(P.info? t).isSome/\(s.ay y).cells.length=P.cellsOf t/\(s.ay y).cells.all aa.one=true/\∃id l,s.ay x=.ptr id 0/\m0.n<=id/\id<s.m.n/\s.m.β id=.cells l/\l.length=(s.ay y).cells.length /\
   K (s.hq id (s.ay y).cells)
 |.call c=>match c.callee with
  |.value f=>match s.ay f with
   |.fn g caps=>(∃fn,P.funcs[g]?=some fn/\fn.name ≠ "runtime.NumGoroutine" /\ fn.body.isSome)/\EB P m0 T g (c.args.toList.map s.ay++caps) s.m.an /\
     ∀v eR,T g (c.args.toList.map s.ay++caps) s.m.an v eR->K ({ s with m:={ s.m with an:=eR } }.put o.dst v)
   |_=>False
  |_=>∃v,bV P m0 s.ay o=some v/\K (s.put o.dst v)
 |_=>∃v,bV P m0 s.ay o=some v/\K (s.put o.dst v)
def kO(P:Program)(m0:Mem)(T:l0)(ops:Array Oper):List Oper->aA->(aA->Prop)->Prop
 |[],s,K=>K s
 |o::rest,s,K=>ld ops s o (mY P m0 T s o λs'=>kO P m0 T ops rest s' K) (kO P m0 T ops rest (s.put o.dst .undef) K)
section
variable{P:Program}{m0:Mem}{T:l0}{s:aA}{o:Oper}{K:aA->Prop}{e e':Operand->aa}{β U2:Nat->di}{da an eR:Nat}{r:hg}
theorem abz(h:sR P m0 T e β da an o):∃r,iS P m0 T e da an o r:=by
 unfold sR at h;unfold iS;split at h
 ·grind
 ·grind
 ·obtain⟨_,_,_,_,id,l,U,ab,al,_,_⟩:=h;simp_all
 ·split at h
  ·split at h
   ·obtain⟨_,⟨v,eR,ek⟩,_⟩:=h;grind
   grind
  grind
 grind
def oa(o:Oper):Nat:=if g7 o then 1 else 0
theorem yD(s:aA)(d:Option Tmp)(v:aa):s.res d ⟨v,none,none⟩ s.m.n=s.put d v:=by cases d<;>simp[aA.res,aA.put]
theorem P8(s:aA)(d:Option Tmp)(z:List aa):s.res d ⟨.ptr s.m.n 0,some (s.m.n,z),none⟩ (s.m.n+1)=s.gu d z:=by cases d<;>simp[aA.res,aA.put,aA.gu]
theorem P9(s:aA)(id:Nat)(z:List aa):s.res none ⟨.undef,some (id,z),none⟩ s.m.n=s.hq id z:=by rfl
theorem Q8(s:aA)(d:Option Tmp)(v:aa)(eR:Nat):s.res d ⟨v,none,some eR⟩ s.m.n={ s with m:={ s.m with an:=eR } }.put d v:=by cases d<;>simp[aA.res,aA.put]
theorem IA(h:mY P m0 T s o K):sR P m0 T s.ay s.m.β s.m.n s.m.an o/\∀r,iS P m0 T s.ay s.m.n s.m.an o r->K (s.res o.dst r (s.m.n+oa o)):=by
 unfold mY at h;unfold sR iS;split at h
 ·obtain⟨z,bO,a9⟩:=h;simp_all[oa,g7,P8]
 ·simp_all[oa,g7,P8]
 ·obtain⟨U,ab,al,aJ,id,l,bm,bI,cS,et,gp,a9⟩:=h;simp_all[oa,g7,P9]
 ·rename_i c aE;have gZ:oa o=0:=by simp[oa,g7,aE]
  split at h
  ·split at h;all_goals simp_all[Q8]
  ·obtain⟨v,ai,a9⟩:=h;simp_all[yD]
 ·have gZ:oa o=0:=by grind [oa,g7]
  obtain⟨v,ai,a9⟩:=h;simp_all[yD]
theorem Dv{l:List Operand}(he:∀x∈l,e x=e' x):l.map e=l.map e':=List.map_congr_left he
theorem MP{l:List (Nat×Operand)}(he:∀x∈l.map (·.2),e x=e' x):(l.map λp=>(p.1,e p.2))=l.map λp=>(p.1,e' p.2):=
 List.map_congr_left λp ae=>by grind
theorem MQ(he:∀x∈o.op.operands,e x=e' x):bV P m0 e o=bV P m0 e' o:=by
 obtain⟨dst,op,type,pos,after,guard⟩:=o;cases op with
 |call c=>
  obtain⟨callee,args,argTypes⟩:=c;simp only[bV];have au:args.toList.map e=args.toList.map e':=Dv λx aj=>he x (by grind [Op.operands,Call.operands]);grind
 |slice t x lo hi qC=>
  cases qC with
  |some y=>rfl
  |none=>
   have U:e x=e' x:=he x (by simp[Op.operands]);have ab:lo.map e=lo.map e':=by cases lo<;>simp;grind [Op.operands]
   have al:hi.map e=hi.map e':=by cases hi<;>simp;grind [Op.operands]
   grind [bV]
 |makeFunc f first caps=>
  have au:caps.toList.map e=caps.toList.map e':=Dv λx aj=>he x (by grind [Op.operands]);cases f<;>simp only[bV,au]
 |build t parts=>
  have au:=MP (e:=e) (e':=e') (l:=parts.toList) λx aj=>he x (by grind [Op.operands]);grind [bV]
 |buildSlice t len parts=>
  have au:=MP (e:=e) (e':=e') (l:=parts.toList) λx aj=>he x (by grind [Op.operands]);grind [bV]
 |_=>simp only[Op.operands]at he<;>simp_all[bV]
theorem WI(he:∀x∈o.op.operands,e x=e' x)(fW:mU o=true->∀id,m0.n<=id->id<da->β id=U2 id)(au:oB o=true->an=eR)(h:sR P m0 T e β da an o):sR P m0 T e' U2 da eR o:=by
 have ae:=MQ (P:=P) (m0:=m0) he;unfold sR at *;split at h
 ·exact h
 ·grind [Op.operands]
 ·grind [Op.operands,mU]
 ·all_goals grind [Op.operands,Call.operands,Dv,oB]
 grind
theorem WJ(he:∀x∈o.op.operands,e x=e' x)(au:oB o=true->an=eR)(h:iS P m0 T e da an o r):iS P m0 T e' da eR o r:=by
 have ae:=MQ (P:=P) (m0:=m0) he;unfold iS at *;split at h
 ·exact h
 ·grind [Op.operands]
 ·grind [Op.operands]
 ·all_goals grind [Op.operands,Call.operands,Dv,oB]
 grind
theorem Z5(h:iS P m0 T e da an o r):(∀id cs,r.bx=some (id,cs)->m0.n<=id/\((g7 o=true/\id=da)\/(mU o=true/\id<da))\/(g7 o=true/\id=da))/\(r.an.isSome->oB o=true):=by
 unfold iS at h;all_goals grind [g7,mU,oB]
end
end
end Go.Proofs.YtlminnpaeaganaaGreat
