/- Part of the proof of RuleKnown. No condition. -/
import Derived.Conc.WgGenN3
import Derived.Test.YtlminnpaeaganaaGreatMKnownAM
namespace Go.Proofs.YtlminnpaeaganaaGreat
set_option maxRecDepth 100000
set_option linter.all false
section
open Go Go.Conc
open Go.ConcN (CT Apart PermW Ok0 OkW RelBy Deaf_absent)
section
variable{gh:Loc->Prop}{Own Rd Own' Rd':Nat->Loc->Prop}{t u:Trace}{j:Nat}
def wS(t:Trace)(l:Loc):Prop:=∀i a,touchAt t i=some a->a.loc≠l
theorem wS.perm{l:Loc}(h:wS t l)(g:Nat):Perm t g l:=λi a au e=>absurd e (h i a au)
theorem abG(h:CT gh Own Rd t j)(U:∀k l,1<=k->k<=j->Own k l->Own' k l)(ab:∀k l,1<=k->k<=j->Own' k l->Own k l\/wS t l)(al:∀k l,1<=k->k<=j->(Rd' k l↔Rd k l)):CT gh Own' Rd' t j:=
 ⟨h.quiet,λk k1 hU l ak=>(ab k l k1 hU ak).elim (h.own k k1 hU l) λf=>f.perm k,λk k1 hU l ak=>h.rd k k1 hU l ((al k l k1 hU).1 ak),
  λl ao ak=>h.free l ao λk k1 hU=>⟨λx=>(ak k k1 hU).1 (U k l k1 hU x),λx=>(ak k k1 hU).2 ((al k l k1 hU).2 x)⟩,λl ao ak=>h.mine l ao λk k1 hU x=>ak k k1 hU (U k l k1 hU x),h.nr,h.gs⟩
theorem Oh{B:Nat}(h:∀op∈t,op.act.low B){a:Addr}(au:B<=a.block):wS t (.cell a):=by
 intro i x aj e;obtain⟨op,ar,lq⟩:=touch_of aj;have:=h op (Array.mem_of_getElem? ar);cases zf:op.act with
 |access ay=>
  rw[zf]at lq this;simp[MemAct.touch?]at lq;subst lq;dsimp only at e;rw[show MemAct.low B (.access ay)=ay.loc.low B from rfl,e]at this;exact absurd this (Nat.not_lt.2 au)
 |mark m=>
  rw[zf]at lq this;cases m<;>simp[MemAct.touch?]at lq;all_goals
   subst lq;cases e;exact absurd this (Nat.not_lt.2 au)
 |_=>grind [MemAct.touch?]
theorem YH{B r:Nat}(h:∀op∈t,op.act.low B)(au:B<=r):wS t (.obj r):=by
 intro i x aj e;obtain⟨op,ar,lq⟩:=touch_of aj;have:=h op (Array.mem_of_getElem? ar);cases zf:op.act with
 |access ay=>
  rw[zf]at lq this;simp only[MemAct.touch?,Option.some.injEq]at lq;subst lq;dsimp only at e;rw[show MemAct.low B (.access ay)=ay.loc.low B from rfl,e]at this;exact absurd this (Nat.not_lt.2 au)
 |mark m=>
  rw[zf]at lq this;cases m<;>simp only[MemAct.touch?,Option.some.injEq,reduceCtorEq]at lq;all_goals
   subst lq;cases e
 |_=>rw[zf]at lq;simp[MemAct.touch?]at lq
end
structure hl(gh:Loc->Prop)(Own Rd:Nat->Loc->Prop)(B:Nat)(t:Trace)(j0 j:Nat):Prop where
 ct:CT gh Own Rd t j
 pl:∀i a,touchAt t i=some a->¬gh a.loc->a.kind≠.atomic
 mem:∀i a g,t.g? i=some g->j0<g->touchAt t i=some a->a.loc.isMemory=true
 old:∀i a g,t.g? i=some g->g<=j0->touchAt t i=some a->¬gh a.loc->Knows t 0 i
 over:∀i g,t.g? i=some g->g≠0->g<=j0->t.counts i->∃q,t.g? q=some 0/\HappensBefore t i q
 seen:∀op∈t,op.act.low B
 le:j0<=j
section
variable{gh:Loc->Prop}{S:Nat->Prop}{Own Rd Own' Rd':Nat->Loc->Prop}{t u:Trace}{j0 j B B' Wg:Nat}
theorem hl.start(h:kM S B t)(hW:B<=Wg)(aN:∀op∈t,op.g<=j0):hl (hP λb=>S b\/b=Wg) (λ_ _=>False) (λ_ _=>False) B t j0 j0:=by
 have fr:∀a:Addr,a.block=Wg->wS t (.cell a):=λa au=>Oh h.rq.seen (by rw[au];exact hW);have nk:∀i a,touchAt t i=some a->hP (λb=>S b\/b=Wg) a.loc->hP S a.loc:=λi a au ⟨x,aK,aO⟩=>by
  rcases aO with aO|aO
  ·exact⟨x,aK,aO⟩
  ·exact absurd aK (fr x aO i a au)
 have Tc:∀l,¬hP (λb=>S b\/b=Wg) l->¬hP S l:=λl ak ⟨x,aK,aO⟩=>ak ⟨x,aK,.inl aO⟩;have pm:∀l,¬hP (λb=>S b\/b=Wg) l->Perm t 0 l:=λl ak=>h.perm l (Tc l ak);refine⟨⟨λi op x aX aj ao=>?_,λ_ _ _ _ h=>h.elim,λ_ _ _ _ h=>h.elim,λl ak _=>pm l ak,λl ak _=>.of (pm l ak),h.rq.clean,λi op aX=>aN op (Array.mem_of_getElem? aX)⟩,λi a au ak=>h.pl i a au (Tc _ ak),λi a g h4 aU _=>?_,λi a g _ _ au ak=>pm _ ak i a au rfl,λi g h4 bU _ ah=>h.rq.over i g h4 bU ah,h.rq.seen,Nat.le_refl _⟩
 ·have aho:touchAt t i=some x:=by rw[touchAt_of aX];exact aj
  exact h.quiet i op x aX aj (nk i x aho ao)
 ·obtain⟨op,ar,rfl⟩:=Option.map_eq_some_iff.1 h4;have:=aN op (Array.mem_of_getElem? ar);omega
theorem hl.mono(h:hl gh Own Rd B t j0 j)(dH:B<=B'):hl gh Own Rd B' t j0 j:=⟨h.ct,h.pl,h.mem,h.old,h.over,λop aE=>MemAct.low_mono dH (h.seen op aE),h.le⟩
theorem hl.grow(h:hl gh Own Rd B t j0 j)(U:∀k l,1<=k->k<=j->Own k l->Own' k l)(ab:∀k l,1<=k->k<=j->Own' k l->Own k l\/wS t l)(al:∀k l,1<=k->k<=j->(Rd' k l↔Rd k l)):hl gh Own' Rd' B t j0 j:=⟨abG h.ct U ab al,h.pl,h.mem,h.old,h.over,h.seen,h.le⟩
theorem yQ{i g:Nat}(h:(t++u).g? i=some g):(i<t.size/\t.g? i=some g)\/∃op∈u,op.g=g/\(t++u)[i]?=some op:=by
 obtain⟨op,ar,rfl⟩:=Option.map_eq_some_iff.1 h;rcases getElem?_append_cases ar with⟨U,ab⟩|⟨_,ab⟩
 ·exact .inl ⟨U,by simp[Trace.g?,ab]⟩
 ·exact .inr ⟨op,ab,rfl,ar⟩
theorem hl.app(h:hl gh Own Rd B t j0 j)(ah:CT gh Own Rd (t++u) j)(cD:∀op∈u,∀a,op.act.touch?=some a->¬gh a.loc->a.kind≠.atomic)(gX:∀op∈u,op.act.low B)
  (aN:∀op∈u,(op.g=0)\/(op.act.touch?=none)\/(j0<op.g/\∀a,op.act.touch?=some a->a.loc.isMemory=true)):hl gh Own Rd B (t++u) j0 j:=by
 refine⟨ah,EF h.pl cD,λi a g h4 aU au=>?_,λi a g h4 hle au ak=>?_,λi g h4 bU hle BV=>?_,seen_app h.seen gX,h.le⟩
 ·rcases yQ h4 with⟨U,ab⟩|⟨op,U,rfl,al⟩
  ·exact h.mem i a g ab aU (by rw[←touchAt_old (u:=u) U];exact au)
  ·rw[touchAt_of al]at au;rcases aN op U with x|x|⟨_,x⟩
   ·omega
   ·rw[x]at au;cases au
   ·exact x a au
 ·rcases yQ h4 with⟨U,ab⟩|⟨op,U,rfl,al⟩
  ·exact(h.old i a g ab hle (by rw[←touchAt_old (u:=u) U];exact au) ak).app u
  ·rcases aN op U with x|x|⟨x,_⟩
   ·have:=knows_own al;rwa[x]at this
   ·rw[touchAt_of al,x]at au;cases au
   ·omega
 ·rcases yQ h4 with⟨U,ab⟩|⟨op,U,rfl,al⟩
  ·obtain⟨q,aH,hb⟩:=h.over i g ab bU hle ((counts_old U).1 BV);have xv:q<t.size:=by
    unfold Trace.g? at aH;obtain⟨z,bO,_⟩:=Option.map_eq_some_iff.1 aH;exact lt_size_of_getElem? bO
   exact⟨q,by simpa[Trace.g?,getElem?_append_old xv]using aH,hb_app u hb⟩
  ·obtain⟨x,aj,_⟩:=BV;have hc:touchAt (t++u) i=some x:=aj;rw[touchAt_of al]at hc;rcases aN op U with y|y|⟨y,_⟩
   ·exact absurd y bU
   ·rw[y]at hc;cases hc
   ·omega
theorem hl.app0(A:Apart gh Own Rd)(h:hl gh Own Rd B t j0 j)(hu:∀op∈u,Ok0 gh Own Rd j op)(cD:∀op∈u,∀a,op.act.touch?=some a->¬gh a.loc->a.kind≠.atomic)(gX:∀op∈u,op.act.low B):hl gh Own Rd B (t++u) j0 j:=
 h.app (h.ct.app0 A hu) cD gX λop aE=>.inl (hu op aE).1
theorem hl.appW(A:Apart gh Own Rd)(h:hl gh Own Rd B t j0 j){k:Nat}(k1:j0<k)(hU:k<=j)(hu:∀op∈u,OkW gh Own Rd k op)(cD:∀op∈u,∀a,op.act.touch?=some a->¬gh a.loc->a.kind≠.atomic)(hm:∀op∈u,∀a,op.act.touch?=some a->a.loc.isMemory=true)(gX:∀op∈u,op.act.low B):hl gh Own Rd B (t++u) j0 j:=
 h.app (h.ct.appW A (by omega) hU hu) cD gX λop aE=>.inr (.inr ⟨by rw[(hu op aE).1];exact k1,hm op aE⟩)
theorem hl.mute(A:Apart gh Own Rd)(h:hl gh Own Rd B t j0 j){k:Nat}(k1:1<=k)(hU:k<=j)(hu:∀op∈u,op.g=k)(aI:∀op∈u,op.act.touch?=none)(gX:∀op∈u,op.act.low B):hl gh Own Rd B (t++u) j0 j:=
 h.app (h.ct.appW A k1 hU λop aE=>⟨hu op aE,λx aj=>by rw[aI op aE]at aj;cases aj⟩) (λop aE a au=>by rw[aI op aE]at au;cases au) gX λop aE=>.inr (.inl (aI op aE))
theorem hl.fork(A:Apart gh Own Rd)(h:hl gh Own Rd B t j0 j){x y:MemOp}(aj:x.g=0/\x.act=.go (j+1))(aF:y.g=j+1/\y.act=.start)(aT:Deaf t 0=0):hl gh Own Rd B (t++#[x,y]) j0 (j+1):=by
 have aI:∀op∈#[x,y],op.act.touch?=none:=λop aE=>by
  simp only[List.mem_toArray,List.mem_cons,List.not_mem_nil,or_false]at aE;rcases aE with rfl|rfl
  ·rw[aj.2];rfl
  ·rw[aF.2];rfl
 have gX:∀op∈#[x,y],op.act.low B:=λop aE=>by
  simp only[List.mem_toArray,List.mem_cons,List.not_mem_nil,or_false]at aE;rcases aE with rfl|rfl
  ·rw[aj.2];trivial
  ·rw[aF.2];trivial
 refine⟨h.ct.fork A aj aF aT,EF h.pl λop aE a au=>(by rw[aI op aE]at au;cases au),λi a g h4 aU au=>?_,λi a g h4 hle au ak=>?_,λi g h4 bU hle BV=>?_,seen_app h.seen gX,Nat.le_succ_of_le h.le⟩
 ·rcases yQ h4 with⟨U,ab⟩|⟨op,U,rfl,al⟩
  ·exact h.mem i a g ab aU (by rw[←touchAt_old (u:=#[x,y]) U];exact au)
  ·rw[touchAt_of al,aI op U]at au;cases au
 ·rcases yQ h4 with⟨U,ab⟩|⟨op,U,rfl,al⟩
  ·exact(h.old i a g ab hle (by rw[←touchAt_old (u:=#[x,y]) U];exact au) ak).app _
  ·rw[touchAt_of al,aI op U]at au;cases au
 ·rcases yQ h4 with⟨U,ab⟩|⟨op,U,rfl,al⟩
  ·obtain⟨q,aH,hb⟩:=h.over i g ab bU hle ((counts_old U).1 BV);have xv:q<t.size:=by
    unfold Trace.g? at aH;obtain⟨z,bO,_⟩:=Option.map_eq_some_iff.1 aH;exact lt_size_of_getElem? bO
   exact⟨q,by simpa[Trace.g?,getElem?_append_old xv]using aH,hb_app _ hb⟩
  ·obtain⟨z,bO,_⟩:=BV;have FM:touchAt (t++#[x,y]) i=some z:=bO;rw[touchAt_of al,aI op U]at FM;cases FM
theorem hl.finish{a:Addr}{q:Nat}(h:hl (hP S) Own Rd B t j0 j)(aH:t.act? q=some (.mark (.acquire a)))(aN:t.g? q=some 0)(bq:t.heard q)(aI:NoRelease a t)(aV:Deaf t 0=0)
  (all:∀k,j0<k->k<=j->∃r,RelBy a t k r/\r<q):kM S B t:=by
 obtain⟨z,bO,iZ⟩:=Option.map_eq_some_iff.1 aN;have after:∀i g,t.g? i=some g->j0<g->t.counts i->HappensBefore t i q:=by
  intro i g h4 aU ah;have ahp:g<=j:=by
   obtain⟨op,ar,rfl⟩:=Option.map_eq_some_iff.1 h4;exact h.ct.gs i op ar
  obtain⟨r,ad,ahq⟩:=all g aU ahp;have Td:HappensBefore t r q:=.single (.inr ⟨.marked ahq (.inr ad.act) aH (λk _ _=>aI k),ad.heard,bq⟩);have hle:i<=r:=Nat.le_of_not_lt λaU=>ad.after i aU h4 ah;rcases Nat.lt_or_ge i r with U|U
  ·exact .trans (.single (.inl ⟨U,g,h4,ad.g⟩)) Td
  ·obtain rfl:i=r:=by omega
   exact Td
 have pm:∀l,¬hP S l->Perm t 0 l:=by
  intro l ak i x aj e;obtain⟨op,ar,lq⟩:=touch_of aj;have h4:t.g? i=some op.g:=by simp[Trace.g?,ar]
  by_cases aT:op.g=0
  ·have:=knows_own ar;rwa[aT]at this
  ·rcases Nat.lt_or_ge j0 op.g with aU|h3
   ·have ah:t.counts i:=⟨x,aj,h.mem i x op.g h4 aU aj,.inl (h.pl i x aj (by rw[e];exact ak))⟩;exact⟨q,z,bO,iZ,.inr (after i op.g h4 aU ah)⟩
   ·exact h.old i x op.g h4 h3 aj (by rw[e];exact ak)
 refine⟨⟨h.ct.nr,λi x aj hm=>?_,λi g h4 bU ah=>?_,aV,h.seen⟩,h.ct.quiet,pm,h.pl⟩
 ·by_cases ao:hP S x.loc
  ·obtain⟨op,ar,lq⟩:=touch_of aj;obtain⟨k1,k2⟩:=h.ct.quiet i op x ar lq ao;cases aq:x.kind with
   |plain=>exact absurd aq k1
   |atomic=>exact .inr ⟨ao,rfl⟩
   |said=>
    have:=knows_own ar;rw[k2 aq]at this;exact .inl this
  ·exact .inl (pm _ ao i x aj rfl)
 ·rcases Nat.lt_or_ge j0 g with aU|h3
  ·exact⟨q,aN,after i g h4 aU ah⟩
  ·exact h.over i g h4 bU h3 ah
end
end
section
open Go Go.Conc
@[reducible]def jx:cQ:=⟨λ_ _ _ _=>False,λ_ _=>False⟩
abbrev m7(P:Program)(T:Frame->List Frame->World->Prop)(fr:Frame)(cs:List Frame)(w:World):Prop:=@Way jx P T fr cs w
def iO(P:Program)(T:Frame->List Frame->World->Prop)(s' s:Frame×List Frame×World):Prop:=
 (¬∀τ d,T s.1 s.2.1 (a8 s.2.2 τ d))/\∃τ d es,stepG P true (G s.1 s.2.1) (a8 s.2.2 τ d)=.go (G s'.1 s'.2.1) s'.2.2 es
section
variable{P:Program}{T:Frame->List Frame->World->Prop}
theorem abH{fr:Frame}{cs:List Frame}{w:World}(h:m7 P T fr cs w):Acc (iO P T) (fr,cs,w):=by
 induction h with
 |done h=>exact⟨_,λs' ao=>absurd h ao.1⟩
 |step a b c e he h hm _ az=>
  refine⟨_,λs' ao=>?_⟩;obtain⟨_,τ,d,es,ab⟩:=ao;dsimp only at ab;rw[h τ d]at ab;injection ab with aK aO bS;injection aK with b8 en;obtain⟨bj,c',w'⟩:=s';dsimp only at aO b8 en;rw[←aO,←b8,←en];exact az τ d
 |spec _ h _ _=>exact(h default 0).elim
 |lu h _ _ _ _ _ _=>exact h.elim
theorem DX{fr:Frame}{cs:List Frame}{w:World}(h:m7 P T fr cs w):
  (∀τ d,T fr cs (a8 w τ d)) \/
  (∃(hz:Tape->Nat->Frame)(cs':Tape->Nat->List Frame)(w':Tape->Nat->World)(es:Tape->Nat->Array Event),qT P fr/\(∀τ d,stepG P true (G fr cs) (a8 w τ d)=.go (G (hz τ d) (cs' τ d)) (w' τ d) (es τ d))/\(∀τ d,calm (hz τ d))/\∀τ d,m7 P T (hz τ d) (cs' τ d) (w' τ d)):=by
 rcases @IB jx _ _ _ _ _ h with h|h|⟨_,_,_,⟨_,_,_,h⟩|⟨_,_,h⟩⟩
 ·exact .inl h
 ·exact .inr h
 ·exact(h default 0).elim
 ·exact h.elim
theorem kF{fr f1:Frame}{cs cs1:List Frame}{w:World}{w1:Tape->Nat->World}(h:m7 P T fr cs w)(aI:¬∀τ d,T fr cs (a8 w τ d))(ao:∀τ d,∃es,stepG P true (G fr cs) (a8 w τ d)=.go (G f1 cs1) (w1 τ d) es):∀τ d,m7 P T f1 cs1 (w1 τ d):=by
 rcases DX h with h|⟨a,b,c,e,_,U,_,ab⟩
 ·exact absurd h aI
 ·intro τ d;obtain⟨es,ao⟩:=ao τ d;have:=ab τ d;rw[U]at ao;injection ao with aK aO bS;injection aK with b8 en;rw[←aO,←b8,←en];exact this
end
section
variable{p:Program}{r r2:Tmp}{v0:Value}{ops:Array Oper}
theorem Np{fn:Func}:∀(l:List Nat)(fr:Frame)(w:World),m7 p (mM λv _=>v=v0) fr [dv] w->fr.todo=[.inRegion ops l]->fr.mode=.run->fr.kind=.normal->fr.defers=[]->fr.roundOf=none->p.funcs[fr.fn]?=some fn->fn.results=#[.tmp r,.tmp r2] ->
  (∀i∈l,∃o,ops[i]?=some o/\(∃c,o.op=.assign (.const c))/\o.guard=none/\o.dst≠some r/\o.dst≠some r2)->v0=.tuple #[fr.tmps.getD r undef,fr.tmps.getD r2 undef]
 |[],fr,w,h,U,ab,al,aJ,bm,bI,cS,_=>by
  have iP:∀(f:Frame)(w:World),¬∀τ d,mM (λv _=>v=v0) f [dv] (a8 w τ d):=λf w x=>by cases(x default 0).1
  obtain⟨FN,tmps,todo,defers,mode,kind,round⟩:=fr;dsimp only at U ab al aJ bm bI⊢;subst U ab al aJ bm;have k1:=kF (f1:=⟨FN,tmps,[],[],.run,.normal,none⟩) (cs1:=[dv]) (w1:=λτ d=>a8 w τ d) h (iP _ _) λτ d=>⟨#[],by simp[G,stepG,stepG.exec]⟩;have k2:=kF (f1:=⟨FN,tmps,[],[],.returning,.normal,none⟩) (cs1:=[dv]) (w1:=λτ d=>a8 w τ d) (k1 default 0) (iP _ _) λτ d=>⟨#[],by simp[G,stepG,stepG.exec]⟩;have ad:∀w:World,(results fn tmps).run p w=.ok (.tuple #[tmps.getD r undef,tmps.getD r2 undef]) w:=λw=>results_tmp2 cS tmps p w;have bP:=kF (f1:=dv.finish (.tuple #[tmps.getD r undef,tmps.getD r2 undef])) (cs1:=[]) (w1:=λτ d=>a8 w τ d) (k2 default 0) (iP _ _) λτ d=>⟨seen p FN ((results fn tmps).runT p (a8 w τ d) #[]).2++#[],by
   simp only[G,stepG,unwind,bI,aeo];generalize aN:(results fn tmps).runT p (a8 w τ d) #[]=q;obtain⟨cy,dM⟩:=q;have aH:=congrArg Prod.fst aN;rw[Sem.runT_fst,ad]at aH;dsimp only at aH;subst aH;rfl⟩
  obtain⟨_,_,ai⟩:=@IC jx _ _ _ _ (bP default 0);exact ai.symm
 |i::l,fr,w,h,U,ab,al,aJ,bm,bI,cS,et=>by
  have iP:∀(f:Frame)(w:World),¬∀τ d,mM (λv _=>v=v0) f [dv] (a8 w τ d):=λf w x=>by cases(x default 0).1
  obtain⟨o,ar,⟨c,ah⟩,ahr,xw,afG⟩:=et i (by simp);have hex:execOp fr.eval o=pure (.value c):=by
   obtain⟨d,op,t,a7,Gw,amC⟩:=o;dsimp only at ah;subst ah;rfl
  have k1:=kF (f1:=fr.finish c) (cs1:=[dv]) (w1:=λτ d=>a8 w τ d) h (iP _ _) λτ d=>by
   have hw:Region.wanted o (yielded ops fr.tmps)=true:=by simp[Region.wanted,ahr]
   have:=DY (p:=p) (main:=true) (w:=a8 w τ d) (fr0:=fr) (fr:=fr) (cs:=[dv]) (s:=execOp fr.eval o) (w1:=a8 w τ d) (esA:=#[]) (es1:=#[]) (λ_=>rfl) (by rw[U];rfl) (by simp) (by
    rw[Jb];obtain⟨FN,tmps,todo,defers,mode,kind,round⟩:=fr;dsimp only at U ab al aJ bm bI;subst U ab al aJ bm;simp only[G,stepG,stepG.exec,ar,Option.map_some,Option.getD_some,hw,if_true,stepG.oper,Frame.oper?])
   rw[hex]at this;obtain⟨es2,h,_⟩:=this;exact⟨es2,h⟩
  have aK:∀x,o.dst≠some x->(fr.finish c).tmps.getD x undef=fr.tmps.getD x undef:=λx aj=>by
   unfold Frame.finish;rw[U];dsimp only;rw[ar];simp only[Option.bind_some];cases aV:o.dst with
   |none=>rfl
   |some d=>
    have bU:d≠x:=λe=>aj (by rw[aV,e]);simp only[Array.getD_eq_getD_getElem?,Array.getElem?_setIfInBounds,if_neg bU]
  rw[←aK r xw,←aK r2 afG];have z1:(fr.finish c).todo=[.inRegion ops l]/\(fr.finish c).mode=.run/\(fr.finish c).kind=.normal/\(fr.finish c).defers=[]/\(fr.finish c).roundOf=none/\(fr.finish c).fn=fr.fn:=by
   unfold Frame.finish;rw[U];exact⟨rfl,ab,al,aJ,bm,rfl⟩
  exact Np l _ _ (k1 default 0) z1.1 z1.2.1 z1.2.2.1 z1.2.2.2.1 z1.2.2.2.2.1 (by rw[z1.2.2.2.2.2];exact bI) cS λj aC=>et j (by simp[aC])
end
end
section
open Go Go.Conc
def Te(f:Frame)(cs:List Frame)(x:Frame×List Frame):Prop:=
 x.2=cs\/x.2=f::cs\/∃c cs' v,cs=c::cs'/\x=(c.finish v,cs')
section
variable{p:Program}{f:Frame}{cs:List Frame}{W bF:World}{x:Frame×List Frame}
theorem sv{α:Type}{a b:α}(h:(pure a:Sem α).run p W=.ok b bF):b=a:=by
 have:(Result.ok a W:Result α)=.ok b bF:=h;injection this with e _;exact e.symm
theorem vW{α β:Type}{s:Sem α}{k:α->Sem β}{b:β}(h:(s >>= k).run p W=.ok b bF):∃a iA,s.run p W=.ok a iA/\(k a).run p iA=.ok b bF:=by
 rw[Sem.run_bind]at h;cases U:s.run p W with
 |ok a iA=>rw[U]at h;exact⟨a,iA,rfl,h⟩
 |halt y iA=>rw[U]at h;cases h
theorem Qg{v:Value}(h:(u5 v cs).run p W=.ok x bF):Te f cs x:=by
 cases cs with
 |nil=>cases h
 |cons c cs=>exact .inr (.inr ⟨c,cs,v,rfl,sv h⟩)
theorem O7{f0:Frame}{n:Next}(aQ:f0=f\/True)(h:(uS p f0 cs n).run p W=.ok x bF):x.2=cs/\(∃v,x.1=f0.finish v)\/x.2=f0::cs:=by
 cases n with
 |value v=>rw[sv h];exact .inl ⟨rfl,v,rfl⟩
 |skip=>rw[sv h];exact .inl ⟨rfl,undef,rfl⟩
 |enter g a=>rw[sv h];exact .inr rfl
 |round l g t a b=>rw[sv h];exact .inr rfl
 |_=>cases h
def uT(e7:Frame->Prop)(ops:Array Oper)(ms:List Nat)(f:Frame):Prop:=f.mode=.run/\f.roundOf=none/\e7 f/\∃l,f.todo=[.inRegion ops (l++ms)]/\∀i∈l,i∉ms
theorem Xv{e7:Frame->Prop}{ops:Array Oper}{ms:List Nat}(h:uT e7 ops ms f){i:Nat}{l:List Nat}(ak:f.todo=[.inRegion ops (i::l++ms)])(ad:(lD p f cs).run p W=.ok x bF):(x.2=cs/\∃v,x.1=f.finish v)\/x.2=f::cs:=by
 obtain⟨fn,tmps,todo,defers,mode,kind,round⟩:=f;obtain⟨U,ab,al,_⟩:=h;dsimp only at U ab ak;subst U ab ak;unfold lD xc at ad;dsimp only[List.cons_append]at ad;cases ar:ops[i]? with
 |none=>
  rw[ar]at ad;rw[sv ad];exact .inl ⟨rfl,undef,rfl⟩
 |some o=>
  rw[ar]at ad;dsimp only at ad;split at ad
  ·obtain⟨n,iA,_,ab⟩:=vW ad;rcases O7 (f:=⟨fn,tmps,[.inRegion ops (i::l++ms)],defers,.run,kind,none⟩) (.inl rfl) ab with h|h
   ·exact .inl h
   ·exact .inr h
  ·rw[sv ad];exact .inl ⟨rfl,undef,rfl⟩
theorem MA{e7:Frame->Prop}{ops:Array Oper}{ms:List Nat}(eP:∀f v l,e7 f->f.todo=[.inRegion ops l]->e7 (f.finish v))(h:uT e7 ops ms f){i:Nat}{l:List Nat}(ak:f.todo=[.inRegion ops (i::l++ms)])(aI:∀i∈l,i∉ms)(v:Value):uT e7 ops ms (f.finish v):=by
 obtain⟨U,ab,al,_⟩:=h;have aJ:=eP f v _ al ak;revert aJ;unfold Frame.finish;rw[ak];exact λaJ=>⟨U,ab,aJ,l,rfl,aI⟩
theorem YI{j:Option Code}(h:(lL f cs j).run p W=.ok x bF):Te f cs x:=by
 unfold lL at h;split at h
 ·split at h
  ·rw[sv h];exact .inl rfl
  ·cases h
 ·obtain⟨v,iA,_,ab⟩:=vW h;exact Qg ab
theorem adn(h:(lD p f cs).run p W=.ok x bF):x.2=cs\/(∃f0,x.2=f0::cs)\/∃c cs' v,cs=c::cs'/\x=(c.finish v,cs'):=by
 have ey:∀{j:Option Code},(lL f cs j).run p W=.ok x bF->x.2=cs\/(∃f0,x.2=f0::cs)\/∃c cs' v,cs=c::cs'/\x=(c.finish v,cs'):=λh=>(YI h).imp id λh=>h.imp (λh=>⟨_,h⟩) id;have LL:∀{f0:Frame}{n:Next}{iA:World},(uS p f0 cs n).run p iA=.ok x bF->x.2=cs\/(∃f0,x.2=f0::cs)\/∃c cs' v,cs=c::cs'/\x=(c.finish v,cs'):=λh=>(O7 (f:=f) (.inr trivial) h).imp (·.1) λh=>.inl ⟨_,h⟩;have pu:∀{f0:Frame}{iA:World},(pure (f0,cs):Sem (Frame×List Frame)).run p iA=.ok x bF->x.2=cs\/(∃f0,x.2=f0::cs)\/∃c cs' v,cs=c::cs'/\x=(c.finish v,cs'):=λh=>by rw[sv h];exact .inl rfl
 have rt:∀{v:Value}{iA:World},(u5 v cs).run p iA=.ok x bF->x.2=cs\/(∃f0,x.2=f0::cs)\/∃c cs' v,cs=c::cs'/\x=(c.finish v,cs'):=λh=>(Qg (f:=f) h).imp id λh=>h.imp (λh=>⟨_,h⟩) id;unfold lD at h;split at h
 ·unfold xc at h;dsimp only at h;split at h
  ·exact ey h
  ·exact ey h
  ·exact pu h
  ·exact pu h
  ·exact pu h
  ·exact pu h
  ·exact pu h
  ·exact pu h
  ·split at h
   ·exact pu h
   ·cases h
  all_goals first
   |exact pu h
   |(split at h<;>first|exact pu h|exact ey h|(cases h;done))
   |(obtain⟨_,_,_,ab⟩:=vW h;first|exact pu ab|exact LL ab|(obtain⟨_,_,_,al⟩:=vW ab;first|exact LL al|exact pu al))
   |(cases h;done)
   |skip
  split at h
  ·split at h
   ·obtain⟨_,_,_,ab⟩:=vW h;exact LL ab
   ·exact pu h
  ·exact pu h
 ·split at h
  ·obtain⟨_,_,_,ab⟩:=vW h;exact pu ab
  ·cases h
  ·split at h
   ·obtain⟨_,_,_,ab⟩:=vW h;exact rt ab
   ·exact rt h
 ·cases h
end
end
section
open Go Go.Conc
section
variable{e7:Frame->Prop}{cO:Frame}{ops:Array Oper}{ms:List Nat}
def uU(e7:Frame->Prop)(ops:Array Oper)(ms:List Nat)(b:Frame):Prop:=uT e7 ops ms b/\∃i l,b.todo=[.inRegion ops (i::l++ms)]/\∀j∈i::l,j∉ms
def U5(e7:Frame->Prop)(cO:Frame)(ops:Array Oper)(ms:List Nat):List Frame->Prop
 |[b,c]=>c=cO/\uU e7 ops ms b
 |_::c::d::fs=>U5 e7 cO ops ms (c::d::fs)
 |_=>False
def Gx(e7:Frame->Prop)(cO:Frame)(ops:Array Oper)(ms:List Nat):List Frame->Prop
 |[b,c]=>c=cO/\uT e7 ops ms b
 |_::c::d::fs=>U5 e7 cO ops ms (c::d::fs)
 |_=>False
theorem Qh{p:Program}{f:Frame}{cs:List Frame}{W bF:World}{x:Frame×List Frame}(eP:∀f v l,e7 f->f.todo=[.inRegion ops l]->e7 (f.finish v))(h:Gx e7 cO ops ms (f::cs))(hw:cs=[cO]->uU e7 ops ms f)(ad:(lD p f cs).run p W=.ok x bF):Gx e7 cO ops ms (x.1::x.2):=by
 obtain⟨mN,qD⟩:=x
 match cs,h,hw,ad with
 |[c],h,hw,ad=>
  obtain⟨rfl,hb⟩:=h;obtain⟨_,i,l,ak,aI⟩:=hw rfl;rcases Xv hb ak ad with⟨U,v,ab⟩|U
  ·dsimp only at U ab⊢;subst U ab;exact⟨rfl,MA eP hb ak (λj aC=>aI j (by simp[aC])) v⟩
  ·dsimp only at U⊢;subst U;exact⟨rfl,hb,i,l,ak,aI⟩
 |c::d::ds,h,hw,ad=>
  rcases adn ad with U|⟨f0,U⟩|⟨c',cs',v,U,ab⟩
  ·dsimp only at U⊢;subst U;exact h
  ·dsimp only at U⊢;subst U;exact h
  ·injection U with aK aO;subst aK aO;injection ab with bS b8;subst bS b8
   match ds,h with
   |[],h=>
    obtain⟨rfl,hb,i,l,ak,aI⟩:=h;exact⟨rfl,MA eP hb ak (λj aC=>aI j (by simp[aC])) v⟩
   |e::es,h=>exact h
end
section
variable{p p':Program}{F:FuncId->Bool}{ro:Nat->Prop}{ops:Array Oper}{ms:List Nat}{Y:List Deferred×FuncId×Bool}{cb:Frame}{v0:Value}{ops':Array Oper}{A:Array Value}
def vr:Frame->Prop:=λf=>f.kind=.normal/\f.defers=[]
theorem ahs(f:Frame)(v:Value)(l:List Nat)(h:vr f)(ak:f.todo=[.inRegion ops l]):vr (f.finish v):=by
 obtain⟨U,ab⟩:=h;unfold Frame.finish;rw[ak];split<;>exact⟨U,ab⟩
def xx(D:List Deferred)(A:Array Value):Frame->Prop:=λf=>f.kind=.deferred/\f.defers=D/\A.size+14<=f.tmps.size/\∀r,r<A.size->f.tmps[r]?=A[r]?
theorem aht{D:List Deferred}{A:Array Value}(aV:∀(i:Nat) o d,ops[i]?=some o->o.dst=some d->A.size<=d)(f:Frame)(v:Value)(l:List Nat)(h:xx D A f)(ak:f.todo=[.inRegion ops l]):xx D A (f.finish v):=by
 obtain⟨U,ab,aJ,al⟩:=h;unfold Frame.finish;rw[ak];cases l with
 |nil=>exact⟨U,ab,aJ,al⟩
 |cons i l=>
  refine⟨U,ab,by dsimp only;split<;>(try rw[Array.size_setIfInBounds])<;>exact aJ,λr ad=>?_⟩;dsimp only;cases ar:ops[i]? with
  |none=>exact al r ad
  |some o=>
   simp only[Option.bind_some];cases zz:o.dst with
   |none=>exact al r ad
   |some d=>
    have:=aV i o d ar zz;rw[Array.getElem?_setIfInBounds_ne (by omega)];exact al r ad
structure rO(p p':Program)(F:FuncId->Bool)(ro:Nat->Prop)(ops:Array Oper)(ms:List Nat)(Y:List Deferred×FuncId×Bool)(cb:Frame)(ops':Array Oper)(A:Array Value)(v0:Value)(ρ:bA)(s:Frame×List Frame×World)(g:Frame×List Frame)(W:World):Prop where
 T3:m7 p (mM λv _=>v=v0) s.1 s.2.1 s.2.2
 st:h5 p F p' (bH p F) ρ Y dv [cb] (s.1::s.2.1) (g.1::g.2)
 bi:Gx vr dv ops ms (s.1::s.2.1)
 ahu:Gx (xx Y.1 A) cb ops' ms (g.1::g.2)
 wr:dN (bH p F) ρ ro s.2.2 W
 og:∀b,W.heap.size<=b->¬ro b
theorem YJ(ae:PP (bH p F) p p')(dH:pk p p' F)(gZ:∀(i:Nat) o,ops[i]?=some o->i∉ms->q1 o=false){ρ:bA}{s:Frame×List Frame×World}{g:Frame×List Frame}{W:World}(h:rO p p' F ro ops ms Y cb ops' A v0 ρ s g W)
  (aV:∀(i:Nat) o d,ops'[i]?=some o->o.dst=some d->A.size<=d) (hw:s.2.1=[dv]->uU vr ops ms s.1) (Tf:g.2=[cb]->uU (xx Y.1 A) ops' ms g.1):
  ∃(s':Frame×List Frame×World)(σ:bA)(g':Frame×List Frame)(bF:World)(es:Array Event),stepG p' false (G g.1 g.2) W=.go (G g'.1 g'.2) bF es/\iO p (mM λv _=>v=v0) s' s/\rO p p' F ro ops ms Y cb ops' A v0 σ s' g' bF/\Fr ρ σ ro W bF/\(∀e∈es,ja σ ro e)/\(lD p' g.1 g.2).run p' W=.ok g' bF:=by
 obtain⟨f,cs,V⟩:=s;obtain⟨bj,cs'⟩:=g;obtain⟨s8,bh,BW,BX,ql,Bw⟩:=h;dsimp only at s8 bh BW BX ql hw Tf⊢;have bU:cs≠[]:=by
  obtain⟨_,_,_,_,aK,_,aO⟩:=bh.shape;cases aK;exact aO
 have U6:¬∀τ d,mM (λv _=>v=v0) f cs (a8 V τ d):=λx=>bU (x default 0).1;rcases DX s8 with h|⟨fr,nm,w2,es,he,hgo,ah,aq⟩
 ·exact absurd h U6
 ·have il:f.mode=.returning->f.defers=[]->cs≠[dv]:=λU _ e=>by
   obtain⟨hb,_⟩:=hw e;rw[hb.1]at U;cases U
  have mD:wF f:=by
   cases bh with
   |bot h=>
    obtain⟨_,i,l,ak,aI⟩:=hw rfl;intro xd i2 rest k o e ar;rw[ak]at e;injection e with aK aO;injection aK with bS b8;subst bS;injection b8 with en l9;subst en;exact gZ i o ar (aI i (by simp))
   |cons h _=>exact noMark h (by simp[rr])
  obtain⟨τ,d,σ,f1,cs1,bF,es1,U,ab,al,aJ,bm,bI,cS⟩:=Ia (main:=false) ae dH ql Bw bh il mD hgo ah;have Sm:=aq τ d;have afH:=Qh ahs BW hw bI;have afI:=Qh (aht aV) BX Tf cS;refine⟨(fr τ d,nm τ d,w2 τ d),σ,(f1,cs1),bF,es1,U,⟨U6,τ,d,_,hgo τ d⟩,⟨Sm,?_,afH,afI,al,λb hb=>Bw b (Nat.le_trans aJ.size hb)⟩,aJ,bm,cS⟩;rcases ab with ab|⟨g,a,a',us,us',aK,aO,ao,aN,au,afJ⟩
  ·exact ab
  ·exfalso;injection aK with bS b8;dsimp only at bS b8;rcases DX Sm with h|⟨_,_,_,_,he,_⟩
   ·have:=(h default 0).1;rw[b8]at this;obtain⟨_,_,_,_,en,_⟩:=afJ.shape;rw[en]at this;cases this
   ·exact he g a bS ao
end
end
section
open Go Go.Conc
open Go.ConcN (sumTo upd sumTo_upd upd_ne upd_same)
section
variable{p p':Program}{F:FuncId->Bool}{ρ:bA}{cO:Frame}{f bj u':Frame}{us':List Frame}{fn0:FuncId}
theorem YK(ae:PP (bH p F) p p'){ro:Nat->Prop}{V W':World}(hw:dN (bH p F) ρ ro V W')(dY:∀b,W'.heap.size<=b->¬ro b)(h:hh p F p' (bH p F) ρ (some ([],fn0,false)) f bj)(hm:f.mode=.returning)(aV:f.defers=[])
  (gO:(p'.funcs[f.fn]?).map (·.results)=(p.funcs[f.fn]?).map (·.results))
  {fr:Tape->Nat->Frame} {nm:Tape->Nat->List Frame} {w2:Tape->Nat->World} {es:Tape->Nat->Array Event}
  (ai:∀τ d,stepG p true (G f [cO]) (a8 V τ d)=.go (G (fr τ d) (nm τ d)) (w2 τ d) (es τ d)):
  ∃τ d σ v bg bF es1,stepG p' true (G bj (u'::us')) W'=.go (G (u'.finish bg) us') bF es1/\fr τ d=cO.finish v/\nm τ d=[]/\aZ (bH p F) σ v bg/\dN (bH p F) σ ro (w2 τ d) bF/\Fr ρ σ ro W' bF/\∀e∈es1,ja σ ro e:=by
 have eX:bj.mode=.returning:=by
  have:=h.mode;rw[hm]at this;generalize bj.mode=m at this;cases this;rfl
 have jv:bj.defers=[]:=by
  obtain⟨ds,U,ab⟩:=h.defers;rw[aV]at U;cases U;exact ab
 have dX:=h.fn;have vn:=h.cU _ rfl rfl;obtain⟨fn,tmps,todo,defers,mode,kind,round⟩:=f;obtain⟨cC,rb,yY,yE,yZ,mZ,yR⟩:=bj;have xy:=h.tmps;have BY:=h.kind;dsimp only at hm aV eX jv dX xy BY gO vn;subst hm aV eX jv dX BY vn;cases U:p.funcs[cC]? with
 |none=>
  rw[U]at gO;have ab:p'.funcs[cC]?=none:=by simpa using gO
  have fp:=ai W'.tape 0;have ay:stepG p true (G ⟨cC,tmps,todo,[],.returning,.normal,round⟩ [cO]) (a8 V W'.tape 0)=.go (G (cO.finish (tmps.getD 0 undef)) []) (a8 V W'.tape 0) #[]:=by simp only[G,stepG,unwind,U];rfl
  rw[ay]at fp;injection fp with aK aO bS;injection aK with b8 en;refine⟨W'.tape,0,ρ,tmps.getD 0 undef,rb.getD 0 undef,W',#[],?_,b8.symm,en.symm,yq xy 0,?_,Fr.refl _ _ _,by simp⟩
  ·simp only[G,stepG,unwind,ab,doReturn]
  ·rw[←aO];exact hw.a8 _ _
 |some g=>
  rw[U]at gO;obtain⟨g',ab,al⟩:=Option.map_eq_some_iff.1 gO;obtain⟨τ,aB⟩:=(HC ae hw.ok g g' al xy).run V W' #[] 0 hw dY;have aB:=aB τ λ_ _ _=>rfl;have fp:=ai τ 0;have ay:stepG p true (G ⟨cC,tmps,todo,[],.returning,.normal,round⟩ [cO]) (a8 V τ 0)=GStep.after (seen p cC ((results g tmps).runT p (a8 V τ 0) #[]).2) (match((results g tmps).runT p (a8 V τ 0) #[]).1 with
    |.ok v w=>.go (G (cO.finish v) []) w #[]
    |.halt (.stuck s) w=>.ended (.stuck s (Frame.pos p ⟨cC,tmps,todo,[],.returning,.normal,round⟩)) w
    |.halt _ w=>.ended (.stuck "return: the result variables cannot be read" (Frame.pos p ⟨cC,tmps,todo,[],.returning,.normal,round⟩)) w):=by
   simp only[G,stepG,unwind,U];generalize(results g tmps).runT p (a8 V τ 0) #[]=r;obtain⟨r,e⟩:=r;cases r with
   |ok v w=>rfl
   |halt x w=>cases x<;>rfl
  rw[ay]at fp;rw[Sem.runT_fst]at fp;cases ad:(results g tmps).run p (a8 V τ 0)with
  |ok v w1=>
   rw[ad]at aB fp;obtain⟨σ,bg,bF,es1,k1,k2,bP,cX,fi⟩:=aB;simp only[GStep.after]at fp;injection fp with aK aO bS;injection aK with b8 en;refine⟨τ,0,σ,v,bg,bF,seen p' cC (#[]++es1)++#[],?_,b8.symm,en.symm,k2,?_,cX,λe he=>?_⟩
   ·simp only[G,stepG,unwind,ab];rw[k1];rfl
   ·rw[←aO];exact bP
   ·simp only[Array.append_empty]at he;have:=uv (p:=p') cC (#[]++es1) e he;exact fi e (by simpa using this)
  |halt x w1=>
   rw[ad]at fp;cases x<;>simp[GStep.after]at fp
end
section
variable{p p':Program}{F:FuncId->Bool}{fn0:FuncId}{ro:Nat->Prop}{W0:World}{Q:Machine->Outcome->World->Trace->Prop}{u':Frame}{us':List Frame}
theorem YL{R:Value->World->Prop}(ae:PP (bH p F) p p')(dH:pk p p' F)(gO:(p'.funcs[fn0]?).map (·.results)=(p.funcs[fn0]?).map (·.results))
  {f:Frame} {cs:List Frame} {V:World} (h:m7 p (mM R) f cs V):∀(bj:Frame)(cs':List Frame)(S:Nat->Prop)(ρ:bA)(W:World)(gs:Array Goroutine)(sl:Option (Nat×Nat))(t:Trace)(q:Nat->Nat),
   CK p p' F ([],fn0,false) dv (u'::us') ρ (f,cs) (bj,cs')->oP p p' F ro W0 S ρ V W (G bj cs') gs t q ->
   (∀(σ:bA)(v bg:Value)(k3 bF:World)(hQ:Array Goroutine)(lr:Option (Nat×Nat))(t1:Trace)(cy:Nat->Nat),(∃τ d,R v (a8 k3 τ d))->cN ρ σ->aZ (bH p F) σ v bg->oP p p' F ro W0 S σ k3 bF (G (u'.finish bg) us') hQ t1 cy->Ends p' Q (crowd hQ bF lr) t1) ->
   Ends p' Q (crowd gs W sl) t:=by
 induction h with
 |@done fr cs w h=>
  intro bj cs' S ρ W gs sl t q h6 hm _;exfalso;obtain⟨U,_⟩:=h w.tape 0;subst U;rcases h6 with h|⟨g,a,a',us,us',aK,aO,ao,aN,au,bh⟩
  ·obtain⟨_,_,_,_,aK,_,aO⟩:=h.shape;cases aK;exact aO rfl
  ·injection aK with bS b8;subst b8;cases bh
 |@step fr cs V hz nm w2 es he bh ah k az=>
  intro bj cs' S ρ W gs sl t q h6;have s9:=@Ri _ _ _ jx _ _ _ _ _ _ _ h6 he;clear h6;generalize e3:sumTo gs.size q=M;induction M using Nat.strongRecOn generalizing S W gs sl t q with
  |_ M KT=>
   intro hm re;rcases Ka (sl:=sl) hm.g0 rfl hm.ey hm.pa with⟨d,fT,oD⟩|⟨ed,d,fT,ops,dF,oD,bX,rP,ak,BZ,tz,aU⟩
   ·have hm:=hm.at (p:=p) d;have aU:0<gs.size:=(Array.getElem?_eq_some_iff.1 hm.g0).1;have T4:∀(σ:bA)(k3 bF:World)(g1:Goroutine)(a:Goroutine)(es1:Array Event),Fr ρ σ ro (W.at d) bF->dN (bH p F) σ ro k3 bF->(∀e∈es1,ja σ ro e)->oP p p' F ro W0 S σ k3 bF g1 ((gs.map (woken p' (G bj cs') g1 bF)).setIfInBounds 0 g1) (t++MemOp.ofEvents 0 bj.fn bj.place es1) q:=λσ k3 bF g1 a es1 aJ al bm=>by
     have nk:∀b,S b->∀a,¬σ a b:=λb hb a bL=>by
      rcases aJ.new a b bL with h|h
      ·exact hm.ma b hb a h
      ·exact absurd (hm.shl b hb) (by omega)
     have gX:∀a b,σ a b->b<bF.heap.size:=λa b bL=>by
      obtain⟨_,_,_,k,_⟩:=al.obj _ _ bL;exact(Array.getElem?_eq_some_iff.1 k).1
     refine⟨by simp[aU],Leavers.step0 hm.ey hm.g0,(hm.pa.mono aJ.size).own bm nk gX,λop aE=>?_,nk,λb hb=>Nat.lt_of_lt_of_le (hm.shl b hb) aJ.size,al,λb hb=>hm.og b (Nat.le_trans aJ.size hb),λa b bL hb=>?_,⟨Nat.le_trans hm.db.size aJ.size,aJ.os.trans hm.db.os,aJ.out.trans hm.db.out,λb hb=>?_⟩⟩
     ·simp only[Array.size_setIfInBounds,Array.size_map];rcases Array.mem_append.1 aE with h|h
      ·exact hm.k4 op h
      ·obtain⟨e,_,rfl⟩:=Go.Conc.mem_ofEvents h;exact aU
     ·rcases aJ.new a b bL with h|h
      ·exact hm.old a b h hb
      ·exact absurd (Nat.lt_of_lt_of_le hb hm.db.size) (by omega)
     ·refine(aJ.keep b (Nat.lt_of_lt_of_le hb hm.db.size) ?_).trans (hm.db.blk b hb);by_cases hex:∃a,ρ a b
      ·obtain⟨a,au⟩:=hex;exact .inr (hm.old a b au hb)
      ·exact .inl λa au=>hex ⟨a,au⟩
    by_cases il:fr.mode=.returning->fr.defers=[]->cs≠[dv]
    ·have mD:wF fr:=by
      cases s9 with
      |bot h=>exact noMark h (by simp[rr])
      |cons h _=>exact noMark h (by simp[rr])
     obtain⟨τ,d2,σ,f1,cs1,bF,es1,U,ab,al,aJ,bm,_,_⟩:=Ia (main:=true) ae dH hm.wr hm.og s9 il mD bh ah;have sS:=runT_crowd_go (P:=p') (sl:=fT) (i:=0) hm.g0 (show stepG p' (0==0) (G bj cs') (W.at d)=_ from U);exact Ends.next (oD.trans sS) (az τ d2 f1 cs1 S σ bF _ fT _ q ab (T4 σ _ bF _ (G bj cs') es1 aJ al bm) λGs v bg k3 bF hQ lr t1 cy cn hle=>re Gs v bg k3 bF hQ lr t1 cy cn (aJ.le.trans hle))
    ·have hcs:cs=[dv]:=Classical.byContradiction λh=>il λ_ _=>h;have jZ:fr.mode=.returning:=Classical.byContradiction λh=>il λU _=>absurd U h;have iY:fr.defers=[]:=Classical.byContradiction λh=>il λ_ U=>absurd U h;subst hcs;cases s9 with
     |cons _ h=>cases h with
      |cons _ ab=>cases ab
     |bot h=>
      have dX:=h.nn _ rfl;dsimp only at dX;obtain⟨τ,d2,σ,v,bg,bF,es1,U,ab,al,aJ,bm,bI,cS⟩:=YK (fn0:=fn0) (u':=u') (us':=us') ae hm.wr hm.og h jZ iY (by rw[dX];exact gO) bh;have xt:=k τ d2;rw[ab,al]at xt;have cn:=@IC jx _ _ _ _ xt;have sS:=runT_crowd_go (P:=p') (sl:=fT) (i:=0) hm.g0 (show stepG p' (0==0) (G bj (u'::us')) (W.at d)=_ from U);exact Ends.next (oD.trans sS) (re σ v bg _ bF _ fT _ q cn bI.le aJ (T4 σ _ bF _ (G bj (u'::us')) es1 bI bm cS))
   ·exact Ends.next oD (KT (sumTo ed.size dF) (by rw[bX,←e3];exact aU) S (W.at d) ed fT _ dF rfl ⟨rP,ak,tz,λop aE=>(by rw[bX];exact(Array.mem_append.1 aE).elim (hm.k4 op) (BZ op)),hm.ma,hm.shl,hm.wr.B0 _ d,hm.og,hm.old,⟨hm.db.size,hm.db.os,hm.db.out,hm.db.blk⟩⟩ re)
 |spec _ h _ _=>exact(h default 0).elim
 |lu h _ _ _ _ _ _=>exact h.elim
end
end
section
open Go Go.Conc
section
variable{p p':Program}{F:FuncId->Bool}{ro:Nat->Prop}{ops ops':Array Oper}{ms:List Nat}{Y:List Deferred×FuncId×Bool}{cb:Frame}{v0:Value}{A:Array Value}{ρ:bA}{s:Frame×List Frame×World}{g:Frame×List Frame}{W bF:World}
theorem dN.keep{C:ee}{V:World}(h:dN C ρ ro V W)(ao:W.heap.size<=bF.heap.size)(aq:∀a b,ρ a b->bF.heap[b]?=W.heap[b]?):dN C ρ ro V bF:=
 ⟨h.ok,h.hR,Nat.le_trans h.ru ao,λb a6 hb=>by
  obtain⟨o,o',U,ab,al⟩:=h.obj b a6 hb;exact⟨o,o',U,(aq b a6 hb).trans ab,al⟩,h.bK,h.row⟩
theorem rO.keep(h:rO p p' F ro ops ms Y cb ops' A v0 ρ s g W)(ao:W.heap.size<=bF.heap.size)(aq:∀a b,ρ a b->bF.heap[b]?=W.heap[b]?):rO p p' F ro ops ms Y cb ops' A v0 ρ s g bF:=
 ⟨h.T3,h.st,h.bi,h.ahu,h.wr.keep ao aq,λb hb=>h.og b (Nat.le_trans ao hb)⟩
theorem rO.same(h:rO p p' F ro ops ms Y cb ops' A v0 ρ s g W)(ao:s.2.1=[dv]):g.2=[cb]/\uT vr ops ms s.1/\uT (xx Y.1 A) ops' ms g.1/\cv (bH p F) ρ s.1.tmps g.1.tmps/\s.1.fn=Y.2.1/\g.1.fn=Y.2.1/\∀l,s.1.todo=[.inRegion ops l]->g.1.todo=[.inRegion ops' l]:=by
 obtain⟨f,cs,V⟩:=s;obtain⟨bj,cs'⟩:=g;obtain⟨s8,bh,BW,BX,ql,Bw⟩:=h;dsimp only at *;subst ao;cases bh with
 |cons _ h=>cases h with
  |cons _ ab=>cases ab
 |bot h=>
  obtain⟨_,ai⟩:=BW;obtain⟨_,ad⟩:=BX;refine⟨rfl,ai,ad,h.tmps,h.nn _ rfl,h.fn.trans (h.nn _ rfl),λl ak=>?_⟩;obtain⟨_,_,_,aG,er,_⟩:=ad;have a1:=h.todo;rw[ak,er]at a1;cases a1 with
  |cons aX _=>
   rw[er];generalize aj:Item.inRegion ops' (aG++ms)=x at aX;cases aX with
   |inRegion _ _ _=>
    injection aj with gH e;rw[gH]
theorem YM(h:rO p p' F ro ops ms Y cb ops' A v0 ρ s g W)(ao:s.2.1=[dv])(KU:¬uU vr ops ms s.1){fn:Func}(dX:p.funcs[Y.2.1]?=some fn){r r2:Tmp}(gO:fn.results=#[.tmp r,.tmp r2])
  (u6:∀i∈ms,∃o,ops[i]?=some o/\(∃c,o.op=.assign (.const c))/\o.guard=none/\o.dst≠some r/\o.dst≠some r2):
  g.2=[cb]/\uT (xx Y.1 A) ops' ms g.1/\g.1.todo=[.inRegion ops' ms]/\g.1.fn=Y.2.1/\v0=.tuple #[s.1.tmps.getD r undef,s.1.tmps.getD r2 undef]/\cv (bH p F) ρ s.1.tmps g.1.tmps:=by
 obtain⟨U,ab,al,aJ,bm,bI,cS⟩:=h.same ao;obtain⟨k1,k2,⟨bP,cX⟩,l,fi,tW⟩:=ab;have ak:l=[]:=by
  cases l with
  |nil=>rfl
  |cons i l=>exact absurd ⟨⟨k1,k2,⟨bP,cX⟩,_,fi,tW⟩,i,l,fi,tW⟩ KU
 subst ak;rw[List.nil_append]at fi;have hw:=h.T3;rw[ao]at hw;exact⟨U,al,cS _ fi,bI,Np ms s.1 s.2.2 hw fi k1 bP cX k2 (by rw[bm];exact dX) gO u6,aJ⟩
end
end
section
open Go Go.Conc
section
variable{ops ops':Array Oper}
theorem WN(h:∀i:Nat,(ops'[i]?).map (·.after)=(ops[i]?).map (·.after))(ao:ops'.size=ops.size)(m:Region.Mode)(listed:Array Bool):
  ((List.range ops'.size).filter λi=>!listed.getD i true&&((ops'[i]?).map (·.after.all λe=>!Region.binds m e||listed.getD e.on false)).getD false)=((List.range ops.size).filter λi=>!listed.getD i true&&((ops[i]?).map (·.after.all λe=>!Region.binds m e||listed.getD e.on false)).getD false):=by
 grind
theorem go_congr(h:∀i:Nat,(ops'[i]?).map (·.after)=(ops[i]?).map (·.after))(ao:ops'.size=ops.size)(m:Region.Mode):∀(fuel t:Nat)(listed:Array Bool)(acc:List Nat),Region.linearise.go m ops' fuel t listed acc=Region.linearise.go m ops fuel t listed acc
 |0,_,_,_=>rfl
 |fuel+1,t,listed,acc=>by
  simp only[Region.linearise.go];rw[WN h ao];split
  ·exact go_congr h ao m fuel _ _ _
  ·rfl
theorem VE(h:∀i:Nat,(ops'[i]?).map (·.after)=(ops[i]?).map (·.after))(ao:ops'.size=ops.size)(m:Bool)(t:Nat):Region.schedule m ops' t=Region.schedule m ops t:=by
 have ak:∀m t,Region.linearise m ops' t=Region.linearise m ops t:=λm t=>by grind [Region.linearise,go_congr]
 have aV:Region.departs ops'=Region.departs ops:=by
  unfold Region.departs;rw[Bool.eq_iff_iff,Array.any_eq_true,Array.any_eq_true];constructor
  ·rintro⟨i,aX,he⟩;have:=h i;grind
  ·rintro⟨i,aX,he⟩;have:=h i;grind
 grind [Region.schedule]
structure AS(ops:Array Oper)(k:Nat):Prop where
 size:ops.size=k+2
 back:∀(i:Nat) o,ops[i]?=some o->∀e∈o.after,Region.binds .any e=true->e.on<i
 one:∀o,ops[k]?=some o->∀j,j<k->∃e∈o.after,Region.binds .any e=true/\e.on=j
 two:∀o,ops[k+1]?=some o->∀j,j<k+1->∃e∈o.after,Region.binds .any e=true/\e.on=j
def oh(k:Nat)(listed:Array Bool):Nat:=(List.range k).countP λj=>!listed.getD j true
theorem yr(listed:Array Bool)(i j:Nat)(aX:i<listed.size):(listed.setIfInBounds i true).getD j true=if j=i then true else listed.getD j true:=by
 simp ;grind
theorem Rj(listed:Array Bool)(i:Nat)(aX:i<listed.size):∀k,k<=i->oh k (listed.setIfInBounds i true)=oh k listed
 |0,_=>rfl
 |k+1,h=>by
  have az:=Rj listed i aX k (by omega);grind [oh,List.range_succ,yr]
theorem Qi(listed:Array Bool)(i:Nat)(aX:i<listed.size)(hu:listed.getD i true=false):∀k,i<k->oh k (listed.setIfInBounds i true)+1=oh k listed
 |0,h=>by omega
 |k+1,h=>by
  by_cases e:i=k
  ·have az:=Rj listed i aX i (Nat.le_refl _);grind [oh,List.range_succ,yr]
  ·have az:=Qi listed i aX hu k (by omega);grind [oh,List.range_succ,yr]
theorem aab(listed:Array Bool){k:Nat}(h:oh k listed=0):∀j,j<k->listed.getD j true=true:=by grind [oh,List.countP_eq_zero]
def gQ(ops:Array Oper)(listed:Array Bool)(i:Nat):Bool:=!listed.getD i true&&((ops[i]?).map (·.after.all λe=>!Region.binds .any e||listed.getD e.on false)).getD false
theorem uD{listed:Array Bool}{i:Nat}:gQ ops listed i=true↔listed.getD i true=false/\∃o,ops[i]?=some o/\∀e∈o.after,Region.binds .any e=true->listed.getD e.on false=true:=by grind [gQ,Array.all_eq_true_iff_forall_mem]
theorem Qj{listed:Array Bool}{j:Nat}(aC:j<listed.size):listed.getD j false=listed.getD j true:=by grind
theorem Qk{k:Nat}(h:AS ops k):∀(n t:Nat)(listed:Array Bool)(acc:List Nat),listed.size=k+2->listed.getD k true=false->listed.getD (k+1) true=false->oh k listed=n ->
  ∃fY,Region.linearise.go .any ops (n+2) t listed acc=acc.reverse++(fY++[k,k+1])/\∀i∈fY,i<k
 |0,t,listed,acc,ao,U,ab,hu=>by
  have bO:=aab listed hu;have aK:(List.range ops.size).filter (gQ ops listed)=[k]:=by
   rw[h.size,List.range_succ,List.range_succ,List.filter_append,List.filter_append];have eD:(List.range k).filter (gQ ops listed)=[]:=List.filter_eq_nil_iff.2 λj aC=>by grind [uD]
   obtain⟨o,ar⟩:∃o,ops[k]?=some o:=⟨_,Array.getElem?_eq_getElem (by rw[h.size];omega)⟩;obtain⟨LM,cz⟩:∃o,ops[k+1]?=some o:=⟨_,Array.getElem?_eq_getElem (by rw[h.size];omega)⟩;have a2:gQ ops listed k=true:=uD.2 ⟨U,o,ar,λe he hb=>by
    have:=h.back k o ar e he hb;grind⟩
   have a3:gQ ops listed (k+1)=false:=by
    cases ad:gQ ops listed (k+1)with
    |false=>rfl
    |true=>
     obtain⟨_,o',e',bq⟩:=uD.1 ad;obtain⟨e,he,hb,FO⟩:=h.two o' e' k (by omega);grind
   grind
  have aO:(List.range ops.size).filter (gQ ops (listed.setIfInBounds k true))=[k+1]:=by
   rw[h.size,List.range_succ,List.range_succ,List.filter_append,List.filter_append];have amD:∀j,j<k+1->(listed.setIfInBounds k true).getD j true=true:=λj aC=>by grind [yr]
   have eD:(List.range k).filter (gQ ops (listed.setIfInBounds k true))=[]:=List.filter_eq_nil_iff.2 λj aC=>by grind [uD]
   have a2:gQ ops (listed.setIfInBounds k true) k=false:=by grind [uD]
   obtain⟨LM,cz⟩:∃o,ops[k+1]?=some o:=⟨_,Array.getElem?_eq_getElem (by rw[h.size];omega)⟩;have a3:gQ ops (listed.setIfInBounds k true) (k+1)=true:=uD.2 ⟨by simp_all,LM,cz,λe he hb=>by
    have:=h.back (k+1) LM cz e he hb;grind⟩
   grind
  refine⟨[],?_,by simp⟩;have s1:Region.linearise.go .any ops (0+2) t listed acc=Region.linearise.go .any ops 1 (t/1) (listed.setIfInBounds k true) (k::acc):=by
   rw[show 0+2=1+1 from rfl,Region.linearise.go];show(match((List.range ops.size).filter (gQ ops listed))[t%((List.range ops.size).filter (gQ ops listed)).length]? with|some i=>Region.linearise.go .any ops 1 (t/((List.range ops.size).filter (gQ ops listed)).length) (listed.setIfInBounds i true) (i::acc)|none=>acc.reverse)=_;grind
  have s2:∀t,Region.linearise.go .any ops 1 t (listed.setIfInBounds k true) (k::acc)=((k+1)::k::acc).reverse:=λt=>by
   rw[Region.linearise.go];show(match((List.range ops.size).filter (gQ ops (listed.setIfInBounds k true)))[t%((List.range ops.size).filter (gQ ops (listed.setIfInBounds k true))).length]? with|some i=>Region.linearise.go .any ops 0 (t/((List.range ops.size).filter (gQ ops (listed.setIfInBounds k true))).length) ((listed.setIfInBounds k true).setIfInBounds i true) (i::k::acc)|none=>(k::acc).reverse)=_;rw[aO];simp[Nat.mod_one,Region.linearise.go]
  grind
 |n+1,t,listed,acc,ao,U,ab,hu=>by
  obtain⟨j0,T5,KV⟩:∃j,j<k/\listed.getD j true=false:=by
   refine Classical.byContradiction λaj=>?_;have:oh k listed=0:=by
    unfold oh;rw[List.countP_eq_zero];intro j aC;cases ak:listed.getD j true with
    |true=>simp
    |false=>exact absurd ⟨j,List.mem_range.1 aC,ak⟩ aj
   omega
  have lh:∀i∈(List.range ops.size).filter (gQ ops listed),i<k/\listed.getD i true=false:=by
   intro i aX;obtain⟨al,aJ⟩:=List.mem_filter.1 aX;obtain⟨bm,o,ar,bI⟩:=uD.1 aJ;refine⟨?_,bm⟩;have rJ:i<k+2:=by rw[←h.size];exact List.mem_range.1 al
   refine Classical.byContradiction λaj=>?_;have key:∃e∈o.after,Region.binds .any e=true/\e.on=j0:=by
    rcases Nat.lt_or_ge i (k+1)with aU|h3
    ·obtain rfl:i=k:=by omega
     exact h.one o ar j0 T5
    ·obtain rfl:i=k+1:=by omega
     exact h.two o ar j0 (by omega)
   obtain⟨e,he,hb,FO⟩:=key;have:=bI e he hb;rw[FO,Qj (by omega),KV]at this;cases this
  have bU:(List.range ops.size).filter (gQ ops listed)≠[]:=by
   intro fK;have fu:∀i,i<k->gQ ops listed i=false:=λi aX=>by
    cases ad:gQ ops listed i with
    |false=>rfl
    |true=>
     have:i∈(List.range ops.size).filter (gQ ops listed):=List.mem_filter.2 ⟨List.mem_range.2 (by rw[h.size];omega),ad⟩;rw[fK]at this;cases this
   have:∀i,i<k->listed.getD i true=true:=by
    intro i;induction i using Nat.strongRecOn with
    |_ i az=>
     intro aX;refine Classical.byContradiction λaj=>?_;have aj:listed.getD i true=false:=by simpa using aj
     obtain⟨o,ar⟩:∃o,ops[i]?=some o:=⟨_,Array.getElem?_eq_getElem (by rw[h.size];omega)⟩;have:=uD.2 ⟨aj,o,ar,λe he hb=>by
      have aU:=h.back i o ar e he hb;rw[Qj (by omega)];exact az _ aU (by omega)⟩
     rw[fu i aX]at this;cases this
   rw[this j0 T5]at KV;cases KV
  have eb:0<((List.range ops.size).filter (gQ ops listed)).length:=List.length_pos_iff.2 bU;have aU:t%((List.range ops.size).filter (gQ ops listed)).length<((List.range ops.size).filter (gQ ops listed)).length:=Nat.mod_lt _ eb;obtain⟨i,aX⟩:∃i,((List.range ops.size).filter (gQ ops listed))[t%((List.range ops.size).filter (gQ ops listed)).length]?=some i:=⟨_,List.getElem?_eq_getElem aU⟩;obtain⟨g1,g2⟩:=lh i (List.mem_of_getElem? aX);have oN:i<listed.size:=by omega
  obtain⟨fY,cS,et⟩:=Qk h n (t/((List.range ops.size).filter (gQ ops listed)).length) (listed.setIfInBounds i true) (i::acc) (by simpa using ao) (by rw[yr listed i k oN,if_neg (by omega)];exact U) (by rw[yr listed i (k+1) oN,if_neg (by omega)];exact ab) (by have:=Qi listed i oN g2 k g1;omega);refine⟨i::fY,?_,λx aj=>?_⟩
  ·rw[show n+1+2=(n+2)+1 from rfl,Region.linearise.go];show(match((List.range ops.size).filter (gQ ops listed))[t%((List.range ops.size).filter (gQ ops listed)).length]? with|some i=>Region.linearise.go .any ops (n+2) (t/((List.range ops.size).filter (gQ ops listed)).length) (listed.setIfInBounds i true) (i::acc)|none=>acc.reverse)=_;rw[aX];dsimp only;rw[cS];simp
  ·rcases List.mem_cons.1 aj with rfl|aj
   ·exact g1
   ·exact et x aj
theorem VS{k:Nat}(h:AS ops k){m:Bool}(hm:m=true)(t:Nat):∃fY,Region.schedule m ops t=fY++[k,k+1]/\∀i∈fY,i<k:=by
 have hu:oh k (Array.replicate (k+2) false)=k:=by
  unfold oh;have:(List.range k).countP (λj=>!(Array.replicate (k+2) false).getD j true)=(List.range k).length:=List.countP_eq_length.2 λj aC=>by
   have:=List.mem_range.1 aC;simp[Array.getD_eq_getD_getElem?,show j<k+2 by omega]
  grind
 obtain⟨fY,U,ab⟩:=Qk h k t (Array.replicate (k+2) false) [] (by simp) (by simp_all) (by simp_all) hu;refine⟨fY,?_,ab⟩;unfold Region.schedule;rw[hm];unfold Region.linearise;rw[h.size,U];rfl
def O8(ops:Array Oper)(k:Nat):Bool:=
 decide (ops.size=k+2) &&
 ((List.range ops.size).all λi=>match ops[i]? with
  |some o=>o.after.toList.all λe=>!Region.binds .any e||decide (e.on<i)
  |none=>true) &&
 (match ops[k]? with
  |some o=>(List.range k).all λj=>o.after.toList.any λe=>Region.binds .any e&&e.on==j
  |none=>true) &&
 (match ops[k+1]? with
  |some o=>(List.range (k+1)).all λj=>o.after.toList.any λe=>Region.binds .any e&&e.on==j
  |none=>true)
theorem Xw{k:Nat}(h:O8 ops k=true):AS ops k:=by
 unfold O8 at h;simp only[Bool.and_eq_true,decide_eq_true_eq]at h;obtain⟨⟨⟨U,ab⟩,al⟩,aJ⟩:=h;refine⟨U,λi o ar e he hb=>?_,λo ar j aC=>?_,λo ar j aC=>?_⟩
 ·grind
 ·rw[ar]at al;have:=List.all_eq_true.1 al j (List.mem_range.2 aC);grind
 ·rw[ar]at aJ;have:=List.all_eq_true.1 aJ j (List.mem_range.2 aC);grind
theorem MR{p:Program}{F:FuncId->Bool}{i:Nat}{f:Oper->Oper}{opsA:Array Oper}(h:px p F ops ops')(aW:opsA=ops.modify i f)(aV:∀o,(f o).dst=o.dst)(au:∀o,(f o).after=o.after)(hm:∀o,q1 (f o)=true):px p F opsA ops':=by
 subst aW;refine⟨λj=>?_,λj o ar gZ=>?_,λm t=>?_,by simpa using h.size,h.ok⟩
 ·rw[h.dst j,Array.getElem?_modify];grind
 ·rw[Array.getElem?_modify]at ar;split at ar
  ·grind
  ·exact h.same j o ar gZ
 ·rw[h.sched];grind [VE]
end
end
section
open Go Go.Conc
section
variable{p p':Program}{F:FuncId->Bool}{ro:Nat->Prop}{ops ops':Array Oper}{k:Nat}{Y:List Deferred×FuncId×Bool}{cb:Frame}{v0:Value}{A:Array Value}{ρ:bA}{V W:World}
theorem Oi(p:Program)(main:Bool)(f:Frame)(cs:List Frame)(W:World)(hm:f.mode=.run){id:Nat}{o:Array Oper}{gJ:List Item}(a1:f.todo=.code (.region id o true)::gJ):
  ∃n d,stepG p main (G f cs) W=.go (G { f with todo:=.inRegion o (Region.schedule (p.follows .mixedOrders) o n)::gJ } cs) (W.at d) #[]/\(choose (.order f.fn id)).run p W=.ok n (W.at d):=by
 obtain⟨fn,tmps,todo,defers,mode,kind,round⟩:=f;dsimp only at hm a1;subst hm a1;have ah:∃n d,(choose (.order fn id)).run p W=.ok n (W.at d):=by
  show ∃n d,(if(Question.order fn id).forced then(pure 0:Sem Nat).run p W else(pure ((Question.order fn id).cut (W.tape W.drawn (.order fn id))):Sem Nat).run p { W with drawn:=W.drawn+1 })=.ok n (W.at d);split
  ·exact⟨0,W.drawn,rfl⟩
  ·exact⟨_,W.drawn+1,rfl⟩
 obtain⟨n,d,ah⟩:=ah;refine⟨n,d,?_,ah⟩;simp only[G,stepG,stepG.exec,Bool.not_true,Bool.false_eq_true,if_false];rw[ah]
theorem WO(p p':Program)(V W:World)(q:Question){n eu d dq:Nat}(h:(choose q).run p' W=.ok eu (W.at dq))(ab:(choose q).run p (a8 V W.tape W.drawn)=.ok n ((a8 V W.tape W.drawn).at d)):n=eu:=by
 have aK:(choose q).run p' W=if q.forced then .ok 0 W else .ok (q.cut (W.tape W.drawn q)) { W with drawn:=W.drawn+1 }:=rfl
 have aO:(choose q).run p (a8 V W.tape W.drawn)=if q.forced then .ok 0 (a8 V W.tape W.drawn)else .ok (q.cut (W.tape W.drawn q)) { a8 V W.tape W.drawn with drawn:=W.drawn+1 }:=rfl
 rw[aK]at h;rw[aO]at ab;split at h
 ·rename_i aQ;rw[if_pos aQ]at ab;injection h with a _;injection ab with b _;rw[←a,←b]
 ·rename_i aQ;rw[if_neg aQ]at ab;injection h with a _;injection ab with b _;rw[←a,←b]
theorem Xx(afK:p'.follows .mixedOrders=p.follows .mixedOrders)(afL:p.follows .mixedOrders=true)(ak:AS ops k)(u6:(ops.toList.all λo=>mx p F o.op)=true)(kt:px p F ops ops'){id:Nat}{ag tr:Array Value}{fn:FuncId}{D:List Deferred}
  (fA:Y=(D,fn,true)) (aW:∀r,r<A.size->tr[r]?=A[r]?) (bX:A.size+14<=tr.size)
  (s8:m7 p (mM λv _=>v=v0) ⟨fn,ag,[.code (.region id ops true)],[],.run,.normal,none⟩ [dv] V)
  (ql:dN (bH p F) ρ ro V W) (Bw:∀b,W.heap.size<=b->¬ro b) (a1:cv (bH p F) ρ ag tr):
  ∃(s:Frame×List Frame×World)(g:Frame×List Frame)(d:Nat),stepG p' false (G ⟨fn,tr,[.code (.region id ops' true)],D,.run,.deferred,none⟩ [cb]) W=.go (G g.1 g.2) (W.at d) #[]/\rO p p' F ro ops [k,k+1] Y cb ops' A v0 ρ s g (W.at d)/\∃τ e es,stepG p true (G ⟨fn,ag,[.code (.region id ops true)],[],.run,.normal,none⟩ [dv]) (a8 V τ e)=.go (G s.1 s.2.1) s.2.2 es:=by
 subst fA;obtain⟨eu,dq,ad,ahv⟩:=Oi p' false ⟨fn,tr,[.code (.region id ops' true)],D,.run,.deferred,none⟩ [cb] W rfl rfl;have iP:¬∀τ d,mM (λv _=>v=v0) (⟨fn,ag,[.code (.region id ops true)],[],.run,.normal,none⟩:Frame) [dv] (a8 V τ d):=λx=>by cases(x default 0).1
 rcases DX s8 with h|⟨fr,nm,w2,es,_,hgo,_,aq⟩
 ·exact absurd h iP
 obtain⟨n,d,ai,KW⟩:=Oi p true ⟨fn,ag,[.code (.region id ops true)],[],.run,.normal,none⟩ [dv] (a8 V W.tape W.drawn) rfl rfl;have aI:n=eu:=WO p p' V W _ ahv KW;subst aI;have rQ:=aq W.tape W.drawn;have tA:=hgo W.tape W.drawn;rw[ai]at tA;injection tA with aK aO bS;injection aK with b8 en;rw[←aO,←b8,←en]at rQ;obtain⟨fY,ao,aU⟩:=VS ak afL n;have tv:Region.schedule (p'.follows .mixedOrders) ops' n=fY++[k,k+1]:=by rw[kt.sched,afK];exact ao
 dsimp only at rQ ad;rw[ao]at rQ;rw[tv]at ad;have vp:∀i∈fY,i∉[k,k+1]:=λi aX hm=>by
  have:=aU i aX;simp only[List.mem_cons,List.not_mem_nil,or_false]at hm;omega
 refine⟨(_,_,_),(_,_),dq,ad,⟨rQ,.bot ⟨rfl,a1,.cons (.inRegion u6 kt λ_=>rfl) .nil,⟨[],.nil,by simp⟩,.run,rfl,λe=>(by cases e),.none,λ_=>rfl,λe=>(by cases e),λ_=>rfl,λx e=>(by cases e;rfl),by simp,λx e h=>(by cases e;cases h)⟩,⟨rfl,rfl,rfl,⟨rfl,rfl⟩,fY,rfl,vp⟩,⟨rfl,rfl,rfl,⟨rfl,rfl,bX,aW⟩,fY,rfl,vp⟩,?_,Bw⟩,W.tape,W.drawn,#[],?_⟩
 ·exact(ql.a8 W.tape d).B0 W.tape dq
 ·dsimp only;rw[←ao];exact ai
end
end
section
open Go Go.Conc Go.ConcN Go.RowKit Go.Conc.Lib Go.ConcR.Gen Go.ConcN.Gen
open Go.ConcR (KK wgBlock WgAt stA smA rd wr mk Payload DC0 Bk)
abbrev KY(ty:TypeId)(Wg:Nat)(_ fB:World):Prop:=WgLive ty Wg fB
abbrev T7(P:Program)(ty:TypeId)(Wg:Nat)(Stop:Goroutine->World->Prop)(g:Goroutine):Prop:=∃m,∀w,WgLive ty Wg w->Goes P false (KY ty Wg) DC0 Stop m g w
def wU(P:Program)(ty:TypeId)(Wg:Nat)(e:Mark)(iO:Goroutine->World->Prop)(g:Goroutine)(w:World):Prop:=
 g.status=.running/\∃g',stepG P false g w=.go g' w #[mk e]/\T7 P ty Wg iO g'
section
variable{L:WgLink}{Wg:Nat}{c:Frame}{cs:List Frame}
set_option maxRecDepth 100000 in
set_option maxHeartbeats 2000000 in
theorem YN{P:Program}(H:WgLib P L):T7 P L.tWg Wg (wU P L.tWg Wg (.releaseMerge (stA Wg)) (wU P L.tWg Wg .disable λ_ _=>True)) (G ((baseD L.done).at ⟨#[.pointer (some ⟨Wg,0,none⟩),undef,undef,undef],[]⟩ [.code (body_done L)]) (c::cs)):=by
 lib_facts
 refine⟨200,λw aw=>?_⟩;simp only[body_done,body_add,doneFn,addFn,Option.getD_some]
 u_reg (λ_ r=>r) aw
 u_op (λ_ r=>r) aw
 u_in (λ_ r=>r) aw
 refine goes_call rfl rfl (by k_ne) rfl H.f_add (nm_add L) rfl ⟨by u_nil,?_⟩
 walk_nrmf addFn
 u_c stepG_seq (λ_ r=>r) aw
 u_cond true (λ_ r=>r) aw
 u_c stepG_seq (λ_ r=>r) aw
 u_c stepG_seq (λ_ r=>r) aw
 u_reg (λ_ r=>r) aw
 u_op (λ_ r=>r) aw
 u_op (λ_ r=>r) aw
 u_c stepG_region_end (λ_ r=>r) aw
 u_cond true (λ_ r=>r) aw
 u_reg (λ_ r=>r) aw
 u_op (λ_ r=>r) aw
 u_conv H.underlying_tWgP H.room_tWg (WgLive.cell0 aw).choose_spec (λ_ r=>r) aw
 refine Goes.stop (λfB pP=>⟨rfl,_,stepG_markAt .releaseMerge (by simp) rfl rfl (by k_ne) rfl H.f_relMerge (x_relMerge_n L) (x_relMerge_b L) (x_relMerge_x L) (x_relMerge_f L) (by simp[Act.eval,stA]),200,λw aw=>?_⟩)
 walk_nrm
 u_c stepG_region_end (λ_ r=>r) aw
 u_c stepG_seq (λ_ r=>r) aw
 u_reg (λ_ r=>r) aw
 exact Goes.stop (λfB pP=>⟨rfl,_,stepG_mark0 .disable (by simp) rfl rfl (by k_ne) rfl H.f_disable (x_disable_n L) (x_disable_b L) (x_disable_x L) (x_disable_f L),0,λw aw=>λ_ _=>trivial⟩)
end
section
variable[Payload]{P:Program}{ty:TypeId}{Wg C n k:Nat}{Own Rd:Nat->Loc->Prop}{v:Value}
theorem wh{s:GStep}{g g':Goroutine}{w w':World}{es ec:Array Event}(h:s=.go g w es)(bc:s=.go g' w' ec):g=g'/\w=w'/\es=ec:=by
 rw[h]at bc;cases bc;exact⟨rfl,rfl,rfl⟩
theorem abI{m:Nat}:∀{g:Goroutine}{w:World},Goes P false (RW ty Wg C n 0 (k-1)) (DWs Wg Own Rd C n k) (AtR0 P ty Wg C n 0 k v) m g w->WgLive ty Wg w->∀hF,(∀w,WgLive ty Wg w->Goes P false (KY ty Wg) DC0 (wU P ty Wg .disable λ_ _=>True) hF g w)->False:=by
 induction m with
 |zero=>
  intro g w h ak hF ab;obtain⟨_,_,g',aN,_⟩:=h w (RW.refl w);cases hF with
  |zero=>
   obtain⟨_,g2,np,_⟩:=ab w ak w ak;have:=(wh aN np).2.2;simp[mk]at this
  |succ hF=>
   rcases ab w ak with ab|⟨_,ab⟩
   ·obtain⟨_,g2,np,_⟩:=ab w ak;have:=(wh aN np).2.2;simp[mk]at this
   ·have:=ab w ak;rw[aN,goes_go]at this;have:=this.1.2;simp at this
 |succ m az=>
  intro g w h ak hF ab;rcases h with h|⟨_,h⟩
  ·obtain⟨_,_,g',aN,_⟩:=h w (RW.refl w);cases hF with
   |zero=>
    obtain⟨_,g2,np,_⟩:=ab w ak w ak;have:=(wh aN np).2.2;simp[mk]at this
   |succ hF=>
    rcases ab w ak with ab|⟨_,ab⟩
    ·obtain⟨_,g2,np,_⟩:=ab w ak;have:=(wh aN np).2.2;simp[mk]at this
    ·have:=ab w ak;rw[aN,goes_go]at this;have:=this.1.2;simp at this
  ·obtain⟨g1,w1,es,aN,⟨aV,fR⟩,aI⟩:=goes_elim (h w (RW.refl w));cases hF with
   |zero=>
    obtain⟨_,g2,np,_⟩:=ab w ak w ak;obtain⟨_,_,e⟩:=wh aN np;subst e;exact(fR (mk .disable) (by simp)).2.1 rfl
   |succ hF=>
    rcases ab w ak with al|⟨_,al⟩
    ·obtain⟨_,g2,np,_⟩:=al w ak;obtain⟨_,_,e⟩:=wh aN np;subst e;exact(fR (mk .disable) (by simp)).2.1 rfl
    ·have aJ:=al w ak;rw[aN,goes_go]at aJ;obtain⟨⟨aK,aO⟩,bm⟩:=aJ;subst aK;refine az aI ak hF λw2 bQ=>?_;exact Goes.rely (λ_ _ _ _ h=>h) bm bQ
theorem XA{m:Nat}:∀{g:Goroutine}{w:World},Goes P false (RW ty Wg C n 0 (k-1)) (DWs Wg Own Rd C n k) (AtR0 P ty Wg C n 0 k v) m g w->WgLive ty Wg w->∀hF,(∀w,WgLive ty Wg w->Goes P false (KY ty Wg) DC0 (wU P ty Wg (.releaseMerge (stA Wg)) (wU P ty Wg .disable λ_ _=>True)) hF g w) ->
  Goes P false (RW ty Wg C n 0 (k-1)) DC0 (AtR0 P ty Wg C n 0 k v) m g w:=by
 induction m with
 |zero=>exact λh _ _ _=>h
 |succ m az=>
  intro g w h ak hF ab;rcases h with h|⟨ad,h⟩
  ·exact .inl h
  ·refine .inr ⟨ad,λw1 fg=>?_⟩;have gk:=fg.live ak;obtain⟨g1,w2,es,aN,akS,aI⟩:=goes_elim (h w1 fg);have stop:wU P ty Wg (.releaseMerge (stA Wg)) (wU P ty Wg .disable λ_ _=>True) g w1->False:=by
    rintro⟨_,g2,np,Gz,al⟩;obtain⟨aK,aO,bS⟩:=wh aN np;subst aK aO;exact abI aI gk Gz al
   cases hF with
   |zero=>exact(stop (ab w1 gk w1 gk)).elim
   |succ hF=>
    rcases ab w1 gk with al|⟨_,al⟩
    ·exact(stop (al w1 gk)).elim
    ·have aJ:=al w1 gk;rw[aN,goes_go]at aJ;obtain⟨⟨aK,aO⟩,bm⟩:=aJ;subst aK aO;rw[aN,goes_go];exact⟨⟨rfl,rfl⟩,az aI gk hF λw3 dC=>Goes.rely (λ_ _ _ _ h=>h) bm dC⟩
end
end
end Go.Proofs.YtlminnpaeaganaaGreat
