/- Part of the proof of TopTwins. No condition. -/
import Derived.RangeFuncLeaves
import Derived.RangeFuncRecord
import Derived.OrdersIn
import Derived.Test.YtjfejoadcdoobaaMTopTwinsAF
namespace Go.Proofs.Ytjfejoadcdoobaa
set_option maxRecDepth 100000
set_option linter.all false
section
open Go Go.RowKit
variable[Sp]
section
variable{P:Program}{φ:Phi}{w:World}{D:Nat}{o:Obj}
def NoCells(w:World)(D:Nat):Prop:=∃x,w.heap[D]?=some x/\(∀a b c,x≠.cells a b c)/\(∀k,w.cell? ⟨D,k,none⟩=none)/\((∃l,x=.loop l)\/∃d,x=.deferred d)
theorem noCells_deferred{x:Option (List Deferred)}(h:w.heap[D]?=some (.deferred x)):NoCells w D:=⟨_,h,λ_ _ _ e=>(by cases e),λk=>by simp[World.cell?,h],.inr ⟨_,rfl⟩⟩
theorem noCells_loop{x:Loop}(h:w.heap[D]?=some (.loop x)):NoCells w D:=⟨_,h,λ_ _ _ e=>(by cases e),λk=>by simp[World.cell?,h],.inl ⟨_,rfl⟩⟩
theorem NoCells.ne'{b:Nat}{o:Obj}(h:NoCells w D)(k:w.heap[b]?=some o)(h1:∀l,o≠.loop l)(h2:∀d,o≠.deferred d):b≠D:=by
 rintro rfl;obtain⟨x,g1,_,_,g⟩:=h;rw[g1]at k;have:=Option.some.inj k;subst this;rcases g with⟨l,e⟩|⟨d,e⟩
 ·exact h1 l e
 ·exact h2 d e
theorem NoCells.neA{b:Nat}(h:NoCells w D)(k:AO w b):b≠D:=by rcases k with⟨_,_,k⟩|⟨_,_,k⟩|⟨_,_,_,_,k⟩|⟨_,_,k⟩<;>exact h.ne' k (by simp) (by simp)
theorem NoCells.ne{b:Nat}{cs e f}(h:NoCells w D)(k:w.heap[b]?=some (.cells cs e f)):b≠D:=by
 rintro rfl;obtain⟨x,h1,h2,_⟩:=h;rw[h1]at k;exact h2 _ _ _ (Option.some.inj k)
theorem cell_shut(hD:NoCells w D){b k:Nat}{v:Value}(h:w.cell? ⟨b,k,none⟩=some v):(w.putObj D o).cell? ⟨b,k,none⟩=some v:=by
 by_cases e:b=D
 ·subst e;obtain⟨_,_,_,h3,_⟩:=hD;rw[h3]at h;cases h
 ·exact(cell_eq (World.putObj_heap_other e)).trans h
theorem place_shut(hD:NoCells w D){id:Option Nat}{b sz off cap:Nat}(h:place φ w id b sz off cap):place φ (w.putObj D o) id b sz off cap:=by
 cases id with
 |none=>exact⟨h.1,by simpa using h.2⟩
 |some i=>
  obtain⟨ha,cur,e,hb,hc⟩:=h;have hne:b≠D:=hD.ne hb;exact⟨ha,cur,e,(World.putObj_heap_other hne).trans hb,hc⟩
mutual
theorem VRel.shut(hD:NoCells w D):∀(p:PV)(v:Value),VRel φ w p v->VRel φ (w.putObj D o) p v
 |.int _ _,v,h=>by simpa only[VRel]using h
 |.bool _,v,h=>by simpa only[VRel]using h
 |.str _,v,h=>by simpa only[VRel]using h
 |.undef,v,h=>by simpa only[VRel]using h
 |.bad,v,h=>by simp only[VRel]
 |.nilp,v,h=>by simpa only[VRel]using h
 |.nilfn,v,h=>by simpa only[VRel]using h
 |.snil,v,h=>by simpa only[VRel]using h
 |.dead _,v,h | .yld _,v,h=>by simpa only[VRel]using h
 |.ptr i o,v,h=>by simpa only[VRel]using h
 |.hd i o z,v,h=>by simpa only[VRel]using h
 |.sl id sz off len cs,v,h=>by
  simp only[VRel]at h⊢;obtain⟨hl,a,cap,hv,hc,h⟩:=h;refine⟨hl,a,cap,hv,hc,?_⟩;rcases h with h|⟨b,ha,hp,hr⟩
  ·exact .inl h
  ·exact .inr ⟨b,ha,place_shut hD hp,VRelAt.shut hD b cs off hr⟩
 |.eref id off cs,v,h=>by
  simp only[VRel]at h⊢;obtain⟨b,hv,hp,hr⟩:=h;exact⟨b,hv,place_shut hD hp,VRelAt.shut hD b cs off hr⟩
 |.fn f caps,v,h=>by
  simp only[VRel]at h⊢;obtain⟨vs,hv,hr⟩:=h;exact⟨vs,hv,VRelL.shut hD caps vs hr⟩
 |.agg cs,v,h=>by
  simp only[VRel]at h⊢;obtain⟨vs,hv,hr⟩:=h;exact⟨vs,hv,VRelL.shut hD cs vs hr⟩
 |.tup cs,v,h=>by
  simp only[VRel]at h⊢;obtain⟨vs,hv,hr⟩:=h;exact⟨vs,hv,VRelL.shut hD cs vs hr⟩
 |.mp it id sz cs,v,h=>by
  simp only[VRel]at h⊢;exact h.move (λb o hp hh _ h1 h2=>⟨hp,(World.putObj_heap_other (hD.ne' hh h1 h2)).trans hh⟩) λb o hp hh _ h1 h2=>⟨hp,(World.putObj_heap_other (hD.ne' hh h1 h2)).trans hh⟩
theorem VRelL.shut(hD:NoCells w D):∀(ps:List PV)(vs:List Value),VRelL φ w ps vs->VRelL φ (w.putObj D o) ps vs
 |[],vs,h=>by simp only[VRelL]at h⊢;exact h
 |p::ps,vs,h=>by
  simp only[VRelL]at h⊢;obtain⟨v,vs',e,h0,h1⟩:=h;exact⟨v,vs',e,VRel.shut hD p v h0,VRelL.shut hD ps vs' h1⟩
theorem VRelAt.shut(hD:NoCells w D)(b:Nat):∀(ps:List PV)(off:Nat),VRelAt φ w b ps off->VRelAt φ (w.putObj D o) b ps off
 |[],_,_=>by simp only[VRelAt]
 |p::ps,off,h=>by
  simp only[VRelAt]at h⊢;obtain⟨⟨c,hc,h0⟩,h1⟩:=h;exact⟨⟨c,cell_shut hD hc,VRel.shut hD p c h0⟩,VRelAt.shut hD b ps (off+1) h1⟩
end
theorem mrel_shut{m:Mem}(hD:NoCells w D)(hl:∀l o,(l,o)∈m.rc->l≠D)(h:MRel φ m w):MRel φ m (w.putObj D o):=by
 have hne:∀(b:Nat) cs e,w.heap[b]?=some (Obj.cells cs e (0,0))->(w.putObj D o).heap[b]?=some (Obj.cells cs e (0,0)):=by
  intro b cs e hb;have:b≠D:=hD.ne hb;exact(World.putObj_heap_other this).trans hb
 refine⟨λi hi=>?_,h.boxn,λi b hb=>?_,h.boxinj,h.arrinj,h.sep,λl o' hl'=>(World.putObj_heap_other (hl l o' hl')).trans (h.rcs l o' hl')⟩
 ·rcases h.box i hi with g|⟨b,cs,e,h1,h2,h3⟩
  ·exact .inl g
  refine .inr ⟨b,cs,e,h1,hne b cs e h2,?_⟩;cases hc:m.β i with
  |cells l=>rw[hc]at h3;exact VRelL.shut hD l _ h3
  |inv I=>
   rw[hc]at h3;obtain⟨l,k1,k2,k3,k4⟩:=h3;exact⟨l,k1,k2,k3,VRelL.shut hD l _ k4⟩
  |hole=>rw[hc]at h3;exact h3.elim
 ·obtain⟨h1,h2⟩:=h.arr i b hb;exact⟨h1,h2.of_eq (World.putObj_heap_other (hD.neA h2))⟩
theorem leaves_marks{A:Anchor}{N:Nat}{fn:Func}{R:Ending->World->Prop}{s:St}{a:Act}:∀(ds:List Deferred)(φ:Phi)(w:World),SRel φ w N s a->Anch A φ w s.eff->Marks φ w A.w0 A.tl ds ->
  (∀w',SRel φ w' N s a->Step A.φ0 A.w0 φ w' s.eff->LeavesX P fn a.tmps R A.tl w')->LeavesX P fn a.tmps R ds w
 |[],φ,w,hs,ha,(hm:A.tl=[]),hQ=>by have:=hQ w hs ha.st;rwa[hm]at this
 |d::ds,φ,w,hs,ha,.inr h,hQ=>by have:=hQ w hs ha.st;rwa[h.1]at this
 |d::ds,φ,w,hs,ha,.inl ⟨⟨D,e,h1,h2,h3,h4⟩,hm⟩,hQ=>by
  subst e;have hlt:D<w.heap.size:=(Array.getElem?_eq_some_iff.1 h2).1;refine .inl ⟨D,rfl,λτ d=>⟨_,run_takeDeferred (w:=re w τ d) h2,?_⟩⟩;replace hs:=hs.re τ d;replace ha:=ha.rew τ d;replace hm:Marks φ (re w τ d) A.w0 A.tl ds:=hm.rest (step_re φ w τ d).toRest;replace h2:(re w τ d).heap[D]?=some (.deferred (some [])):=h2;generalize re w τ d=w at *;have hs':SRel φ (w.putObj D (.deferred none)) N s a:=⟨λt=>VRel.shut (noCells_deferred h2) _ _ (hs.tmp t),hs.size,mrel_shut (noCells_deferred h2) (λl o hl e=>by have:=hs.mem.rcs l o hl;rw[e,h2]at this;cases this) hs.mem⟩;have hst:Step A.φ0 A.w0 φ (w.putObj D (.deferred none)) s.eff:=⟨λq c hq=>VRel.shut (noCells_deferred h2) _ _ (ha.st.tr q c hq),ha.st.os,ha.st.output,by rw[World.putObj_size];exact ha.st.size,
   λb hb ho hl=>by
    obtain⟨k1,k2⟩:=ha.st.rest b hb ho hl;exact⟨(World.putObj_heap_other (by omega)).trans k1,k2⟩⟩
  refine leaves_marks (A:=⟨A.φ0,A.w0,φ,w.putObj D (.deferred none),A.tl⟩) ds φ _ hs' ⟨hst,Rest.refl _ _⟩ ?_ (λw' k1 k2=>hQ w' k1 k2);have hkeep:∀(l:List Deferred),Marks φ w A.w0 A.tl l->(∀d'∈l,d'≠{ target:=.collected D,args:=#[] })->Marks φ (w.putObj D (.deferred none)) A.w0 A.tl l:=by
   intro l;induction l with
   |nil=>exact λh _=>h
   |cons d l ih=>
    intro h hne;rcases h with⟨⟨D',e,k1,k2,k3,k4⟩,k5⟩|h
    ·have hDD:D'≠D:=by rintro rfl;exact hne d (by simp) e
     exact .inl ⟨⟨D',e,k1,(World.putObj_heap_other hDD).trans k2,k3,k4⟩,ih k5 (λd' hd'=>hne d' (by simp[hd']))⟩
    ·exact .inr h
  exact hkeep ds hm h4
end
mutual
def PV.anon(n an:Nat):PV->PV
 |.ptr i o=>if i<n then .ptr i o else .bad
 |.hd i o z=>if i<n then .hd i o z else .bad
 |.sl (some i) sz off len cs=>.sl (if i<an then some i else none) sz off len (anonL n an cs)
 |.sl none sz off len cs=>.sl none sz off len (anonL n an cs)
 |.eref (some i) off cs=>.eref (if i<an then some i else none) off (anonL n an cs)
 |.eref none off cs=>.eref none off (anonL n an cs)
 |.fn f cs=>.fn f (anonL n an cs)
 |.agg cs=>.agg (anonL n an cs)
 |.tup cs=>.tup (anonL n an cs)
 |.int k m=>.int k m
 |.bool b=>.bool b
 |.str s=>.str s
 |.undef=>.undef
 |.bad=>.bad
 |.nilp=>.nilp
 |.nilfn=>.nilfn
 |.snil=>.snil
 |.dead k=>.dead k
 |.yld k=>.yld k
 |.mp it none sz cs=>.mp it none sz cs
 |.mp it (some i) sz cs=>.mp it (if i<an then some i else none) sz cs
def anonL(n an:Nat):List PV->List PV
 |[]=>[]
 |p::ps=>p.anon n an::anonL n an ps
end
theorem anonL_eq(n an:Nat)(l:List PV):anonL n an l=l.map (PV.anon n an):=by
 induction l with
 |nil=>rfl
 |cons p ps ih=>simp[anonL,ih]
section
variable{φ:Phi}{w:World}{m:Mem}{n an:Nat}
theorem place_anon(hm:MRel φ m w){i b sz off cap:Nat}(h:place φ w (some i) b sz off cap):place (φ.cut n an) w (if i<an then some i else none) b sz off cap:=by
 by_cases hi:i<an
 ·rw[if_pos hi];exact place_cut h (λk e=>by cases e;exact hi)
 ·rw[if_neg hi];refine⟨λho=>?_,arr_lt hm h.1⟩;rcases ho with⟨j,hj⟩|⟨j,hj⟩<;>simp only[Phi.cut]at hj<;>split at hj<;>first|cases hj|skip
  ·exact hm.sep j i b hj h.1
  ·rename_i hlt;have:=hm.arrinj j i b hj h.1;omega
mutual
theorem VRel.anon(hm:MRel φ m w):∀(q:PV)(c:Value),VRel φ w q c->VRel (φ.cut n an) w (q.anon n an) c
 |.int _ _,c,h | .bool _,c,h | .str _,c,h | .undef,c,h | .bad,c,h | .nilp,c,h | .nilfn,c,h | .snil,c,h | .dead _,c,h | .yld _,c,h=>by simp only[VRel,PV.anon]at h⊢<;>exact h
 |.ptr i o,c,h=>by
  simp only[PV.anon];split
  ·rename_i hi;simp only[VRel]at h⊢;obtain⟨b,h1,h2⟩:=h;exact⟨b,by simp[Phi.cut,hi,h1],h2⟩
  ·simp only[VRel]
 |.hd i o z,c,h=>by
  simp only[PV.anon];split
  ·rename_i hi;simp only[VRel]at h⊢;obtain⟨b,h1,h2⟩:=h;exact⟨b,by simp[Phi.cut,hi,h1],h2⟩
  ·simp only[VRel]
 |.sl none sz off len cs,c,h=>by
  simp only[VRel,PV.anon]at h⊢;obtain⟨hl,a,cap,hv,hc,h⟩:=h;refine⟨by rw[anonL_eq,List.length_map];exact hl,a,cap,hv,hc,?_⟩;rcases h with h|⟨b,hab,hp,hr⟩
  ·exact .inl h
  ·exact .inr ⟨b,hab,place_cut hp (λi e=>by cases e),VRelAt.anon hm b cs off hr⟩
 |.sl (some i) sz off len cs,c,h=>by
  simp only[VRel,PV.anon]at h⊢;obtain⟨hl,a,cap,hv,hc,h⟩:=h;refine⟨by rw[anonL_eq,List.length_map];exact hl,a,cap,hv,hc,?_⟩;rcases h with h|⟨b,hab,hp,hr⟩
  ·exact absurd h.1 (by simp)
  ·exact .inr ⟨b,hab,place_anon hm hp,VRelAt.anon hm b cs off hr⟩
 |.eref none off cs,c,h=>by
  simp only[VRel,PV.anon]at h⊢;obtain⟨b,hab,hp,hr⟩:=h;exact⟨b,hab,place_cut hp (λi e=>by cases e),VRelAt.anon hm b cs off hr⟩
 |.eref (some i) off cs,c,h=>by
  simp only[VRel,PV.anon]at h⊢;obtain⟨b,hab,hp,hr⟩:=h;exact⟨b,hab,place_anon hm hp,VRelAt.anon hm b cs off hr⟩
 |.fn f cs,c,h=>by
  simp only[VRel,PV.anon]at h⊢;obtain⟨vs,h1,h2⟩:=h;exact⟨vs,h1,VRelL.anon hm cs vs h2⟩
 |.agg cs,c,h=>by
  simp only[VRel,PV.anon]at h⊢;obtain⟨vs,h1,h2⟩:=h;exact⟨vs,h1,VRelL.anon hm cs vs h2⟩
 |.tup cs,c,h=>by
  simp only[VRel,PV.anon]at h⊢;obtain⟨vs,h1,h2⟩:=h;exact⟨vs,h1,VRelL.anon hm cs vs h2⟩
 |.mp it none sz cs,c,h=>by
  simp only[VRel,PV.anon]at h⊢;exact h.move (λb o hp hh _ _ _=>⟨λk=>hp (own_cut k),hh⟩) λb o hp hh _ _ _=>⟨λk=>hp (own_cut k),hh⟩
 |.mp it (some i) sz cs,c,h=>by
  simp only[VRel,PV.anon]at h⊢;refine h.move (λb o hp hh _ _ _=>⟨?_,hh⟩) λb o hp hh _ _ _=>⟨λk=>hp (own_cut k),hh⟩;simp only[mplace]at hp;by_cases hi:i<an
  ·simp[hi,mplace,Phi.cut,hp]
  ·simp only[hi,if_false,mplace];rintro(⟨k,hk⟩|⟨k,hk⟩)<;>simp only[Phi.cut]at hk<;>split at hk<;>first|cases hk|skip
   ·exact hm.sep k i b hk hp
   ·rename_i hlt;have:=hm.arrinj k i b hk hp;omega
theorem VRelL.anon(hm:MRel φ m w):∀(l:List PV)(vs:List Value),VRelL φ w l vs->VRelL (φ.cut n an) w (anonL n an l) vs
 |[],vs,h=>by simp only[VRelL,anonL]at h⊢;exact h
 |p::ps,vs,h=>by
  simp only[VRelL,anonL]at h⊢;obtain⟨v,vs',e,h0,h1⟩:=h;exact⟨v,vs',e,VRel.anon hm p v h0,VRelL.anon hm ps vs' h1⟩
theorem VRelAt.anon(hm:MRel φ m w)(b:Nat):∀(l:List PV)(off:Nat),VRelAt φ w b l off->VRelAt (φ.cut n an) w b (anonL n an l) off
 |[],_,_=>by simp only[VRelAt,anonL]
 |p::ps,off,h=>by
  simp only[VRelAt,anonL]at h⊢;obtain⟨⟨c,hc,h0⟩,h1⟩:=h;exact⟨⟨c,hc,VRel.anon hm p c h0⟩,VRelAt.anon hm b ps (off+1) h1⟩
end
mutual
theorem anon_fixed:∀(q:PV),(∀e,q.sub1 e=q)->q.anon n an=q.cutb n
 |.int _ _,_ | .bool _,_ | .str _,_ | .undef,_ | .bad,_ | .nilp,_ | .nilfn,_ | .snil,_ | .dead _,_ | .yld _,_ | .ptr _ _,_ | .hd _ _ _,_=>by simp only[PV.anon,PV.cutb]
 |.sl none sz off len cs,h=>by
  simp only[PV.anon,PV.cutb];rw[anonL_fixed cs (λe=>by have:=h e;simp only[PV.sub1]at this;injection this)]
 |.sl (some i) sz off len cs,h=>by
  have:=h (.kill i);simp only[PV.sub1,if_true]at this;cases this
 |.eref none off cs,h=>by
  simp only[PV.anon,PV.cutb];rw[anonL_fixed cs (λe=>by have:=h e;simp only[PV.sub1]at this;injection this)]
 |.eref (some i) off cs,h=>by
  have:=h (.kill i);simp only[PV.sub1,if_true]at this;cases this
 |.fn f cs,h=>by
  simp only[PV.anon,PV.cutb];rw[anonL_fixed cs (λe=>by have:=h e;simp only[PV.sub1]at this;injection this)]
 |.agg cs,h=>by
  simp only[PV.anon,PV.cutb];rw[anonL_fixed cs (λe=>by have:=h e;simp only[PV.sub1]at this;injection this)]
 |.tup cs,h=>by
  simp only[PV.anon,PV.cutb];rw[anonL_fixed cs (λe=>by have:=h e;simp only[PV.sub1]at this;injection this)]
 |.mp it none sz cs,h=>by simp only[PV.anon,PV.cutb]
 |.mp it (some i) sz cs,h=>by
  have:=h (.kill i);simp only[PV.sub1,if_true]at this;cases this
theorem anonL_fixed:∀(l:List PV),(∀e,subL1 e l=l)->anonL n an l=cutbL n l
 |[],_=>by simp only[anonL,cutbL]
 |p::ps,h=>by
  simp only[anonL,cutbL];rw[anon_fixed p (λe=>by have:=h e;simp only[subL1]at this;injection this),anonL_fixed ps (λe=>by have:=h e;simp only[subL1]at this;injection this)]
end
end
def leaves(s:St)(pv pv':PV)(m m':Mem):Prop:=(m'=s.m/\pv'=pv) \/
 (s.eff=[]/\m.n<=m'.n/\m.an<=m'.an/\m'.n<=s.m.n/\m'.rc=s.m.rc/\pv'=pv.anon m'.n m'.an /\
  ∀i,i<m'.n->(i<m.n/\m'.β i=m.β i/\s.m.β i=m.β i)\/∃l,s.m.β i=.cells l/\m'.β i=.cells (anonL m'.n m'.an l))
mutual
theorem bd_mono{n an n' an':Nat}(hn:n<=n')(ha:an<=an'):∀(q:PV),q.bd n an->q.bd n' an'
 |.int _ _,_ | .bool _,_ | .str _,_ | .undef,_ | .bad,_ | .nilp,_ | .nilfn,_ | .snil,_ | .dead _,_ | .yld _,_=>by simp only[PV.bd]
 |.ptr i _,h=>by simp only[PV.bd]at h⊢;omega
 |.hd i _ _,h=>by simp only[PV.bd]at h⊢;omega
 |.sl none _ _ _ cs,h=>by simp only[PV.bd]at h⊢;exact bdL_mono hn ha cs h
 |.sl (some i) _ _ _ cs,h=>by simp only[PV.bd]at h⊢;exact⟨by omega,bdL_mono hn ha cs h.2⟩
 |.eref none _ cs,h=>by simp only[PV.bd]at h⊢;exact bdL_mono hn ha cs h
 |.eref (some i) _ cs,h=>by simp only[PV.bd]at h⊢;exact⟨by omega,bdL_mono hn ha cs h.2⟩
 |.fn _ cs,h | .agg cs,h | .tup cs,h=>by simp only[PV.bd]at h⊢;exact bdL_mono hn ha cs h
 |.mp _ none _ _,h=>by simp only[PV.bd]
 |.mp _ (some i) _ _,h=>by simp only[PV.bd]at h⊢;omega
theorem bdL_mono{n an n' an':Nat}(hn:n<=n')(ha:an<=an'):∀(l:List PV),bdL n an l->bdL n' an' l
 |[],_=>by simp only[bdL]
 |p::ps,h=>by simp only[bdL]at h⊢;exact⟨bd_mono hn ha p h.1,bdL_mono hn ha ps h.2⟩
end
theorem ends_ok{P:Program}{ys:List YRec}{fn:Func}{args:List PV}{m:Mem}{Q:PV->List Eff->Mem->Prop}{φ φ':Phi}{w w2:World}{N:Nat}{s':St}{a':Act}{pv pv':PV}{m':Mem}
  (hm:MRel φ m w) (hA:Old ⟨φ,w,φ,w,[]⟩ (entryY ys args m)) (hres:aRes P s' fn.results.toList=some pv) (hl:leaves s' pv pv' m m') (hq:Q pv' s'.eff m') (s2:SRel φ' w2 N s' a') (t2:Step φ w φ' w2 s'.eff):
  LeavesX P fn a'.tmps (λe w'=>∃v pv E m' φ',e=.returned v/\VRel φ' w' pv v/\MRel φ' m' w'/\Step φ w φ' w' E/\Q pv E m') [] w2:=by
 intro τ d;replace s2:=s2.re τ d;replace t2:Step φ w φ' (re w2 τ d) s'.eff:=by
  have:=t2.trans (step_re φ' w2 τ d);rwa[List.append_nil]at this
 generalize re w2 τ d=w2 at *;obtain⟨v,hr,hp⟩:=run_results (P:=P) s2 hres;refine⟨v,w2,hr,?_⟩;rcases hl with⟨rfl,rfl⟩|⟨h1,h2,h3,h4,hrc,rfl,h7⟩
 ·exact⟨v,pv',s'.eff,s'.m,φ',rfl,hp,s2.mem,t2,hq⟩
 ·refine⟨v,_,s'.eff,m',φ'.cut m'.n m'.an,rfl,VRel.anon s2.mem _ _ hp,mrel_cut s2.mem hrc h4 (λi hi g=>?_) λi vs hi hr=>?_,?_,hq⟩
  ·rcases h7 i hi with⟨_,e1,e2⟩|⟨l,e1,_⟩
   ·rw[e1,←e2,g]
   ·rw[g]at e1;cases e1
  ·rcases h7 i hi with⟨hi',e1,e2⟩|⟨l,e1,e2⟩
   ·rw[e1];rw[e2]at hr;cases hc:m.β i with
    |cells l=>
     rw[hc]at hr;obtain⟨b,cs,e3,g1,g2,g3⟩:=hm.cells hi' (by rw[hc];simp);rw[hc]at g3;have hbd:bdL m.n m.an l:=bdL_of_rel hA.2.1 hA.1 l _ g3;exact VRelL.cut l vs hr (bdL_mono h2 h3 l hbd)
    |inv I=>
     rw[hc]at hr;obtain⟨l,g1,g2,g3,g4⟩:=hr;refine⟨l,g1,g2,g3,?_⟩;have:=VRelL.anon (n:=m'.n) (an:=m'.an) s2.mem l vs g4;rwa[anonL_fixed l g2,g3]at this
    |hole=>rw[hc]at hr;exact hr.elim
   ·rw[e1]at hr;rw[e2];exact VRelL.anon s2.mem l vs hr
  ·rw[h1]at t2⊢;exact step_cut (λ_ h=>by cases h) t2 (λi b hb=>Nat.lt_of_lt_of_le (hA.2.1 i b hb) h2) (λi b hb=>Nat.lt_of_lt_of_le (hA.1 i b hb) h3)
theorem ebodyY_of_sem{P:Program}{ys:List YRec}{f:FuncId}{fn:Func}{c:Code}{args:List PV}{m:Mem}{Q:PV->List Eff->Mem->Prop}
  (hf:P.funcs[f]?=some fn) (hb:fn.body=some c) (hN:args.length<=fn.ntmps) (hd:dstsOk fn.ntmps c=true) (hsp:badC P c=false)
  (h:CodeSem P c (entryY ys args m) λe s'=>(e=.normal\/e=.ret)/\∃pv,aRes P s' fn.results.toList=some pv/\∃pv' m',leaves s' pv pv' m m'/\Q pv' s'.eff m'):∀φ vs w,MRel φ m w->VRelL φ w args vs->ReadY ys φ w ->
  BodyX P f vs.toArray w λe w'=>∃v pv E m' φ',e=.returned v/\VRel φ' w' pv v/\MRel φ' m' w'/\Step φ w φ' w' E/\Q pv E m':=by
 intro φ vs w hm hv hys;refine⟨fn,c,hf,hb,hsp,?_⟩;have hlen:vs.length=args.length:=(vrelL_length hv).symm;have hs:SRel φ w fn.ntmps (entryY ys args m) { tmps:=vs.toArray++Array.replicate (fn.ntmps-vs.toArray.size) undef,defers:=[] }:=by
  refine⟨λt=>?_,by simp[hlen];omega,hm⟩;simp only[entryY,Array.getD_eq_getD_getElem?];by_cases ht:t<args.length
  ·have h1:args[t]?=some args[t]:=by simp[ht]
   obtain⟨v,h2,h3⟩:=vrelL_get hv h1;rw[h1,Array.getElem?_append_left (by simpa[hlen]using ht)];simp only[List.getElem?_toArray,h2,Option.getD_some];exact h3
  ·rw[List.getElem?_eq_none (by omega),Array.getElem?_append_right (by simp[hlen];omega)];simp only[Option.getD_none,Array.getElem?_replicate];split<;>simp[VRel,undef]
 have hA:Old ⟨φ,w,φ,w,[]⟩ (entryY ys args m):=⟨λi b hi=>(hm.arr i b hi).1,λi b hi=>Nat.lt_of_not_le λhle=>(by rw[hm.boxn i hle]at hi;cases hi),hys⟩;refine wpX_mono (h ⟨φ,w,φ,w,[]⟩ φ w fn.ntmps 0 none _ (okC_none hd) hs ⟨Step.refl φ w,Rest.refl φ w⟩ hA rfl) ?_;rintro e a' w' ⟨ex,s',φ',he,k1,k2,k3,kA,hex,pv,hres,pv',m',hl,hq⟩;have key:LeavesX P fn a'.tmps (λe w'=>∃v pv E m' φ',e=.returned v/\VRel φ' w' pv v/\MRel φ' m' w'/\Step φ w φ' w' E/\Q pv E m') a'.defers w':=by
  refine leaves_marks a'.defers φ' w' k1 k2 k3 λw2 s2 t2=>?_;exact ends_ok hm hA hres hl hq s2 t2
 rcases hex with rfl|rfl
 ·cases e<;>simp only[Ex.of,Option.some.injEq]at he<;>first|(cases he;done)|exact key
 ·cases e<;>simp only[Ex.of,Option.some.injEq]at he<;>first|(cases he;done)|exact key
theorem ecallsY_of_sem{P:Program}{ys:List YRec}{f:FuncId}{fn:Func}{c:Code}{args:List PV}{m:Mem}{Q:PV->List Eff->Mem->Prop}
  (hf:P.funcs[f]?=some fn) (hb:fn.body=some c) (hN:args.length<=fn.ntmps) (hd:dstsOk fn.ntmps c=true) (hsp:badC P c=false)
  (h:CodeSem P c (entryY ys args m) λe s'=>(e=.normal\/e=.ret)/\∃pv,aRes P s' fn.results.toList=some pv/\∃pv' m',leaves s' pv pv' m m'/\Q pv' s'.eff m'):ECallsY P ys f args m Q:=
 λφ vs w hm hv hys=>(ebodyY_of_sem hf hb hN hd hsp h φ vs w hm hv hys).calls
def EBody(P:Program)(f:FuncId)(args:List PV)(m:Mem)(Q:PV->List Eff->Mem->Prop):Prop:=
 ∀φ vs w,MRel φ m w->VRelL φ w args vs->BodyX P f vs.toArray w λe w'=>∃v pv E m' φ',e=.returned v/\VRel φ' w' pv v/\MRel φ' m' w'/\Step φ w φ' w' E/\Q pv E m'
theorem EBody.calls{P:Program}{f:FuncId}{args:List PV}{m:Mem}{Q:PV->List Eff->Mem->Prop}(h:EBody P f args m Q):ECalls P f args m Q:=λφ vs w hm hv=>(h φ vs w hm hv).calls
theorem ebody_of_sem{P:Program}{f:FuncId}{fn:Func}{c:Code}{args:List PV}{m:Mem}{Q:PV->List Eff->Mem->Prop}
  (hf:P.funcs[f]?=some fn) (hb:fn.body=some c) (hN:args.length<=fn.ntmps) (hd:dstsOk fn.ntmps c=true) (hsp:badC P c=false)
  (h:CodeSem P c (entry args m) λe s'=>(e=.normal\/e=.ret)/\∃pv,aRes P s' fn.results.toList=some pv/\∃pv' m',leaves s' pv pv' m m'/\Q pv' s'.eff m'):EBody P f args m Q:=
 λφ vs w hm hv=>ebodyY_of_sem (ys:=[]) hf hb hN hd hsp h φ vs w hm hv (λy hy=>(by cases hy))
theorem ecalls_of_sem{P:Program}{f:FuncId}{fn:Func}{c:Code}{args:List PV}{m:Mem}{Q:PV->List Eff->Mem->Prop}
  (hf:P.funcs[f]?=some fn) (hb:fn.body=some c) (hN:args.length<=fn.ntmps) (hd:dstsOk fn.ntmps c=true) (hsp:badC P c=false)
  (h:CodeSem P c (entry args m) λe s'=>(e=.normal\/e=.ret)/\∃pv,aRes P s' fn.results.toList=some pv/\∃pv' m',leaves s' pv pv' m m'/\Q pv' s'.eff m'):ECalls P f args m Q:=
 λφ vs w hm hv=>ecallsY_of_sem (ys:=[]) hf hb hN hd hsp h φ vs w hm hv (λy hy=>(by cases hy))
def Back(m:Mem)(s:St):Prop:=s.eff=[]/\m.n<=s.m.n/\m.an<=s.m.an/\m.rc=s.m.rc/\∀i,i<m.n->s.m.β i=m.β i
def Ans(P:Program)(f:FuncId)(args:List PV)(m:Mem)(v:PV):Prop:=ECalls P f args m λv' E m'=>v'=v/\E=[]/\m'=m
end
section
open Go Go.RowKit
variable[Sp]
section
variable{Λ V:Type}{L L':Nat->Prop}{out out':Nat->Λ->Option V}{σ0 σ0' σ σ':Λ->V}{i:Nat}{o:Λ->Option V}
def Ov(L:Nat->Prop)(out:Nat->Λ->Option V)(σ0 σ:Λ->V):Prop:=
 ∀l,(∃j v,L j/\out j l=some v/\(∀j',L j'->(out j' l).isSome->j'<=j)/\σ l=v)\/((∀j,L j->out j l=none)/\σ l=σ0 l)
def app(o:Λ->Option V)(σ:Λ->V):Λ->V:=λl=>(o l).getD (σ l)
theorem ov_empty:Ov (λ_=>False) out σ0 σ0:=λ_=>.inr ⟨λ_ h=>h.elim,rfl⟩
theorem ov_congr(h:Ov L out σ0 σ)(hL:∀j,L j↔L' j)(ho:∀j,L j->out j=out' j):Ov L' out' σ0 σ:=by
 intro l;rcases h l with⟨j,v,h1,h2,h3,h4⟩|⟨h1,h2⟩
 ·exact .inl ⟨j,v,(hL j).1 h1,by rw[←ho j h1];exact h2,λj' hj' hs=>h3 j' ((hL j').2 hj') (by rw[ho j' ((hL j').2 hj')];exact hs),h4⟩
 ·exact .inr ⟨λj hj=>by rw[←ho j ((hL j).2 hj)];exact h1 j ((hL j).2 hj),h2⟩
theorem ov_add(h:Ov L out σ0 σ)(hi:¬L i)(hlast:∀j,L j->i<j->∀l,(o l).isSome->out j l=none):
  Ov (λj=>L j\/j=i) (λj=>if j=i then o else out j) σ0 (app o σ):=by
 have hne:∀j,L j->j≠i:=λj hj e=>hi (e▸hj);intro l;cases ho:o l with
 |some v=>
  refine .inl ⟨i,v,.inr rfl,by simp[ho],λj' hj' hs=>?_,by simp[app,ho]⟩;rcases hj' with hj'|rfl
  ·simp only[hne j' hj',if_false]at hs;refine Nat.le_of_not_lt λhlt=>?_;rw[hlast j' hj' hlt l (by rw[ho];rfl)]at hs;cases hs
  ·exact Nat.le_refl _
 |none=>
  rcases h l with⟨j,v,h1,h2,h3,h4⟩|⟨h1,h2⟩
  ·refine .inl ⟨j,v,.inl h1,by simp only[hne j h1,if_false];exact h2,λj' hj' hs=>?_,by simp[app,ho,h4]⟩;rcases hj' with hj'|rfl
   ·simp only[hne j' hj',if_false]at hs;exact h3 j' hj' hs
   ·simp[ho]at hs
  ·refine .inr ⟨λj hj=>?_,by simp[app,ho,h2]⟩;rcases hj with hj|rfl
   ·simp only[hne j hj,if_false];exact h1 j hj
   ·simp[ho]
theorem ov_agree{l:Λ}(h:Ov L out σ0 σ)(h':Ov L' out' σ0' σ')(h1:∀j,L j->(out j l).isSome->L' j)(h2:∀j,L' j->(out' j l).isSome->L j)
  (ho:∀j,L j->L' j->out j l=out' j l) (h0:σ0 l=σ0' l\/∃j,L' j/\(out' j l).isSome):σ l=σ' l:=by
 rcases h l with⟨j,v,a1,a2,a3,a4⟩|⟨a1,a2⟩
 ·have hj':=h1 j a1 (by rw[a2];rfl);rcases h' l with⟨k,u,b1,b2,b3,b4⟩|⟨b1,b2⟩
  ·have hk:=h2 k b1 (by rw[b2];rfl);have e1:=a3 k hk (by rw[ho k hk b1,b2];rfl);have e2:=b3 j hj' (by rw[←ho j a1 hj',a2];rfl);have:j=k:=by omega
   subst this;rw[ho j a1 hj',b2]at a2;rw[a4,b4];exact(Option.some.inj a2).symm
  ·have:=b1 j hj';rw[←ho j a1 hj',a2]at this;cases this
 ·rcases h' l with⟨k,u,b1,b2,b3,b4⟩|⟨b1,b2⟩
  ·have hk:=h2 k b1 (by rw[b2];rfl);have:=a1 k hk;rw[ho k hk b1,b2]at this;cases this
  ·rcases h0 with h0|⟨j,hj,hs⟩
   ·rw[a2,b2,h0]
   ·rw[b1 j hj]at hs;cases hs
end
inductive LocA where
 |slot (t:Nat)
 |box (i:Nat)
 |cnt
inductive LV where
 |pv (p:PV)
 |bx (c:BoxC)
 |nat (n:Nat)
structure Res where
 v:PV
 bx:Option (Nat×List PV)
 an:Option Nat
def Res.out(d:Option Tmp)(r:Res):LocA->Option LV
 |.slot t=>if d=some t then some (.pv r.v)else none
 |.box i=>match r.bx with
  |some (id,cs)=>if id=i then some (.bx (.cells cs))else none
  |none=>none
 |.cnt=>r.an.map .nat
def St.loc(s:St):LocA->LV
 |.slot t=>.pv (s.g t)
 |.box i=>.bx (s.m.β i)
 |.cnt=>.nat s.m.an
def St.res(s:St)(d:Option Tmp)(r:Res)(n':Nat):St:=
 { (s.put d r.v)with m:=⟨match r.bx with|some (id,cs)=>updB s.m.β id (.cells cs)|none=>s.m.β,n',r.an.getD s.m.an,s.m.rc⟩ }
theorem res_loc(s:St)(d:Option Tmp)(r:Res)(n':Nat):(s.res d r n').loc=app (r.out d) s.loc:=by
 funext l;cases l with
 |slot t=>
  cases d with
  |none=>simp[St.loc,St.res,app,Res.out]
  |some d=>
   by_cases h:t=d
   ·subst h;simp[St.loc,St.res,app,Res.out,St.put]
   ·have:¬d=t:=λe=>h e.symm;simp[St.loc,St.res,app,Res.out,St.put,h,this]
 |box i=>
  obtain⟨v,bx,an⟩:=r;cases bx with
  |none=>simp[St.loc,St.res,app,Res.out]
  |some p=>
   obtain⟨id,cs⟩:=p;by_cases h:id=i
   ·subst h;simp[St.loc,St.res,app,Res.out,updB]
   ·have:¬i=id:=λe=>h e.symm;simp[St.loc,St.res,app,Res.out,updB,h,this]
 |cnt=>
  obtain⟨v,bx,an⟩:=r;cases an<;>simp[St.loc,St.res,app,Res.out]
theorem st_ext{s s':St}(h:s.loc=s'.loc)(hn:s.m.n=s'.m.n)(h0:s.a0=s'.a0)(he:s.eff=s'.eff)(hr:s.m.rc=s'.m.rc):s=s':=by
 have h1:s.g=s'.g:=funext λt=>by have:=congrFun h (.slot t);simpa[St.loc]using this
 have h2:s.m.β=s'.m.β:=funext λt=>by have:=congrFun h (.box t);simpa[St.loc]using this
 have h3:s.m.an=s'.m.an:=by have:=congrFun h .cnt;simpa[St.loc]using this
 obtain⟨g,⟨β,n,an,rc⟩,a0,eff⟩:=s;obtain⟨g',⟨β',n',an',rc'⟩,a0',eff'⟩:=s';simp only at h1 h2 h3 hn h0 he hr;subst h1;subst h2;subst h3;subst hn;subst h0;subst he;subst hr;rfl
abbrev Tab:=FuncId->List PV->Nat->PV->Nat->Prop
def Near(m0 m:Mem):Prop:=m0.n<=m.n/\∀i,i<m0.n->m.β i=m0.β i
def isMk(o:Oper):Bool:=match o.op with
 |.alloc _ | .box _ _=>true
 |_=>false
def isStore(o:Oper):Bool:=match o.op with
 |.store _ _ _=>true
 |_=>false
def isCall(o:Oper):Bool:=match o.op with
 |.call c=>match c.callee with
  |.value _=>true
  |_=>false
 |_=>false
noncomputable def pureV(P:Program)(m0:Mem)(e:Operand->PV)(o:Oper):Option PV:=match o.op with
 |.move x | .assign x=>some (e x)
 |.pick c x y=>match e c with
  |.bool t=>some (if t then e x else e y)
  |_=>none
 |.binOp op t x y _=>aBin P op t (e x) (e y)
 |.unOp op _ x=>aUn op (e x)
 |.convert src dst x=>aConv P src dst (e x)
 |.nilCheck x=>match e x with
  |.ptr i off=>some (.ptr i off)
  |.fn f caps=>some (.fn f caps)
  |_=>none
 |.extract x i=>match e x with
  |.tup vs=>vs[i]?
  |_=>none
 |.fieldAddr t x f=>aField P t (e x) f
 |.field t x f=>aFieldV P t (e x) f
 |.indexAddr t x i=>aIndexAddr P t (e x) (e i)
 |.index t x i=>aIndex P t (e x) (e i)
 |.load t x=>aLoad P m0 t (e x)
 |.build t parts=>aBuild P t (parts.toList.map λp=>(p.1,e p.2))
 |.buildSlice t len parts=>match P.underlying t with
  |some (.slice el)=>match zeroCs P el with
   |some z=>if(P.info? el).isSome/\z.length=P.cellsOf el/\0<z.length/\len*P.cellsOf el<=16777216 then
     (aFill (λi=>some (i*P.cellsOf el,P.cellsOf el)) (repl z len) (parts.toList.map λp=>(p.1,e p.2))).map λcs=>.sl none (P.cellsOf el) 0 len cs
    else none
   |none=>none
  |_=>none
 |.slice t x lo hi none=>aSlice P t (e x) (lo.map e) (hi.map e)
 |.makeFunc (.func f) first caps=>if f<fnB/\first=#[]then some (.fn f (caps.toList.map e))else if caps=#[]then some (.fn (f+fnB) (first.toList.map e))else none
 |.lookup t m k ok=>match P.underlying t,e m with
  |some (.map kt _),.mp (.tab sc) _ sz cs=>@ite _ (Maps.Keyed P kt) (Classical.propDecidable _) (aTabGet P t sc sz cs (e k) ok) none
  |_,_=>none
 |.call c=>match c.callee with
  |.builtin .len=>match c.argTypes[0]?,c.args.toList with
   |some t,[x]=>aLen P t (e x)
   |_,_=>none
  |.builtin .min=>aMin (c.args.toList.map e)
  |.builtin .max=>aMax (c.args.toList.map e)
  |_=>none
 |_=>none
def callOk(P:Program)(m0:Mem)(T:Tab)(g:FuncId)(args:List PV)(an:Nat):Prop:=
 (∃v an',T g args an v an')/\∀m,Near m0 m->m.an=an->ECalls P g args m λv E m'=>E=[]/\m'={ m with an:=m'.an }/\m.an<=m'.an/\T g args an v m'.an
def opPre(P:Program)(m0:Mem)(T:Tab)(e:Operand->PV)(β:Nat->BoxC)(nm an:Nat)(o:Oper):Prop:=match o.op with
 |.alloc t=>∃z,zeroCs P t=some z
 |.box _ x=>(e x).known=true
 |.store t x y=>o.dst=none/\(P.info? t).isSome/\(e y).cells.length=P.cellsOf t/\(e y).cells.all PV.one=true/\∃id l,e x=.ptr id 0/\m0.n<=id/\id<nm/\β id=.cells l/\l.length=(e y).cells.length
 |.call c=>match c.callee with
  |.value f=>match e f with
   |.fn g caps=>(∃fn,P.funcs[fnG g]?=some fn/\fn.name ≠ "runtime.NumGoroutine" /\ fn.body.isSome)/\callOk P m0 T (fnG g) (fnA g (c.args.toList.map e) caps) an
   |_=>False
  |_=>∃v,pureV P m0 e o=some v
 |_=>∃v,pureV P m0 e o=some v
def opOut(P:Program)(m0:Mem)(T:Tab)(e:Operand->PV)(nm an:Nat)(o:Oper)(r:Res):Prop:=match o.op with
 |.alloc t=>∃z,zeroCs P t=some z/\r=⟨.ptr nm 0,some (nm,z),none⟩
 |.box _ x=>r=⟨.ptr nm 0,some (nm,(e x).cells),none⟩
 |.store _ x y=>∃id,e x=.ptr id 0/\m0.n<=id/\id<nm/\r=⟨.undef,some (id,(e y).cells),none⟩
 |.call c=>match c.callee with
  |.value f=>match e f with
   |.fn g caps=>∃v an',T (fnG g) (fnA g (c.args.toList.map e) caps) an v an'/\r=⟨v,none,some an'⟩
   |_=>False
  |_=>∃v,pureV P m0 e o=some v/\r=⟨v,none,none⟩
 |_=>∃v,pureV P m0 e o=some v/\r=⟨v,none,none⟩
def lexOp(P:Program)(m0:Mem)(T:Tab)(s:St)(o:Oper)(K:St->Prop):Prop:=match o.op with
 |.alloc t=>∃z,zeroCs P t=some z/\K (s.newBox o.dst z)
 |.box _ x=>(s.ev x).known=true/\K (s.newBox o.dst (s.ev x).cells)
 |.store t x y=>o.dst=none/\(P.info? t).isSome/\(s.ev y).cells.length=P.cellsOf t/\(s.ev y).cells.all PV.one=true/\∃id l,s.ev x=.ptr id 0/\m0.n<=id/\id<s.m.n/\s.m.β id=.cells l/\l.length=(s.ev y).cells.length /\
   K (s.setBox id (s.ev y).cells)
 |.call c=>match c.callee with
  |.value f=>match s.ev f with
   |.fn g caps=>(∃fn,P.funcs[fnG g]?=some fn/\fn.name ≠ "runtime.NumGoroutine" /\ fn.body.isSome)/\callOk P m0 T (fnG g) (fnA g (c.args.toList.map s.ev) caps) s.m.an /\
     ∀v an',T (fnG g) (fnA g (c.args.toList.map s.ev) caps) s.m.an v an'->K ({ s with m:={ s.m with an:=an' } }.put o.dst v)
   |_=>False
  |_=>∃v,pureV P m0 s.ev o=some v/\K (s.put o.dst v)
 |_=>∃v,pureV P m0 s.ev o=some v/\K (s.put o.dst v)
def lexW(P:Program)(m0:Mem)(T:Tab)(ops:Array Oper):List Oper->St->(St->Prop)->Prop
 |[],s,K=>K s
 |o::rest,s,K=>guardW ops s o (lexOp P m0 T s o λs'=>lexW P m0 T ops rest s' K) (lexW P m0 T ops rest (s.put o.dst .undef) K)
section
variable{P:Program}{m0:Mem}{T:Tab}{s:St}{o:Oper}{K:St->Prop}{e e':Operand->PV}{β β':Nat->BoxC}{nm an an':Nat}{r:Res}
theorem pre_out(h:opPre P m0 T e β nm an o):∃r,opOut P m0 T e nm an o r:=by
 unfold opPre at h;unfold opOut;split at h
 ·obtain⟨z,hz⟩:=h;exact⟨_,z,hz,rfl⟩
 ·exact⟨_,rfl⟩
 ·obtain⟨_,_,_,_,id,l,h1,h2,h3,_,_⟩:=h;exact⟨_,id,h1,h2,h3,rfl⟩
 ·split at h
  ·split at h
   ·obtain⟨_,⟨v,an',hT⟩,_⟩:=h;exact⟨_,v,an',hT,rfl⟩
   ·exact h.elim
  ·obtain⟨v,hv⟩:=h;exact⟨_,v,hv,rfl⟩
 ·obtain⟨v,hv⟩:=h;exact⟨_,v,hv,rfl⟩
def mkN(o:Oper):Nat:=if isMk o then 1 else 0
theorem res_put(s:St)(d:Option Tmp)(v:PV):s.res d ⟨v,none,none⟩ s.m.n=s.put d v:=by cases d<;>simp[St.res,St.put]
theorem res_box(s:St)(d:Option Tmp)(z:List PV):s.res d ⟨.ptr s.m.n 0,some (s.m.n,z),none⟩ (s.m.n+1)=s.newBox d z:=by cases d<;>simp[St.res,St.put,St.newBox]
theorem res_set(s:St)(id:Nat)(z:List PV):s.res none ⟨.undef,some (id,z),none⟩ s.m.n=s.setBox id z:=by simp[St.res,St.put,St.setBox]
theorem res_an(s:St)(d:Option Tmp)(v:PV)(an':Nat):s.res d ⟨v,none,some an'⟩ s.m.n={ s with m:={ s.m with an:=an' } }.put d v:=by cases d<;>simp[St.res,St.put]
theorem lex_pre(h:lexOp P m0 T s o K):opPre P m0 T s.ev s.m.β s.m.n s.m.an o/\∀r,opOut P m0 T s.ev s.m.n s.m.an o r->K (s.res o.dst r (s.m.n+mkN o)):=by
 unfold lexOp at h;unfold opPre opOut;split at h
 ·rename_i hop;obtain⟨z,hz,hK⟩:=h;refine⟨⟨z,hz⟩,?_⟩;rintro r ⟨z',hz',rfl⟩;rw[hz]at hz';injection hz' with hz';subst hz';simp only[mkN,isMk,hop,if_true,res_box];exact hK
 ·rename_i hop;refine⟨h.1,?_⟩;rintro r rfl;simp only[mkN,isMk,hop,if_true,res_box];exact h.2
 ·rename_i hop;obtain⟨h1,h2,h3,h4,id,l,h5,h6,h7,h8,h9,hK⟩:=h;refine⟨⟨h1,h2,h3,h4,id,l,h5,h6,h7,h8,h9⟩,?_⟩;rintro r ⟨id',h5',_,_,rfl⟩;rw[h5]at h5';injection h5' with e1;subst e1;simp only[mkN,isMk,hop,Bool.false_eq_true,if_false,Nat.add_zero,h1,res_set];exact hK
 ·rename_i c hop;have hmk:mkN o=0:=by simp[mkN,isMk,hop]
  split at h
  ·split at h
   ·obtain⟨h1,h2,h3⟩:=h;refine⟨⟨h1,h2⟩,?_⟩;rintro r ⟨v,an',hT,rfl⟩;rw[hmk,Nat.add_zero,res_an];exact h3 v an' hT
   ·exact h.elim
  ·obtain⟨v,hv,hK⟩:=h;refine⟨⟨v,hv⟩,?_⟩;rintro r ⟨v',hv',rfl⟩;rw[hv]at hv';injection hv' with e;subst e;rw[hmk,Nat.add_zero,res_put];exact hK
 ·rename_i h1 h2 h3 h4;have hmk:mkN o=0:=by
   unfold mkN isMk;split
   ·rename_i hop;exact absurd hop (h1 _)
   ·rename_i hop;exact absurd hop (h2 _ _)
   ·simp
  obtain⟨v,hv,hK⟩:=h;refine⟨⟨v,hv⟩,?_⟩;rintro r ⟨v',hv',rfl⟩;rw[hv]at hv';injection hv' with e;subst e;rw[hmk,Nat.add_zero,res_put];exact hK
theorem map_agree{l:List Operand}(he:∀x∈l,e x=e' x):l.map e=l.map e':=List.map_congr_left he
theorem parts_agree{l:List (Nat×Operand)}(he:∀x∈l.map (·.2),e x=e' x):(l.map λp=>(p.1,e p.2))=l.map λp=>(p.1,e' p.2):=
 List.map_congr_left λp hp=>by rw[he p.2 (List.mem_map.2 ⟨p,hp,rfl⟩)]
theorem pureV_congr(he:∀x∈o.op.operands,e x=e' x):pureV P m0 e o=pureV P m0 e' o:=by
 obtain⟨dst,op,type,pos,after,guard⟩:=o;simp only at he;cases op with
 |call c=>
  obtain⟨callee,args,argTypes⟩:=c;simp only[pureV];have ha:args.toList.map e=args.toList.map e':=map_agree λx hx=>he x (by simp[Op.operands,Call.operands];exact .inr (by simpa using hx));cases callee with
  |builtin b=>
   cases b<;>simp only[ha];split
   ·rename_i t x h1 h2;have:e x=e' x:=he x (by
     have:x∈args.toList:=by rw[h2];simp
     simp[Op.operands,Call.operands];simpa using this)
    rw[this]
   ·rfl
  |_=>rfl
 |slice t x lo hi mx=>
  cases mx with
  |some y=>rfl
  |none=>
   have h1:e x=e' x:=he x (by simp[Op.operands]);have h2:lo.map e=lo.map e':=by cases lo<;>simp;exact he _ (by simp[Op.operands])
   have h3:hi.map e=hi.map e':=by cases hi<;>simp;exact he _ (by simp[Op.operands])
   simp only[pureV,h1,h2,h3]
 |makeFunc f first caps=>
  have ha:caps.toList.map e=caps.toList.map e':=map_agree λx hx=>he x (by simp[Op.operands];exact .inr (by simpa using hx));have hb:first.toList.map e=first.toList.map e':=map_agree λx hx=>he x (by simp[Op.operands];exact .inl (by simpa using hx));cases f<;>simp only[pureV,ha,hb]
 |build t parts=>
  have ha:=parts_agree (e:=e) (e':=e') (l:=parts.toList) λx hx=>he x (by simpa[Op.operands]using hx);simp only[pureV,ha]
 |buildSlice t len parts=>
  have ha:=parts_agree (e:=e) (e':=e') (l:=parts.toList) λx hx=>he x (by simpa[Op.operands]using hx);simp only[pureV,ha]
 |_=>simp only[Op.operands]at he<;>simp_all[pureV]
theorem opPre_congr(he:∀x∈o.op.operands,e x=e' x)(hβ:isStore o=true->∀id,m0.n<=id->id<nm->β id=β' id)(ha:isCall o=true->an=an')(h:opPre P m0 T e β nm an o):opPre P m0 T e' β' nm an' o:=by
 have hp:=pureV_congr (P:=P) (m0:=m0) he;unfold opPre at *;split at h
 ·exact h
 ·rename_i hop;rw[←he _ (by rw[hop];simp[Op.operands])];exact h
 ·rename_i t x y hop;have hx:e x=e' x:=he _ (by rw[hop];simp[Op.operands]);have hy:e y=e' y:=he _ (by rw[hop];simp[Op.operands]);obtain⟨h1,h2,h3,h4,id,l,h5,h6,h7,h8,h9⟩:=h;exact⟨h1,h2,by rw[←hy];exact h3,by rw[←hy];exact h4,id,l,by rw[←hx];exact h5,h6,h7,by rw[←hβ (by simp[isStore,hop]) id h6 h7];exact h8,by rw[←hy];exact h9⟩
 ·rename_i c hop;split at h
  ·rename_i f hc;have hf:e f=e' f:=he _ (by rw[hop];simp[Op.operands,Call.operands,hc]);have hargs:c.args.toList.map e=c.args.toList.map e':=map_agree λx hx=>he x (by rw[hop];simp[Op.operands,Call.operands];exact .inr (by simpa using hx));rw[←hf,←hargs,←ha (by simp[isCall,hop,hc])];exact h
  ·rw[←hp];exact h
 ·rw[←hp];exact h
theorem opOut_congr(he:∀x∈o.op.operands,e x=e' x)(ha:isCall o=true->an=an')(h:opOut P m0 T e nm an o r):opOut P m0 T e' nm an' o r:=by
 have hp:=pureV_congr (P:=P) (m0:=m0) he;unfold opOut at *;split at h
 ·exact h
 ·rename_i hop;rw[←he _ (by rw[hop];simp[Op.operands])];exact h
 ·rename_i t x y hop;have hx:e x=e' x:=he _ (by rw[hop];simp[Op.operands]);have hy:e y=e' y:=he _ (by rw[hop];simp[Op.operands]);rw[←hx,←hy];exact h
 ·rename_i c hop;split at h
  ·rename_i f hc;have hf:e f=e' f:=he _ (by rw[hop];simp[Op.operands,Call.operands,hc]);have hargs:c.args.toList.map e=c.args.toList.map e':=map_agree λx hx=>he x (by rw[hop];simp[Op.operands,Call.operands];exact .inr (by simpa using hx));rw[←hf,←hargs,←ha (by simp[isCall,hop,hc])];exact h
  ·rw[←hp];exact h
 ·rw[←hp];exact h
theorem out_kind(h:opOut P m0 T e nm an o r):(∀id cs,r.bx=some (id,cs)->m0.n<=id/\((isMk o=true/\id=nm)\/(isStore o=true/\id<nm))\/(isMk o=true/\id=nm))/\(r.an.isSome->isCall o=true):=by
 unfold opOut at h;split at h
 ·rename_i hop;obtain⟨z,_,rfl⟩:=h;exact⟨λid cs e=>by simp at e;exact .inr ⟨by simp[isMk,hop],e.1.symm⟩,by simp⟩
 ·rename_i hop;subst h;exact⟨λid cs e=>by simp at e;exact .inr ⟨by simp[isMk,hop],e.1.symm⟩,by simp⟩
 ·rename_i hop;obtain⟨id',h1,h2,h3,rfl⟩:=h;exact⟨λid cs e=>by simp at e;obtain⟨rfl,_⟩:=e;exact .inl ⟨h2,.inr ⟨by simp[isStore,hop],h3⟩⟩,by simp⟩
 ·rename_i c hop;split at h
  ·rename_i f hc;split at h
   ·obtain⟨v,an',_,rfl⟩:=h;exact⟨λid cs e=>by simp at e,λ_=>by simp[isCall,hop,hc]⟩
   ·exact h.elim
  ·obtain⟨v,_,rfl⟩:=h;exact⟨λid cs e=>by simp at e,by simp⟩
 ·obtain⟨v,_,rfl⟩:=h;exact⟨λid cs e=>by simp at e,by simp⟩
end
end
section
open Go Go.RowKit
variable[Sp]
section
variable{P:Program}{φ:Phi}{w:World}{A:Anchor}{N n:Nat}{s:St}{a:Act}{K:St->Prop}{Q:Exit->Act->World->Prop}{r:Option Nat}{m m0:Mem}{T:Tab}{o:Oper}{nm:Nat}
theorem load_near{t:TypeId}{x v:PV}(hn:Near m0 m)(h:aLoad P m0 t x=some v):aLoad P m t x=some v:=by
 have hs:∀cs,aSrc m0 x=some cs->aSrc m x=some cs:=by
  intro cs hs;unfold aSrc at hs⊢;split at hs
  ·rename_i id off;split at hs
   ·rename_i hid;have h1:=hn.1;rw[if_pos (by omega),hn.2 id hid];exact hs
   ·cases hs
  ·exact hs
  ·cases hs
 unfold aLoad at h⊢;split at h
 ·rename_i cs h1 h2;rw[hs _ h1,h2];exact h
 ·rename_i c cs h1 h2;rw[hs _ h1,h2];exact h
 ·cases h
theorem pure_opW{v:PV}(hn:Near m0 s.m)(hv:pureV P m0 s.ev o=some v)(hb:∀t l p,o.op≠.buildSlice t l p)(hK:K (s.put o.dst v)):opW P s o K:=by
 unfold pureV at hv;unfold opW;split at hv<;>rename_i hop;all_goals first|(cases hv;done)|skip
 all_goals (try rw[hop])
 ·injection hv with hv;subst hv;exact hK
 ·injection hv with hv;subst hv;exact hK
 ·split at hv
  ·rename_i t ht;injection hv with hv;subst hv;exact⟨t,ht,hK⟩
  ·cases hv
 ·exact⟨v,hv,hK⟩
 ·exact⟨v,hv,hK⟩
 ·exact⟨v,hv,hK⟩
 ·split at hv
  ·rename_i hx;injection hv with hv;subst hv;simp only[hx];exact hK
  ·rename_i hx;injection hv with hv;subst hv;simp only[hx];exact hK
  ·cases hv
 ·split at hv
  ·rename_i hx;simp only[hx];exact⟨v,hv,hK⟩
  ·cases hv
 ·exact⟨v,hv,hK⟩
 ·exact⟨v,hv,hK⟩
 ·exact⟨v,hv,hK⟩
 ·exact⟨v,hv,hK⟩
 ·exact⟨v,load_near hn hv,hK⟩
 ·exact⟨v,hv,hK⟩
 ·exact absurd hop (hb _ _ _)
 ·exact⟨v,hv,hK⟩
 ·split at hv
  ·rename_i hf;injection hv with hv;subst hv;exact .inl ⟨hf.1,hf.2,hK⟩
  ·split at hv
   ·rename_i hf;injection hv with hv;subst hv;exact .inr ⟨hf,hK⟩
   ·cases hv
 ·split at hv
  ·rename_i h1 h2;simp only[h1,h2];split at hv
   ·rename_i hky;exact⟨hky,v,hv,hK⟩
   ·cases hv
  ·cases hv
 ·split at hv
  ·rename_i hc;simp only[hc];split at hv
   ·rename_i h1 h2;simp only[h1,h2];exact⟨v,hv,hK⟩
   ·cases hv
  ·rename_i hc;simp only[hc];exact⟨v,hv,hK⟩
  ·rename_i hc;simp only[hc];exact⟨v,hv,hK⟩
  ·cases hv
theorem box_fill(hm:MRel φ m w)(hnm:nm<m.n)(hh:m.β nm=.hole){w':World}(hg:Grows w w'){l:List PV}{cs:List Value}{e:TypeId}(hnew:w'.heap[w.heap.size]?=some (.cells cs.toArray e (0,0)))(hl:VRelL φ w l cs):
  Keeps φ w (φ.withBox nm w.heap.size) w'/\MRel (φ.withBox nm w.heap.size) ⟨updB m.β nm (.cells l),m.n,m.an,m.rc⟩ w':=by
 have hfree:φ.box nm=none:=by
  rcases hm.box nm hnm with h|⟨b,cs,e,_,_,h⟩
  ·exact h.2
  ·rw[hh]at h;exact h.elim
 have k:Keeps φ w (φ.withBox nm w.heap.size) w':=by
  refine keeps_grow hg hm (λi b h=>?_) (λi b h=>h) (λb h=>own_withBox h);simp only[Phi.withBox];split
  ·rename_i hi;subst hi;rw[hfree]at h;cases h
  ·exact h
 refine⟨k,⟨λi hi=>?_,λi hi=>?_,λi b h=>?_,λi j b h1 h2=>?_,λi j b h1 h2=>hm.arrinj i j b h1 h2,λi j b h1 h2=>?_,rcs_grow (m:=m) hg hm⟩⟩
 ·by_cases hin:i=nm
  ·subst hin;exact .inr ⟨w.heap.size,cs.toArray,e,by simp[Phi.withBox],hnew,by simp only[updB,if_true];exact VRelL.keeps k l cs hl⟩
  ·rcases hm.box i hi with⟨h1,h2⟩|⟨b,cur,e',hb,hh,hr⟩
   ·exact .inl ⟨by simpa[updB,hin]using h1,by simpa[Phi.withBox,hin]using h2⟩
   exact .inr ⟨b,cur,e',by simp[Phi.withBox,hin,hb],(hg.old b (box_lt hm hb)).trans hh,by simpa[updB,hin]using brel_keeps k hr⟩
 ·simp only at hi;simp only[Phi.withBox];rw[if_neg (by omega)];exact hm.boxn i hi
 ·obtain⟨h1,h2⟩:=hm.arr i b h;exact⟨h1,h2.of_eq (hg.old b (arr_lt hm h))⟩
 ·simp only[Phi.withBox]at h1 h2;split at h1<;>split at h2
  ·omega
  ·have hb:=Option.some.inj h1;subst hb;exact absurd (box_lt hm h2) (by omega)
  ·have hb:=Option.some.inj h2;subst hb;exact absurd (box_lt hm h1) (by omega)
  ·exact hm.boxinj i j b h1 h2
 ·simp only[Phi.withBox]at h1;split at h1
  ·have hb:=Option.some.inj h1;subst hb;exact absurd (arr_lt hm h2) (by omega)
  ·exact hm.sep i j b h1 h2
def NxAbs(P:Program)(m0:Mem)(T:Tab)(A:Anchor)(N nm:Nat)(s:St)(o:Oper)(D:List Deferred)(a':Act)(w':World):Prop:=
 ∃r φ',opOut P m0 T s.ev nm s.m.an o r/\SRel φ' w' N (s.res o.dst r s.m.n) a'/\Anch A φ' w' s.eff/\a'.defers=D
theorem box_op(ho:∀c,o.op≠.defer c)(h:SRel φ w N s a)(hst:Anch A φ w s.eff)(hd:∀t,o.dst=some t->t<N)(hnm:nm<s.m.n)(hh:s.m.β nm=.hole){e:TypeId}{cs:List Value}{l:List PV}
  (hr:(execOp a.eval o).run P w=.ok (.value (.pointer (some ⟨w.heap.size,0,none⟩))) (w.alloc (.cells cs.toArray e))) (hl:VRelL φ w l cs) (hout:opOut P m0 T s.ev nm s.m.an o ⟨.ptr nm 0,some (nm,l),none⟩):
  o.wpX r P a w (NxAbs P m0 T A N nm s o a.defers) Q:=by
 refine wpX_of_run ho ?_;rw[hr];have hg:=Grows.alloc w (.cells cs.toArray e);obtain⟨k,hm⟩:=box_fill h.mem hnm hh hg (e:=e) (heap_alloc_new w _) hl;refine⟨_,φ.withBox nm w.heap.size,hout,?_,?_,put_defers _ _ _⟩
 ·have h1:SRel (φ.withBox nm w.heap.size) (w.alloc (.cells cs.toArray e)) N { s with m:=⟨updB s.m.β nm (.cells l),s.m.n,s.m.an,s.m.rc⟩ } a:=
   ⟨λt=>VRel.keeps k _ _ (h.tmp t),h.size,hm⟩
  have h2:=h1.put hd (pv:=.ptr nm 0) (v:=.pointer (some ⟨w.heap.size,0,none⟩)) ⟨w.heap.size,by simp[Phi.withBox],rfl⟩;have e1:s.res o.dst ⟨.ptr nm 0,some (nm,l),none⟩ s.m.n={ s with m:=⟨updB s.m.β nm (.cells l),s.m.n,s.m.an,s.m.rc⟩ }.put o.dst (.ptr nm 0):=by cases o.dst<;>simp[St.res,St.put]
  rw[e1];exact h2
 ·have:=hst.trans (step_of_keeps hg k);simpa using this
theorem next_of_good{v:PV}(hout:opOut P m0 T s.ev nm s.m.an o ⟨v,none,none⟩)(h:o.wpX r P a w (Good A N a.defers λs'=>s'=s.put o.dst v) Q):o.wpX r P a w (NxAbs P m0 T A N nm s o a.defers) Q:=by
 refine Oper.wpX_mono ?_ h;rintro a' w' ⟨s',φ',h1,h2,h3,rfl⟩;exact⟨_,φ',hout,by rw[res_put];exact h1,by rw[St.put_eff]at h2;exact h2,h3⟩
theorem pure_op{v:PV}(h:SRel φ w N s a)(hst:Anch A φ w s.eff)(hd:∀t,o.dst=some t->t<N)(hA:∀i b,A.φ0.arr i=some b->i<s.a0.a)(hY:ReadY s.a0.ys A.φ0 A.w0)(hn:Near m0 s.m)(hv:pureV P m0 s.ev o=some v)
  (hout:opOut P m0 T s.ev nm s.m.an o ⟨v,none,none⟩):o.wpX r P a w (NxAbs P m0 T A N nm s o a.defers) Q:=by
 by_cases hb:∃t l p,o.op=.buildSlice t l p
 ·obtain⟨t,len,parts,ho⟩:=hb;have hv':=hv;simp only[pureV,ho]at hv';split at hv'
  ·rename_i e hu;split at hv'
   ·rename_i z hz;split at hv'
    ·rename_i hc;obtain⟨hi,hzl,hpos,hbig⟩:=hc;obtain⟨cs,hf,rfl⟩:=Option.map_eq_some_iff.1 hv';exact next_of_good hout (good_buildAnon ho h hst hd hu hz hi hzl hpos hbig hf rfl)
    ·cases hv'
   ·cases hv'
  ·cases hv'
 ·exact next_of_good hout (opW_sound h hst hd hA hY (pure_opW hn hv (λt l p e=>hb ⟨t,l,p,e⟩) rfl))
theorem addEff_zero(k:Nat)(E:List Eff):addEff k E []=E:=by cases E<;>simp[addEff]
theorem draw_op(h:SRel φ w N s a)(hst:Anch A φ w s.eff)(hd:∀t,o.dst=some t->t<N)(hA:∀i b,A.φ0.arr i=some b->i<s.a0.a)(hY:ReadY s.a0.ys A.φ0 A.w0)(hn:Near m0 s.m)
  (hp:opPre P m0 T s.ev s.m.β nm s.m.an o) (hmk:isMk o=true->nm<s.m.n/\s.m.β nm=.hole) (hle:nm<=s.m.n):o.wpX r P a w (NxAbs P m0 T A N nm s o a.defers) Q:=by
 unfold opPre at hp;split at hp
 ·rename_i t hop;obtain⟨z,hz⟩:=hp;obtain⟨h1,h2⟩:=hmk (by simp[isMk,hop]);have hz0:=hz;obtain⟨i,zv,hi,hzv,rfl⟩:=zeroCs_some hz;exact box_op (λc e=>by rw[hop]at e;cases e) h hst hd h1 h2 (e:=t) (cs:=zv.cells.toList) (by simp[execOp,hop,Instr.alloc,zeroValue,typeInfo,hi,hzv,newVar,newRow]) (vrelL_const φ w _) (by simp only[opOut,hop];exact⟨_,hz0,rfl⟩)
 ·rename_i e x hop;obtain⟨h1,h2⟩:=hmk (by simp[isMk,hop]);exact box_op (λc e=>by rw[hop]at e;cases e) h hst hd h1 h2 (e:=e) (cs:=(a.eval x).cells.toList) (by simp[execOp,hop,Instr.box,newVar,newRow]) (rel_cells (h.ev x) hp) (by simp only[opOut,hop])
 ·rename_i t x y hop;obtain⟨h1,h2,h3,h4,id,l,h5,h6,h7,h8,h9⟩:=hp;have hs:opW P s o λs'=>s'=s.setBox id (s.ev y).cells:=by
   unfold opW;rw[hop];refine⟨h1,?_⟩;simp only[aStore,h5];refine⟨by omega,h2,h3,h4,l,h8,by omega,?_⟩;congr 1;simp only[splice,List.take_zero,List.nil_append,Nat.zero_add];rw[List.drop_of_length_le (by omega)];simp
  refine Oper.wpX_mono ?_ (opW_sound (A:=A) h hst hd hA hY hs);rintro a' w' ⟨s',φ',k1,k2,k3,rfl⟩;refine⟨⟨.undef,some (id,(s.ev y).cells),none⟩,φ',by simp only[opOut,hop];exact⟨id,h5,h6,h7,rfl⟩,?_,by simpa using k2,k3⟩;rw[h1,res_set];exact k1
 ·rename_i c hop;split at hp
  ·rename_i f hc;split at hp
   ·rename_i g caps hf;obtain⟨h1,⟨_,h2⟩⟩:=hp;have hs:opW P s o λs'=>∃v an',T (fnG g) (fnA g (c.args.toList.map s.ev) caps) s.m.an v an'/\s'={ s with m:={ s.m with an:=an' } }.put o.dst v:=by
     unfold opW;rw[hop];simp only[hc,hf];refine⟨h1,((h2 s.m hn rfl).mono ?_).y⟩;rintro v E m' ⟨rfl,hm',hle',hT⟩;refine⟨v,m'.an,hT,?_⟩;rw[hm'];congr 1;simp only[St.after,addEff_zero,PV.sub_nil]
    refine Oper.wpX_mono ?_ (opW_sound (A:=A) h hst hd hA hY hs);rintro a' w' ⟨s',φ',k1,k2,k3,v,an',hT,rfl⟩;refine⟨⟨v,none,some an'⟩,φ',by simp only[opOut,hop,hc,hf];exact⟨v,an',hT,rfl⟩,?_,by simpa using k2,k3⟩;rw[res_an];exact k1
   ·exact hp.elim
  ·rename_i hc;obtain⟨v,hv⟩:=hp;refine pure_op h hst hd hA hY hn hv ?_;unfold opOut;simp only[hop];exact⟨v,hv,rfl⟩
 ·rename_i h1 h2 h3 h4;obtain⟨v,hv⟩:=hp;refine pure_op h hst hd hA hY hn hv ?_;unfold opOut;split
  ·rename_i hop;exact absurd hop (h1 _)
  ·rename_i hop;exact absurd hop (h2 _ _)
  ·rename_i hop;exact absurd hop (h3 _ _ _)
  ·rename_i hop;exact absurd hop (h4 _)
  ·exact⟨v,hv,rfl⟩
end
end
section
open Go Go.RowKit
variable[Sp]
def bindsAny(e:Edge):Bool:=Region.binds .any e
def maskOf(M:List Nat)(o:Oper):Nat:=o.after.toList.foldl (λm e=>if bindsAny e then m ||| 2^e.on ||| M.getD e.on 0 else m) 0
def ancGo:List Oper->List Nat->List Nat
 |[],acc=>acc
 |o::l,acc=>ancGo l (acc++[maskOf acc o])
def anc(M:List Nat)(i j:Nat):Bool:=(M.getD i 0).testBit j
def ord(M:List Nat)(i j:Nat):Bool:=(decide (j<i)&&anc M i j)||(decide (i<j)&&anc M j i)
def reads(ops:Array Oper)(o:Oper):List Nat:=o.op.operands.toList.filterMap (fun | .tmp t=>some t|_=>none)++(match o.guard with
 |some (j,_)=>match(ops[j]?).bind (·.dst)with
  |some d=>[d]
  |none=>[]
 |none=>[])
def clash(ops:Array Oper)(o o':Oper):Bool:=(match o'.dst with
  |some d=>(reads ops o).contains d||o.dst==some d
  |none=>false)||(isCall o&&isCall o')||(isStore o&&(isMk o'||isStore o'))||(isStore o'&&isMk o)
def plainOps(ops:Array Oper):Bool:=ops.toList.all λo=>match o.op with
 |.select _ _=>false
 |.defer _=>false
 |_=>true
def earlyB(ops:Array Oper)(i:Nat):Bool:=match ops[i]? with
 |some o=>(match o.op with | .move _=>true|_=>false)&&o.guard.isNone&&o.after.toList.all (λe=>!bindsAny e)&&Region.free .any ops (Array.replicate ops.size false) i&&plainOps ops
 |none=>false
def drawB(ops:Array Oper)(M:List Nat)(np:Nat):Bool:=
 decide (np<=ops.size)&&(List.range ops.size).all λi=>match ops[i]? with
  |none=>false
  |some o=>(M.getD i 0==maskOf M o)&&o.after.toList.all (λe=>!bindsAny e||decide (e.on<i)) &&
   (if i<np then(!(isMk o||isStore o)||o.guard.isNone)&&(List.range np).all (λj=>match ops[j]? with
     |none=>false
     |some o'=>i==j||!clash ops o o'||ord M i j)
    else(List.range i).all λj=>anc M i j||(decide (j<np)&&earlyB ops j))
def drawOk(ops:Array Oper)(np:Nat):Bool:=drawB ops (ancGo ops.toList []) np
section
variable{ops:Array Oper}{M:List Nat}{np:Nat}{L:Nat->Prop}{i j:Nat}{o o':Oper}
structure DrawP(ops:Array Oper)(M:List Nat)(np:Nat):Prop where
 le:np<=ops.size
 mask:∀i o,ops[i]?=some o->M.getD i 0=maskOf M o
 back:∀i o,ops[i]?=some o->∀e∈o.after,bindsAny e=true->e.on<i
 guard:∀i o,ops[i]?=some o->i<np->isMk o=true\/isStore o=true->o.guard=none
 pair:∀i o j o',ops[i]?=some o->ops[j]?=some o'->i<np->j<np->i≠j->clash ops o o'=true->ord M i j=true
 tail:∀i o,ops[i]?=some o->np<=i->∀j,j<i->anc M i j=true\/(j<np/\earlyB ops j=true)
theorem drawP_of(h:drawB ops M np=true):DrawP ops M np:=by
 simp only[drawB,Bool.and_eq_true,decide_eq_true_eq,List.all_eq_true,List.mem_range]at h;obtain⟨h0,h⟩:=h;have get:∀i o,ops[i]?=some o->_:=λi o hi=>h i (Array.getElem?_eq_some_iff.1 hi).1;refine⟨h0,λi o hi=>?_,λi o hi=>?_,λi o hi hnp=>?_,λi o j o' hi hj hin hjn hne hc=>?_,λi o hi hnp=>?_⟩
 ·have:=get i o hi;simp only[hi,Bool.and_eq_true,beq_iff_eq]at this;exact this.1.1
 ·have:=get i o hi;simp only[hi,Bool.and_eq_true,List.all_eq_true,Bool.or_eq_true,Bool.not_eq_true',decide_eq_true_eq]at this;intro e he hb;rcases this.1.2 e (by simpa using he)with h|h
  ·rw[h]at hb;cases hb
  ·exact h
 ·have:=get i o hi;simp only[hi,Bool.and_eq_true,if_pos hnp,Bool.or_eq_true,Bool.not_eq_true']at this;intro hk;rcases this.2.1 with h|h
  ·rw[Bool.or_eq_false_iff]at h;rcases hk with hk|hk
   ·rw[h.1]at hk;cases hk
   ·rw[h.2]at hk;cases hk
  ·simpa using h
 ·have:=get i o hi;simp only[hi,Bool.and_eq_true,if_pos hin,List.all_eq_true,List.mem_range]at this;have:=this.2.2 j hjn;simp only[hj,Bool.or_eq_true,beq_iff_eq,Bool.not_eq_true',hc]at this;rcases this with(h|h)|h
  ·exact absurd h hne
  ·cases h
  ·exact h
 ·have:=get i o hi;simp only[hi,Bool.and_eq_true,if_neg (Nat.not_lt.2 hnp),List.all_eq_true,List.mem_range,Bool.or_eq_true,decide_eq_true_eq]at this;exact this.2
def Closed(ops:Array Oper)(L:Nat->Prop):Prop:=∀i o,ops[i]?=some o->L i->∀e∈o.after,bindsAny e=true->L e.on
theorem mask_mem:∀(es:List Edge)(m j:Nat),(es.foldl (λm e=>if bindsAny e then m ||| 2^e.on ||| M.getD e.on 0 else m) m).testBit j=true->m.testBit j=true\/∃e∈es,bindsAny e=true/\(e.on=j\/anc M e.on j=true)
 |[],m,j,h=>.inl h
 |e::es,m,j,h=>by
  rw[List.foldl_cons]at h;rcases mask_mem es _ j h with h|⟨e',h1,h2⟩
  ·split at h
   ·rename_i hb;rw[Nat.testBit_or,Nat.testBit_or,Bool.or_eq_true,Bool.or_eq_true,Nat.testBit_two_pow,decide_eq_true_eq]at h;rcases h with(h|h)|h
    ·exact .inl h
    ·exact .inr ⟨e,by simp,hb,.inl h⟩
    ·exact .inr ⟨e,by simp,hb,.inr h⟩
   ·exact .inl h
  ·exact .inr ⟨e',by simp[h1],h2⟩
theorem anc_in(hp:DrawP ops M np)(hc:Closed ops L):∀i o,ops[i]?=some o->(∀e∈o.after,bindsAny e=true->L e.on)->∀j,anc M i j=true->L j:=by
 intro i;induction i using Nat.strongRecOn with
 |_ i ih=>
  intro o hi ha j hj;unfold anc at hj;rw[hp.mask i o hi]at hj;rcases mask_mem _ _ _ hj with h|⟨e,h1,h2,h3⟩
  ·simp at h
  ·have h1':e∈o.after:=by simpa using h1
   have hL:=ha e h1' h2;rcases h3 with rfl|h3
   ·exact hL
   ·have hlt:=hp.back i o hi e h1' h2;have hs:=(Array.getElem?_eq_some_iff.1 hi).1;have he:ops[e.on]?=some (ops[e.on]'(by omega)):=by simp
    exact ih e.on hlt _ he (λe' he' hb=>hc _ _ he hL e' he' hb) j h3
theorem anc_closed(hp:DrawP ops M np)(hc:Closed ops L)(hi:ops[i]?=some o)(hL:L i)(h:anc M i j=true):L j:=
 anc_in hp hc i o hi (λe he hb=>hc i o hi hL e he hb) j h
end
def nmOf(n0:Nat)(ops:Array Oper):Nat->Nat
 |0=>n0
 |k+1=>nmOf n0 ops k+(match ops[k]? with|some o=>mkN o|none=>0)
def Valid(P:Program)(m0:Mem)(T:Tab)(ops:Array Oper)(s:St)(nm:Nat)(o:Oper)(r:Res):Prop:=
 guardW ops s o (opOut P m0 T s.ev nm s.m.an o r) (r=⟨.undef,none,none⟩)
section
variable{P:Program}{m0:Mem}{T:Tab}{ops:Array Oper}{M:List Nat}{np:Nat}{L:Nat->Prop}{i j:Nat}{o o':Oper}{s s':St}{X Y X' Y':Prop}{r:Res}{nm n0:Nat}
def guardV(ops:Array Oper)(s:St)(o:Oper):Option Bool:=match o.guard with
 |none=>some true
 |some (j,want)=>match(ops[j]?).bind (·.dst)with
  |some d=>match s.g d with
   |.bool b=>some (decide (b=want))
   |.undef=>some false
   |_=>none
  |none=>some false
theorem guardW_iff:guardW ops s o X Y↔(guardV ops s o=some true/\X)\/(guardV ops s o=some false/\Y):=by
 unfold guardW guardV;split
 ·rename_i hg;simp only[hg];simp
 ·rename_i hg;simp only[hg];split
  ·rename_i hd;simp only[hd];split
   ·rename_i hb;simp only[hb];split<;>rename_i h<;>simp[h]
   ·rename_i hb;simp only[hb];simp
   ·rename_i h1 h2;split
    ·rename_i hb;exact absurd hb (h1 _)
    ·rename_i hb;exact absurd hb h2
    ·simp
  ·rename_i hd;simp only[hd];simp
theorem guard_both(h:guardW ops s o X Y)(h':guardW ops s o X' Y'):(X/\X')\/(Y/\Y'):=by
 rw[guardW_iff]at *;rcases h with⟨a,h⟩|⟨a,h⟩<;>rcases h' with⟨b,h'⟩|⟨b,h'⟩
 ·exact .inl ⟨h,h'⟩
 ·rw[a]at b;cases b
 ·rw[a]at b;cases b
 ·exact .inr ⟨h,h'⟩
theorem guard_imp(h:guardW ops s o X Y)(hx:X->X')(hy:Y->Y'):guardW ops s o X' Y':=by
 rw[guardW_iff]at *;rcases h with⟨a,h⟩|⟨a,h⟩
 ·exact .inl ⟨a,hx h⟩
 ·exact .inr ⟨a,hy h⟩
theorem mem_guard{d:Nat}{want:Bool}(hg:o.guard=some (j,want))(hd:(ops[j]?).bind (·.dst)=some d):d∈reads ops o:=by
 unfold reads;rw[hg];simp only[hd];simp
theorem guard_congr(hs:∀t∈reads ops o,s.g t=s'.g t)(h:guardW ops s o X Y):guardW ops s' o X Y:=by
 have:guardV ops s o=guardV ops s' o:=by
  unfold guardV;split
  ·rfl
  ·rename_i j want hg;split
   ·rename_i d hd;rw[hs d (mem_guard hg hd)]
   ·rfl
 rw[guardW_iff]at *;rwa[←this]
theorem ev_congr(hs:∀t∈reads ops o,s.g t=s'.g t):∀x∈o.op.operands,s.ev x=s'.ev x:=by
 intro x hx;cases x with
 |tmp t=>
  refine hs t ?_;unfold reads;exact List.mem_append_left _ (List.mem_filterMap.2 ⟨.tmp t,by simpa using hx,rfl⟩)
 |_=>rfl
theorem valid_congr(hs:∀t∈reads ops o,s.g t=s'.g t)(ha:isCall o=true->s.m.an=s'.m.an)(h:Valid P m0 T ops s nm o r):Valid P m0 T ops s' nm o r:=
 guard_congr hs (guard_imp h (λh=>opOut_congr (ev_congr hs) ha h) id)
def Kind(m0:Mem)(nm:Nat)(o:Oper)(r:Res):Prop:=
 (∀id cs,r.bx=some (id,cs)->(m0.n<=id/\isStore o=true/\id<nm)\/(isMk o=true/\id=nm))/\(r.an.isSome->isCall o=true)
theorem kind_of_out{e:Operand->PV}{an:Nat}(h:opOut P m0 T e nm an o r):Kind m0 nm o r:=by
 obtain⟨h1,h2⟩:=out_kind h;refine⟨λid cs e=>?_,h2⟩;rcases h1 id cs e with⟨a,h|⟨b,c⟩⟩|h
 ·exact .inr h
 ·exact .inl ⟨a,b,c⟩
 ·exact .inr h
theorem valid_kind(h:Valid P m0 T ops s nm o r):Kind m0 nm o r:=by
 rcases guard_both h h with⟨h,_⟩|⟨h,_⟩
 ·exact kind_of_out h
 ·subst h;exact⟨λid cs e=>by simp at e,by simp⟩
theorem valid_mk(hg:o.guard=none)(hmk:isMk o=true)(h:Valid P m0 T ops s nm o r):∃cs,r.bx=some (nm,cs):=by
 simp only[Valid,guardW,hg]at h;unfold isMk at hmk;unfold opOut at h;split at h
 ·obtain⟨z,_,rfl⟩:=h;exact⟨z,rfl⟩
 ·subst h;exact⟨_,rfl⟩
 all_goals (rename_i hop;first|(rw[hop]at hmk;cases hmk;done)|skip)
 rename_i h1 h2 h3;split at hmk
 ·rename_i hop;exact absurd hop (h1 _)
 ·rename_i hop;exact absurd hop (h2 _ _)
 ·cases hmk
end
end
end Go.Proofs.Ytjfejoadcdoobaa
