/- Part of the proof of RuleKnown. No condition. -/
import Derived.Conc.WgGenN3
import Derived.Test.YtlminnpaeaganaaGreatMKnownAH
import Derived.Test.YtlminnpaeaganaaGreatMKnownAL
namespace Go.Proofs.YtlminnpaeaganaaGreat
set_option maxRecDepth 100000
set_option linter.all false
section
open Go Go.Conc
open Go.ConcN (sumTo upd sumTo_upd upd_ne upd_same)
structure Ln where
 f:Frame
 fs:List Frame
 V:World
def Ln.fin(x:Ln):Prop:=x.f.mode=.returning/\x.fs=[]
def Us(h:Halt):Prop:=(∃v,h=.panic v)\/Halt.still h
section
variable(p p':Program)(F:FuncId->Bool)(L:List FuncId)(fn0:FuncId)(ro:Nat->Prop)(W0:World)(Q:Machine->Outcome->World->Trace->Prop)(c:Frame)(cs:List Frame)(R:Ending->World->Prop)
structure SK(x:Ln):Prop where
 f:Cf p F L x.f
 fs:∀g∈x.fs,Cf p F L g
 real:∃bj cs' S ρ W gs sl t q,CK p p' F ([],fn0,false) dv [] ρ (x.f,x.fs++c::cs) (bj,cs')/\oP p p' F ro W0 S ρ x.V W (G bj cs') gs t q/\¬Ends p' Q (crowd gs W sl) t
def QB(x bk:Ln)(k:Nat)(zG:Tape):Prop:=∀(τ:Tape) d,(∀j q,j<k->τ (d+j) q=zG j q) ->
 (x.fin->∀v w1,(lD p x.f (c::cs)).run p (a8 x.V τ d)=.ok (c.finish v,cs) w1->R (.returned v) w1->False) /\
 ((¬x.fin/\∀base,(lD p x.f (x.fs++base)).run p (a8 x.V τ d)=.ok (bk.f,bk.fs++base) (a8 bk.V τ (d+k)))\/(x.fin/\∃v w,(lD p x.f [dv]).run p (a8 x.V τ d)=.ok (dv.finish v,[]) w)\/∃h bF,(lD p x.f (x.fs++[dv])).run p (a8 x.V τ d)=.halt h bF/\Us h)
end
section
variable{p p':Program}{F:FuncId->Bool}{L:List FuncId}{fn0 f0:FuncId}{ro:Nat->Prop}{W0:World}{Q:Machine->Outcome->World->Trace->Prop}{c:Frame}{cs:List Frame}{R:Ending->World->Prop}
theorem amL{fr:Frame}{fs:List Frame}{m:GH}(hm:m.ok p F L fr)(w:World):∃x,(m.fin p fr (fs++c::cs)).run p w=.ok x w:=by
 cases m with
 |stay f=>exact⟨_,rfl⟩
 |call f a=>exact⟨_,rfl⟩
 |ret v=>cases fs<;>exact⟨_,rfl⟩
 |Kp g=>trivial
theorem aeN(ae:PP (bH p F) p p')(dH:pk p p' F)(dg:IL p F L fn0 f0)
  (az:∀v w',R (.returned v) w'->∀bj cs' S ρ W gs sl t q,CK p p' F ([],fn0,false) dv [] ρ (c.finish v,cs) (bj,cs')->oP p p' F ro W0 S ρ w' W (G bj cs') gs t q->Ends p' Q (crowd gs W sl) t)
  {x:Ln} (aj:SK p p' F L fn0 ro W0 Q c cs x):∃bk k zG,SK p p' F L fn0 ro W0 Q c cs bk/\QB p c cs R x bk k zG:=by
 obtain⟨bj,cs',S,ρ,W,gs,sl,t,q,h6,hm,bU⟩:=aj.real;have s9:h5 p F p' (bH p F) ρ ([],fn0,false) dv [] (x.f::(x.fs++c::cs)) (bj::cs'):=by
  rcases h6 with h|⟨g,a,a',us,us',aK,aO,⟨fn,ajx,k1,k2,bP⟩,_⟩
  ·exact h
  ·exfalso;injection aK with bS _;have aX:=aj.f.items;dsimp only at bS;rw[bS,show(Frame.enter p g a .normal).todo=[.code ajx]by simp[Frame.enter,k1,k2]]at aX;have:=aX (.code ajx) (by simp);simp[uH]at this;rw[qP dH this.2]at bP;cases bP
 clear h6;have il:x.f.mode=.returning->x.f.defers=[]->x.fs++c::cs≠[dv]:=by
  intro _ _ e;have ab:=s9;rw[e]at ab;cases ab with
  |bot h=>exact dg.ne ((show x.f.fn=fn0 from h.nn _ rfl)▸aj.f.fn)
  |cons h k=>cases k with
   |cons _ k=>cases k
 obtain⟨s,ao,fU⟩:=am2 dg aj.f;generalize e3:sumTo gs.size q=M;induction M using Nat.strongRecOn generalizing S W gs sl t q with
 |_ M KT=>
  rcases Ka (sl:=sl) hm.g0 rfl hm.ey hm.pa with⟨d0,fT,oD⟩|⟨ed,d0,fT,ops,dF,oD,bX,rP,ak,BZ,tz,aU⟩
  ·have hm:=hm.at (p:=p) d0;have mD:wF x.f:=by
    have ab:=s9;generalize aF:x.fs++c::cs=y at ab;cases ab with
    |bot h=>exact noMark h (by simp[rr])
    |cons h _=>exact noMark h (by simp[rr])
   obtain⟨k,zG,rp⟩:=(agL ae dH hm.wr.ok s9 il mD).out (ro:=ro) x.V (W.at d0) #[] hm.wr hm.og;have bad:(∀(τ:Tape) d,(∀j q,j<k->τ (d+j) q=zG j q)->∃h bF,(lD p x.f (x.fs++c::cs)).run p (a8 x.V τ d)=.halt h bF/\Us h)->∃bk k zG,SK p p' F L fn0 ro W0 Q c cs bk/\QB p c cs R x bk k zG:=by
    intro hb;refine⟨x,k,zG,aj,λτ d au=>⟨λaQ v w1 ad _=>?_,.inr (.inr ?_)⟩⟩
    ·obtain⟨h,bF,e,_⟩:=hb τ d au;rw[aQ.2,List.nil_append,ad]at e;cases e
    ·obtain⟨h,bF,e,bq⟩:=hb τ d au;rw[ao,Sem.run_bind]at e⊢;cases ad:s.run p (a8 x.V τ d)with
     |ok m w=>
      rw[ad]at e;obtain⟨y,g3⟩:=amL (p:=p) (F:=F) (L:=L) (fs:=x.fs) (c:=c) (cs:=cs) (fU _ _ _ ad) w;dsimp only[Result.andThen]at e;rw[g3]at e;cases e
     |halt U w=>
      rw[ad]at e;injection e with aK aO;subst aK;exact⟨_,_,rfl,bq⟩
   rcases rp with⟨r,cn,Nt⟩|⟨_,Ut⟩
   ·cases r with
    |halt h bF=>
     refine bad λτ d au=>⟨h,_,Nt τ d au,?_⟩;cases h with
     |panic v=>exact .inl ⟨v,rfl⟩
     |_=>exact .inr cn
    |ok a bF=>
     obtain⟨σ,b,xO,ec,U,ab,al,aJ,bm⟩:=cn;obtain⟨_,_,anj,_,am4⟩:=aaG s9 il;have Vq:=QV (p:=p') (main:=true) (w:=W.at d0) anj am4;rw[U]at Vq;obtain⟨amo,amp,amq⟩:=Vq;have sS:=runT_crowd_go (P:=p') (sl:=fT) (i:=0) hm.g0 (show stepG p' (0==0) (G bj cs') (W.at d0)=_ from amp);have aU:0<gs.size:=(Array.getElem?_eq_some_iff.1 hm.g0).1;have fR:∀e∈amo,ja σ ro e:=λe he=>bm e (by simpa using amq e he);have nk:∀b,S b->∀a,¬σ a b:=λb hb a bL=>by
      rcases aJ.new a b bL with h|h
      ·exact hm.ma b hb a h
      ·exact absurd (hm.shl b hb) (by omega)
     have gX:∀a b,σ a b->b<xO.heap.size:=λa b bL=>by
      obtain⟨_,_,_,k,_⟩:=al.obj _ _ bL;exact(Array.getElem?_eq_some_iff.1 k).1
     have Ca:∀lE,dN (bH p F) σ ro lE xO->oP p p' F ro W0 S σ lE xO (G b.1 b.2) ((gs.map (woken p' (G bj cs') (G b.1 b.2) xO)).setIfInBounds 0 (G b.1 b.2)) (t++MemOp.ofEvents 0 bj.fn bj.place amo) q:=λlE ak7=>by
      refine⟨by simp[aU],Leavers.step0 hm.ey hm.g0,(hm.pa.mono aJ.size).own fR nk gX,λop aE=>?_,nk,λb hb=>Nat.lt_of_lt_of_le (hm.shl b hb) aJ.size,ak7,λb hb=>hm.og b (Nat.le_trans aJ.size hb),λa b bL hb=>?_,⟨Nat.le_trans hm.db.size aJ.size,aJ.os.trans hm.db.os,aJ.out.trans hm.db.out,λb hb=>?_⟩⟩
      ·simp ;rcases Array.mem_append.1 aE with h|h
       ·exact hm.k4 op h
       ·obtain⟨e,_,rfl⟩:=Go.Conc.mem_ofEvents h;exact aU
      ·rcases aJ.new a b bL with h|h
       ·exact hm.old a b h hb
       ·exact absurd (Nat.lt_of_lt_of_le hb hm.db.size) (by omega)
      ·refine(aJ.keep b (Nat.lt_of_lt_of_le hb hm.db.size) ?_).trans (hm.db.blk b hb);by_cases hex:∃a,ρ a b
       ·obtain⟨a,au⟩:=hex;exact .inr (hm.old a b au hb)
       ·exact .inl λa au=>hex ⟨a,au⟩
     have aci:¬Ends p' Q (crowd ((gs.map (woken p' (G bj cs') (G b.1 b.2) xO)).setIfInBounds 0 (G b.1 b.2)) xO fT) (t++MemOp.ofEvents 0 bj.fn bj.place amo):=λh=>bU (Ends.next (oD.trans sS) h);by_cases iJ:x.fin
     ·refine⟨x,k,zG,aj,λτ d au=>⟨λaQ v w1 ad ant=>?_,.inr (.inl ⟨iJ,?_⟩)⟩⟩
      ·have e:=Nt τ d au;rw[aQ.2,List.nil_append,ad]at e;injection e with aK aO;subst aK aO;exact aci (az v _ ant b.1 b.2 S σ xO _ fT _ q ab (Ca _ (al.a8 _ _)))
      ·have e:=Nt τ d au;rw[ao,Sem.run_bind]at e⊢;cases ad:s.run p (a8 x.V τ d)with
       |halt U w=>rw[ad]at e;cases e
       |ok m w=>
        have Vz:=fU _ _ _ ad;cases m with
        |stay f=>have:=Vz.2;rw[iJ.1]at this;cases this
        |call f a=>have:=Vz.2;rw[iJ.1]at this;cases this
        |ret v=>exact⟨v,w,rfl⟩
        |Kp g=>exact Vz.elim
     ·have aT:=Nt zG 0 λj q _=>by rw[Nat.zero_add]
      rw[ao,Sem.run_bind]at aT;cases VB:s.run p (a8 x.V zG 0)with
      |halt U w=>rw[VB]at aT;cases aT
      |ok m w=>
       rw[VB]at aT;obtain⟨f1,SI,g1,g2,g3⟩:=Y6 dg aj.f aj.fs (fU _ _ _ VB) iJ;dsimp only[Result.andThen]at aT;rw[g3]at aT;injection aT with aK aO;subst aK;refine⟨⟨f1,SI,bF⟩,k,zG,⟨g1,g2,b.1,b.2,S,σ,xO,_,fT,_,q,ab,Ca _ al,aci⟩,λτ d au=>⟨λaQ=>absurd aQ iJ,.inl ⟨iJ,λbase=>?_⟩⟩⟩;have e:=Nt τ d au;rw[ao,Sem.run_bind]at e⊢;cases ad:s.run p (a8 x.V τ d)with
       |halt U w=>rw[ad]at e;cases e
       |ok hF w2=>
        rw[ad]at e;obtain⟨f2,anG,_,_,g4⟩:=Y6 dg aj.f aj.fs (fU _ _ _ ad) iJ;dsimp only[Result.andThen]at e⊢;rw[g4]at e⊢;injection e with bS b8;injection bS with en l9;rw[b8,en,List.append_cancel_right l9]
   ·exact bad Ut
  ·exact KT (sumTo ed.size dF) (by rw[bX,←e3];exact aU) S (W.at d0) ed fT _ dF ⟨rP,ak,tz,λop aE=>(by rw[bX];exact(Array.mem_append.1 aE).elim (hm.k4 op) (BZ op)),hm.ma,hm.shl,hm.wr.B0 _ d0,hm.og,hm.old,⟨hm.db.size,hm.db.os,hm.db.out,hm.db.blk⟩⟩ (λh=>bU (Ends.next oD h)) rfl
theorem aeK(ae:PP (bH p F) p p')(dH:pk p p' F)(dg:IL p F L fn0 f0){apM:List FuncId}(bO:0∉apM){n0:Nat}{args:Array Value}{V:World}
  (ah:∀τ d D,CallsIn (Fence.list apM (some D)) n0 p f0 args (a8 V τ d) R) (cn:∀e w',R e w'->∃v,e=.returned v)
  (az:∀v w',R (.returned v) w'->∀bj cs' S ρ W gs sl t q,CK p p' F ([],fn0,false) dv [] ρ (c.finish v,cs) (bj,cs')->oP p p' F ro W0 S ρ w' W (G bj cs') gs t q->Ends p' Q (crowd gs W sl) t):
  ∀bj cs' S ρ W gs sl t q,CK p p' F ([],fn0,false) dv [] ρ (Frame.enter p f0 args .normal,c::cs) (bj,cs')->oP p p' F ro W0 S ρ V W (G bj cs') gs t q->Ends p' Q (crowd gs W sl) t:=by
 intro bj cs' S ρ W gs sl t q h6 hm;refine Classical.byContradiction λbU=>?_;let A:={ x:Ln // SK p p' F L fn0 ro W0 Q c cs x };have LL:∀x:A,∃y:A×Nat×Tape,QB p c cs R x.1 y.1.1 y.2.1 y.2.2:=λx=>by
  obtain⟨bk,k,zG,U,ab⟩:=aeN ae dH dg az x.2;exact⟨(⟨bk,U⟩,k,zG),ab⟩
 let x1:A:=⟨⟨Frame.enter p f0 args .normal,[],V⟩,Y3 dg dg.mem args,by simp,bj,cs',S,ρ,W,gs,sl,t,q,h6,hm,bU⟩;let g:A->A×Nat×Tape:=λx=>(LL x).choose;have aN:∀x:A,QB p c cs R x.1 (g x).1.1 (g x).2.1 (g x).2.2:=λx=>(LL x).choose_spec;let oS:Nat->A:=λn=>Nat.rec x1 (λ_ x=>(g x).1) n;have anH:∀n,oS (n+1)=(g (oS n)).1:=λ_=>rfl;let D:Nat->Nat:=λn=>Nat.rec 0 (λn d=>d+(g (oS n)).2.1) n;have WS:∀n,D (n+1)=D n+(g (oS n)).2.1:=λ_=>rfl;have mono:∀m n,D n<=D (n+m):=λm n=>by
  induction m with
  |zero=>exact Nat.le_refl _
  |succ m az=>exact Nat.le_trans az (by rw[←Nat.add_assoc,WS];omega)
 obtain⟨τ,iE⟩:∃τ:Tape,∀n j q,j<(g (oS n)).2.1->τ (D n+j) q=(g (oS n)).2.2 j q:=by
  classical
  refine⟨λi q=>if h:∃n,D n<=i/\i<D (n+1)then(g (oS h.choose)).2.2 (i-D h.choose) q else 0,λn j q aC=>?_⟩;have hex:∃m,D m<=D n+j/\D n+j<D (m+1):=⟨n,by omega,by rw[WS];omega⟩;dsimp only;rw[dif_pos hex];obtain⟨U,ab⟩:=hex.choose_spec;generalize hex.choose=m at U ab;have SH:m=n:=by
   rcases Nat.lt_trichotomy m n with h|h|h
   ·have:=mono (n-(m+1)) (m+1);rw[show m+1+(n-(m+1))=n by omega]at this;omega
   ·exact h
   ·have:=mono (m-(n+1)) (n+1);rw[show n+1+(m-(n+1))=m by omega,WS]at this;omega
  subst SH;rw[show D m+j-D m=j by omega]
 have bh:=λn=>aN (oS n) τ (D n) (iE n);obtain⟨_,Bd⟩:=ah τ 0 (n0+2);obtain⟨e,w',fr,adO,amM,dX,amV⟩:=Bd [dv] λd aV=>by
  injection aV with aV;subst aV;simp only[List.length_cons,List.length_nil];omega
 obtain⟨v,rfl⟩:=cn _ _ adO;obtain⟨N,gq,iM⟩:=StepsIn.run (show StepsIn _ p _ _ from amM);obtain⟨lm,anB,mI,anI,anC,anD⟩:=amV;have eb:0≠p.funcs.size:=by
  obtain⟨fn,_,h,_⟩:=dg.fns f0 dg.mem;have:=(Array.getElem?_eq_some_iff.1 h).1;omega
 have add1:∀{k m m'},runN p k (lone (Frame.enter p f0 args .normal) [dv] (a8 V τ 0))=.next m->step p m=.next m'->runN p (k+1) (lone (Frame.enter p f0 args .normal) [dv] (a8 V τ 0))=.next m':=λU ab=>by
  rw[runN_add,U];simp[runN,ab]
 have going:∀{k m o w},k<N->runN p k (lone (Frame.enter p f0 args .normal) [dv] (a8 V τ 0))=.next m->step p m≠.ended o w:=λ{k m o w} aq U ab=>by
  have:=runN_add p k (N-k) (lone (Frame.enter p f0 args .normal) [dv] (a8 V τ 0));rw[show k+(N-k)=N by omega,gq,U]at this;obtain⟨j,aC⟩:∃j,N-k=j+1:=⟨N-k-1,by omega⟩;rw[aC]at this;simp[runN,ab]at this
 have acj:∀{k:Nat}{g:Frame}{w:World},k<=N->runN p k (lone (Frame.enter p f0 args .normal) [dv] (a8 V τ 0))=.next (lone g [] w)->g.fn=0->False:=λ{k g w} aq U ab=>by
  rcases Nat.lt_or_ge k N with h|h
  ·obtain⟨_,al,_⟩:=iM k h _ U ⟨g,[],.running,none,none⟩ (by simp[lone]);rw[ab]at al;exact al.elim bO eb
  ·have e:k=N:=by omega
   subst e;rw[gq]at U;injection U with U;have:=congrArg (λm:Machine=>(m.gs[0]?).map (·.callers.length)) U;simp[lone]at this
 have anu:∀(fs:List Frame)(k:Nat)(f1:Frame)(w:World),k<=N->runN p k (lone (Frame.enter p f0 args .normal) [dv] (a8 V τ 0))=.next (lone f1 (fs++[dv]) w)->(∃ch,f1.mode=.panicking ch)->f1.defers=[]->f1.fn∈L->(∀g∈fs,Cf p F L g)->False:=by
  intro fs;induction fs with
  |nil=>
   intro k f1 w aq U ⟨ch,xu⟩ gE zV _;rcases Nat.lt_or_ge k N with h|h
   ·obtain⟨fn,_,Ux,_⟩:=dg.fns _ zV;exact acj (by omega) (add1 U (step_leave_panicked ⟨xu,gE,fn,Ux⟩)) rfl
   ·have e:k=N:=by omega
    subst e;rw[gq]at U;injection U with U;have:=congrArg (λm:Machine=>(m.gs[0]?).map (·.frame.mode)) U;simp[lone,lm,xu]at this
  |cons g fs B5=>
   intro k f1 w aq U ⟨ch,xu⟩ gE zV Kj;rcases Nat.lt_or_ge k N with h|h
   ·obtain⟨fn,_,Ux,_⟩:=dg.fns _ zV;have aiW:=Kj g (by simp);refine B5 (k+1) (g.raise ch) w (by omega) (add1 U (step_leave_panicked ⟨xu,gE,fn,Ux⟩)) ?_ ?_ ?_ λx aj=>Kj x (by simp[aj])
    ·unfold Frame.raise;split<;>exact⟨_,rfl⟩
    ·unfold Frame.raise;split<;>exact aiW.defers
    ·unfold Frame.raise;split<;>exact aiW.fn
   ·have e:k=N:=by omega
    subst e;rw[gq]at U;injection U with U;have:=congrArg (λm:Machine=>(m.gs[0]?).map (·.frame.mode)) U;simp[lone,lm,xu]at this
 have ank:∀{f:Frame},Cf p F L f->BK p F f:=λ{f} aQ=>by
  refine⟨λit gY=>?_,aQ.mode,λ_ d ds e=>by rw[aQ.defers]at e;cases e⟩;have:=aQ.items it gY;cases it with
  |code c=>intro y e;subst e;simp[uH,Ii]at this
  |inRegion ops k=>
   simp only[uH,List.all_eq_true,Bool.and_eq_true]at this;exact List.all_eq_true.2 λo ar=>(this o ar).2
  |inBlock=>trivial
  |inLoop=>trivial
  |inScope=>trivial
  |_=>cases this
 have am5:∀n,n<=N->runN p n (lone (Frame.enter p f0 args .normal) [dv] (a8 V τ 0))=.next (lone (oS n).1.f ((oS n).1.fs++[dv]) (a8 (oS n).1.V τ (D n))):=by
  intro n;induction n with
  |zero=>intro _;rfl
  |succ n anv=>
   intro aI;have U:=anv (by omega);have Lj:=(oS n).2;have x6:=QV (p:=p) (main:=true) (w:=a8 (oS n).1.V τ (D n)) (fr:=(oS n).1.f) (cs:=(oS n).1.fs++[dv]) (ank Lj.f) (.inl ⟨Lj.f.kind,by simp⟩);rw[Sem.runT_eq]at x6;have Ut:∀h bF,(lD p (oS n).1.f ((oS n).1.fs++[dv])).run p (a8 (oS n).1.V τ (D n))=.halt h bF->Us h->False:=λh bF he bq=>by
    rw[he]at x6;rcases bq with⟨v,rfl⟩|bq
    ·rcases x6 with⟨anE,af,w2,es2,zX,amr⟩|⟨o,w2,es2,zX⟩
     ·have anw:anE=(oS n).1.f:=amr λg a7 a b k e=>by
       have:=Lj.f.items (.code (.rangeFunc g a7 a b)) (by rw[e];simp);simp[uH,Ii]at this
      subst anw;have Lq:step p (lone (oS n).1.f ((oS n).1.fs++[dv]) (a8 (oS n).1.V τ (D n)))=.next (lone ((oS n).1.f.raise af) ((oS n).1.fs++[dv]) w2):=step_lone_go (by
       have:stepG p true { frame:=(oS n).1.f,callers:=(oS n).1.fs++[dv],status:=.running,dying:=none } (a8 (oS n).1.V τ (D n))=_:=zX;rw[this];rfl)
      refine anu _ (n+1) _ _ aI (add1 U Lq) ?_ ?_ ?_ Lj.fs
      ·unfold Frame.raise;split<;>exact⟨_,rfl⟩
      ·unfold Frame.raise;split<;>exact Lj.f.defers
      ·unfold Frame.raise;split<;>exact Lj.f.fn
     ·exact going (by omega) U (step_lone_ended (o:=o) (w':=w2) (by
       have:stepG p true { frame:=(oS n).1.f,callers:=(oS n).1.fs++[dv],status:=.running,dying:=none } (a8 (oS n).1.V τ (D n))=_:=zX;rw[this];rfl))
    ·have anx:∃o w2 es2,stepG p true (G (oS n).1.f ((oS n).1.fs++[dv])) (a8 (oS n).1.V τ (D n))=.ended o w2 es2:=by
      cases h with
      |stuck y=>exact x6 bq
      |unsupported y=>cases y<;>first|exact bq.elim|exact x6 bq
      |_=>exact bq.elim
     obtain⟨o,w2,es2,zX⟩:=anx;exact going (by omega) U (step_lone_ended (o:=o) (w':=w2) (by
      have:stepG p true { frame:=(oS n).1.f,callers:=(oS n).1.fs++[dv],status:=.running,dying:=none } (a8 (oS n).1.V τ (D n))=_:=zX;rw[this];rfl))
   have fU:∀x w1,(lD p (oS n).1.f ((oS n).1.fs++[dv])).run p (a8 (oS n).1.V τ (D n))=.ok x w1->step p (lone (oS n).1.f ((oS n).1.fs++[dv]) (a8 (oS n).1.V τ (D n)))=.next (lone x.1 x.2 w1):=λx w1 he=>by
    rw[he]at x6;obtain⟨es2,zX,_⟩:=x6;exact step_lone_go (by
     have:stepG p true { frame:=(oS n).1.f,callers:=(oS n).1.fs++[dv],status:=.running,dying:=none } (a8 (oS n).1.V τ (D n))=_:=zX;rw[this];rfl)
   rcases(bh n).2 with⟨_,ab⟩|⟨iJ,v,w,ab⟩|⟨h,bF,ab,al⟩
   ·exact add1 U (fU _ _ (ab [dv]))
   ·refine(acj aI (add1 U (fU (dv.finish v,[]) w ?_)) rfl).elim;rw[iJ.2];exact ab
   ·exact(Ut h bF ab al).elim
 have il:=am5 N (Nat.le_refl _);rw[gq]at il;injection il with il;have aK:fr=(oS N).1.f:=by
  have:=congrArg (λm:Machine=>(m.gs[0]?).map (·.frame)) il;simpa[lone]using this
 have aO:[dv]=(oS N).1.fs++[dv]:=by
  have:=congrArg (λm:Machine=>(m.gs[0]?).map (·.callers)) il;simpa only[lone,List.getElem?_toArray,List.getElem?_cons_zero,Option.map_some,Option.some.injEq]using this
 have bS:w'=a8 (oS N).1.V τ (D N):=congrArg (λm:Machine=>m.world) il;have b8:(oS N).1.fs=[]:=by
  have:=congrArg List.length aO;simp only[List.length_append,List.length_cons,List.length_nil]at this;exact List.length_eq_zero_iff.1 (by omega)
 refine(bh N).1 ⟨aK▸lm,b8⟩ v w' ?_ adO;rw[←bS,←aK];simp only[lD,lm,anB,anC,Sem.run_bind,anD];rfl
end
end
section
open Go Go.Conc
open Go.ConcN (sumTo upd sumTo_upd upd_ne upd_same)
section
variable{p p':Program}{F:FuncId->Bool}{fn0:FuncId}{ro:Nat->Prop}{W0:World}{Post:Value->World->Prop}
theorem Zx[cQ]{R:Value->World->Prop}(ae:PP (bH p F) p p')(dH:pk p p' F)(fH:IG p p' F ro W0 (Go.Conc.Good p' Post))(c1:p'.inits.idxOf? fn0=none)(gO:(p'.funcs[fn0]?).map (·.results)=(p.funcs[fn0]?).map (·.results))
  (Ly:∀f a w nE,cQ.spec f a w nE->nO p f/\a.size=arity p f)
  (acn:∀f L,cQ.libs f L->IL p F L fn0 f)
  (iJ:∀v bg V W σ τ d,R v (a8 V τ d)->aZ (bH p F) σ v bg->dN (bH p F) σ ro V W->e7 W0 W->Post bg W)
  {f:Frame} {cs:List Frame} {V:World} (h:Way p (mM R) f cs V):∀(bj:Frame)(cs':List Frame)(S:Nat->Prop)(ρ:bA)(W:World)(gs:Array Goroutine)(sl:Option (Nat×Nat))(t:Trace)(q:Nat->Nat),
   CK p p' F ([],fn0,false) dv [] ρ (f,cs) (bj,cs')->oP p p' F ro W0 S ρ V W (G bj cs') gs t q->Ends p' (Go.Conc.Good p' Post) (crowd gs W sl) t:=by
 induction h with
 |@done fr cs w h=>
  intro bj cs' S ρ W gs sl t q h6 hm;exfalso;obtain⟨U,_⟩:=h w.tape 0;subst U;rcases h6 with h|⟨g,a,a',us,us',aK,aO,ao,aN,au,bh⟩
  ·obtain⟨_,_,_,_,aK,_,aO⟩:=h.shape;cases aK;exact aO rfl
  ·injection aK with bS b8;subst b8;cases bh
 |@step fr cs V hz nm w2 es he bh ah k az=>
  intro bj cs' S ρ W gs sl t q h6;have s9:=Ri h6 he;clear h6;generalize e3:sumTo gs.size q=M;induction M using Nat.strongRecOn generalizing S W gs sl t q with
  |_ M KT=>
   intro hm;rcases Ka (sl:=sl) hm.g0 rfl hm.ey hm.pa with⟨d,fT,oD⟩|⟨ed,d,fT,ops,dF,oD,bX,rP,ak,BZ,tz,aU⟩
   ·have hm:=hm.at (p:=p) d;by_cases il:fr.mode=.returning->fr.defers=[]->cs≠[dv]
    ·have mD:wF fr:=by
      cases s9 with
      |bot h=>exact noMark h (by simp[rr])
      |cons h _=>exact noMark h (by simp[rr])
     obtain⟨τ,d2,σ,f1,cs1,bF,es1,U,ab,al,aJ,bm,_,_⟩:=Ia (main:=true) ae dH hm.wr hm.og s9 il mD bh ah;have sS:=runT_crowd_go (P:=p') (sl:=fT) (i:=0) hm.g0 (show stepG p' (0==0) (G bj cs') (W.at d)=_ from U);have aU:0<gs.size:=(Array.getElem?_eq_some_iff.1 hm.g0).1;have nk:∀b,S b->∀a,¬σ a b:=λb hb a bL=>by
      rcases aJ.new a b bL with h|h
      ·exact hm.ma b hb a h
      ·exact absurd (hm.shl b hb) (by omega)
     have gX:∀a b,σ a b->b<bF.heap.size:=λa b bL=>by
      obtain⟨_,_,_,k,_⟩:=al.obj _ _ bL;exact(Array.getElem?_eq_some_iff.1 k).1
     refine Ends.next (oD.trans sS) (az τ d2 f1 cs1 S σ bF _ fT _ q ab ⟨by simp[aU],Leavers.step0 hm.ey hm.g0,(hm.pa.mono aJ.size).own bm nk gX,λop aE=>by
      simp only[Array.size_setIfInBounds,Array.size_map];rcases Array.mem_append.1 aE with h|h
      ·exact hm.k4 op h
      ·obtain⟨e,_,rfl⟩:=Go.Conc.mem_ofEvents h;exact aU,nk,λb hb=>Nat.lt_of_lt_of_le (hm.shl b hb) aJ.size,al,λb hb=>hm.og b (Nat.le_trans aJ.size hb),λa b bL hb=>?_,⟨Nat.le_trans hm.db.size aJ.size,aJ.os.trans hm.db.os,aJ.out.trans hm.db.out,λb hb=>?_⟩⟩)
     ·rcases aJ.new a b bL with h|h
      ·exact hm.old a b h hb
      ·exact absurd (Nat.lt_of_lt_of_le hb hm.db.size) (by omega)
     ·refine(aJ.keep b (Nat.lt_of_lt_of_le hb hm.db.size) ?_).trans (hm.db.blk b hb);by_cases hex:∃a,ρ a b
      ·obtain⟨a,au⟩:=hex;exact .inr (hm.old a b au hb)
      ·exact .inl λa au=>hex ⟨a,au⟩
    ·have hcs:cs=[dv]:=Classical.byContradiction λh=>il λ_ _=>h;have jZ:fr.mode=.returning:=Classical.byContradiction λh=>il λU _=>absurd U h;have iY:fr.defers=[]:=Classical.byContradiction λh=>il λ_ U=>absurd U h;subst hcs;cases s9 with
     |cons _ h=>cases h with
      |cons _ ab=>cases ab
     |bot h=>
      have dX:=h.nn _ rfl;dsimp only at dX;obtain⟨τ,d2,σ,v,bg,bF,es1,U,ab,al,aJ,bm,bI,cS⟩:=X6 (fn0:=fn0) ae hm.wr hm.og h jZ iY (by rw[dX];exact gO) (by rw[dX];exact c1) bh;have xt:=k τ d2;rw[ab,al]at xt;obtain⟨ajz,d3,cn⟩:=IC xt;have sS:=runT_many_ended (P:=p') (sl:=fT) (i:=0) hm.g0 (show stepG p' (0==0) (G bj []) (W.at d)=_ from U);have nk:∀b,S b->∀a,¬σ a b:=λb hb a bL=>by
       rcases bI.new a b bL with h|h
       ·exact hm.ma b hb a h
       ·exact absurd (hm.shl b hb) (by omega)
      have gX:∀a b,σ a b->b<bF.heap.size:=λa b bL=>by
       obtain⟨_,_,_,k,_⟩:=bm.obj _ _ bL;exact(Array.getElem?_eq_some_iff.1 k).1
      have vy:e7 W0 bF:=⟨Nat.le_trans hm.db.size bI.size,bI.os.trans hm.db.os,bI.out.trans hm.db.out,λb hb=>by
       refine(bI.keep b (Nat.lt_of_lt_of_le hb hm.db.size) ?_).trans (hm.db.blk b hb);by_cases hex:∃a,ρ a b
       ·obtain⟨a,au⟩:=hex;exact .inr (hm.old a b au hb)
       ·exact .inl λa au=>hex ⟨a,au⟩⟩
      have UO:=((hm.pa.mono bI.size).own (fn:=bj.fn) (pos:=bj.place) cS nk gX).rq;refine Ends.last (oD.trans sS) ⟨bg,rfl,iJ v bg _ bF σ ajz d3 cn aJ bm vy,UO.clean,UO.over,⟨λx aj=>?_,rfl⟩,λj x aj aC=>?_⟩
      ·obtain⟨j,aC⟩:=List.mem_iff_getElem?.1 aj;rw[List.getElem?_drop]at aC;exact⟨_,(hm.ey.old (1+j) x (by omega) (by simpa[crowd]using aC)).leaves⟩
      ·have aH:=hm.ey.old j x (by omega) aj;refine⟨q j,?_⟩;have e:(t++MemOp.ofEvents 0 bj.fn bj.place es1).deaf j (t++MemOp.ofEvents 0 bj.fn bj.place es1).size=Deaf t j:=
        Deaf_other t (g:=j) (g':=0) (by omega) _ (λop aE=>by obtain⟨e,_,rfl⟩:=Go.Conc.mem_ofEvents aE;rfl)
       show Goroutine.endsWith p' _ _ _ _=_;rw[show(t++MemOp.ofEvents 0 (G bj []).frame.fn (G bj []).frame.place es1).deaf j (t++MemOp.ofEvents 0 (G bj []).frame.fn (G bj []).frame.place es1).size=Deaf t j from e];exact aH.hears _
   ·exact Ends.next oD (KT (sumTo ed.size dF) (by rw[bX,←e3];exact aU) S (W.at d) ed fT _ dF rfl ⟨rP,ak,tz,λop aE=>(by rw[bX];exact(Array.mem_append.1 aE).elim (hm.k4 op) (BZ op)),hm.ma,hm.shl,hm.wr.B0 _ d,hm.og,hm.old,⟨hm.db.size,hm.db.os,hm.db.out,hm.db.blk⟩⟩)
 |@spec f args c cs V nE ah ao k az=>
  intro bj cs' S ρ W gs sl t q h6 hm;obtain⟨mH,bX⟩:=Ly _ _ _ _ (ao W.tape 0);rcases h6 with h|⟨g,a,a',us,us',aK,aO,Ua,aN,au,bh⟩
  ·exfalso;obtain⟨X,aQ,_⟩:=h.top;exact V4 dH mH aQ
  ·dsimp only at aK aO;injection aK with bS b8;injection aO with en l9;subst b8 en l9;have ue:f=g:=congrArg Frame.fn bS;subst ue;have ai0:args=a:=by
    have UP:=congrArg Frame.tmps bS;simp only[Frame.enter]at UP;have UQ:=congrArg Array.toList UP;simp only[Array.toList_append]at UQ;have:=(List.append_inj UQ (by simp[bX,aN])).1;exact Array.toList_inj.1 this
   subst ai0;obtain⟨u,u',cs1,UR,L6,ajA,_⟩:=bh.shape;injection L6 with ai1 ai2;subst ai1 ai2 ajA;obtain⟨X,ly,n8⟩:=bh.top;refine fH f args a' u' UR S ρ V W gs sl t q nE mH bX ao au ?_ hm λσ v bg k3 bF ba hQ lr t1 cy tK hle fp xu=>?_
   ·exact aa5 ly.mode
   ·exact az v k3 tK (u'.finish bg) UR ba σ bF hQ lr t1 cy (.inl (n8 σ _ _ hle ((ly.mono hle).finish fp))) xu
 |@lu f L apM n args c cs V anK ak aT ah akU anr k az=>
  intro bj cs' S ρ W gs sl t q h6 hm;exact aeK ae dH (acn f L ak) aT akU anr (λv w' ai bj cs' S ρ W gs sl t q U ab=>az v w' ai bj cs' S ρ W gs sl t q U ab) bj cs' S ρ W gs sl t q h6 hm
end
end
section
open Go Go.Conc
section
variable{p p':Program}{F:FuncId->Bool}{fn0:FuncId}{W:World}{Post:Value->World->Prop}
theorem je.acV{iF US:Prop}(h:iF->US){C:ee}{ρ:bA}{x y:Item}(k:je p F iF C ρ x y):je p F US C ρ x y:=by
 cases k with
 |code k=>exact .code k
 |reg k bB k2=>exact .reg k bB λx=>h (k2 x)
 |inBlock=>exact .inBlock
 |inLoop k=>exact .inLoop k
 |inScope k=>exact .inScope k
 |inRegion k bB k2=>exact .inRegion k bB λx=>h (k2 x)
 |wz k=>exact .wz k
 |uy k=>exact .uy k
 |begin=>exact .begin
theorem hh.ad6{C:ee}{ρ:bA}{f bj:Frame}(h:hh p F p' C ρ none f bj)(ad:f.roundOf=none)(X:List Deferred×FuncId×Bool)(U:X.1=[])(ab:X.2.1=f.fn):hh p F p' C ρ (some X) f bj:=by
 obtain⟨ds,gE,jY⟩:=h.defers;exact⟨h.fn,h.tmps,h.todo.mono λ_ _ x=>x.acV λe=>e.elim,⟨ds,gE,by rw[jY];simp[U]⟩,h.mode,h.kind,λe=>(by cases e),h.round,λ_=>ad,λe=>(by cases e),h.cE,λx e=>by cases e;exact ab.symm,h.tV,λ_ _ _=>h.mZ rfl⟩
def rows(W:World):Nat->Prop:=λb=>∃c e f,W.heap[b]?=some (.cells c e f)
theorem XN[cQ]{R:Ending->World->Prop}(ae:PP (bH p F) p p')(dH:pk p p' F)(vL:p.globals.size<=W.heap.size)(fH:IG p p' F (rows W) W (Go.Conc.Good p' Post))(aw:F fn0=true)(c1:p'.inits.idxOf? fn0=none)
  (Ly:∀f a w nE,cQ.spec f a w nE->nO p f/\a.size=arity p f)
  (acn:∀f L,cQ.libs f L->IL p F L fn0 f)
  (iJ:∀v bg V bF σ,R (.returned v) V->aZ (bH p F) σ v bg->dN (bH p F) σ (rows W) V bF->e7 W bF->Post bg bF)
  {V:World} (ql:dN (bH p F) (ef (rows W)) (rows W) V W) {args:Array Value} (au:cv (bH p F) (ef (rows W)) args args) (ah:lb p fn0 args V R):Ends p' (Go.Conc.Good p' Post) (solo (G (Frame.enter p' fn0 args .normal) []) W) #[]:=by
 have hw:=ah (mM λv w=>∃τ d,R (.returned v) (a8 w τ d)) dv [] (.inl rfl) λv w' ai=>.done λτ d=>⟨rfl,v,rfl,w'.tape,w'.drawn,ai⟩;rw[solo_eq_crowd];have ly:=OG dH aw au;have gO:(p'.funcs[fn0]?).map (·.results)=(p.funcs[fn0]?).map (·.results):=ly.res rfl rfl;refine Zx (fn0:=fn0) ae dH fH c1 gO Ly acn (λv bg V bF σ τ d ⟨cI,d1,U⟩ ab al aJ=>iJ v bg _ bF σ U ab (al.a8 cI d1) aJ) hw _ [] (λ_=>False) (ef (rows W)) W #[G (Frame.enter p' fn0 args .normal) []] none #[] (λ_=>0) (.inl (.bot (ly.ad6 rfl _ rfl rfl))) ⟨rfl,leavers_one _ _,⟨?_,λi op x aX=>by simp at aX,λl _ i a au=>by simp[touchAt,Trace.act?]at au,λi a au=>by simp[touchAt,Trace.act?]at au⟩,λop aE=>by simp at aE,λb hb=>hb.elim,λb hb=>hb.elim,ql,?_,λa b bL _=>?_,e7.refl W⟩
 ·have e:hP (λ_=>False)=λ_=>False:=by
   funext l;exact propext ⟨λ⟨_,_,h⟩=>h,λh=>h.elim⟩
  rw[e];exact past_nil.mono (Nat.zero_le _)
 ·rintro b hb ⟨c,e,f,h⟩;have:=(Array.getElem?_eq_some_iff.1 h).1;omega
 ·rw[bL.1];exact bL.2
end
end
section
open Go Go.RowKit Go.WideShapes Go.ChangeShapes Go.Conc
variable[cQ]
section
variable{H:Type}{enc:TypeId×Value->H}{P:Program}{w V:World}{spare:Nat->Bool}{held:Bool}{C:ee}{M:Nat->Prop}
theorem Ps{a:Addr}{v:Value}(h:w.cell? a=some v):∃c e f,w.heap[a.block]?=some (.cells c e f):=by grind [World.cell?]
theorem Ie{α β:Type}{R:α->β->Prop}{xs:List α}{ys:List β}(h:df R xs ys):∀(i:Nat) x y,xs[i]?=some x->ys[i]?=some y->R x y:=by
 induction h with
 |nil=>grind
 |cons h _ az=>grind
theorem QC:∀(ez:List Field)(o e:Nat),qh P ez o e=true->o<=e
 |[],o,e,h=>by grind [qh]
 |f::ez,o,e,h=>by
  simp[qh]at h;have:=QC ez _ e h.2;omega
theorem Pt{R:Value->Value->Prop}{cs:List Value}:∀(ez:List Field)(o e:Nat),qh P ez o e=true->(∀(i:Nat) f,ez[i]?=some f->df R ((cs.drop f.offset).take (P.cellsOf f.type)) ((cs.drop f.offset).take (P.cellsOf f.type)))->df R ((cs.drop o).take (e-o)) ((cs.drop o).take (e-o))
 |[],o,e,h,_=>by
  simp[qh]at h;subst h;rw[Nat.sub_self,List.take_zero];exact .nil
 |f::ez,o,e,h,au=>by
  simp[qh]at h;obtain⟨rfl,h⟩:=h;have hle:=QC ez _ e h;have U:=Pt ez _ e h λi bj aQ=>au (i+1) bj (by grind);have aK:(cs.drop f.offset).take (e-f.offset)=(cs.drop f.offset).take (P.cellsOf f.type)++(cs.drop (f.offset+P.cellsOf f.type)).take (e-(f.offset+P.cellsOf f.type)):=by rw[show e-f.offset=P.cellsOf f.type+(e-(f.offset+P.cellsOf f.type))by omega,List.take_add,List.drop_drop]
  rw[aK];exact(au 0 f rfl).append U
variable(fM:∀b,spare b=true)(e3:∀b c e f,w.heap[b]?=some (.cells c e f)->M b)(bX:V.heap.size=w.heap.size)(ew:∀b o v,M b->w.cell? ⟨b,o,none⟩=some v->aZ C (ef M) v v->V.cell? ⟨b,o,none⟩=some v)
include fM e3 bX ew
theorem HG:∀(fuel k:Nat)(t:TypeId)(cs:List Value)(x:DataW H×List MemPlace),DataW.trod enc P w 0 spare held fuel t cs=some x->sN P k t=true->df (aZ C (ef M)) cs cs/\∃pcs,bl iK V pcs cs/\qg P k t pcs
 |0,k,t,cs,x,h,_=>by trivial
 |fuel+1,0,t,cs,x,h,aq=>by trivial
 |fuel+1,k+1,t,cs,x,h,aq=>by
  unfold sN at aq;split at aq
  ·rename_i hu;obtain⟨b,rfl,_⟩:=DataW.trod_bool hu h;exact⟨.cons .bool .nil,[.bool b],⟨_,_,rfl,rfl,rfl⟩,by grind [qg]⟩
  ·rename_i i hu;obtain⟨n,rfl,_,hw⟩:=DataW.trod_int hu h;exact⟨.cons .int .nil,[.int i n],⟨_,_,rfl,rfl,rfl⟩,by grind [qg]⟩
  ·rename_i hu;obtain⟨s,rfl,_⟩:=DataW.trod_string hu h;exact⟨.cons .string .nil,[.str s],⟨_,_,rfl,rfl,rfl⟩,by grind [qg]⟩
  ·rename_i e hu;simp only[Bool.and_eq_true,decide_eq_true_eq]at aq;obtain⟨aiz,eb⟩:=aq;unfold qg;rw[hu];rcases DataW.trod_slice hu h with⟨rfl,_⟩|⟨a,len,cap,elems,rest,n,aI,rfl,_,_,F7,ama,amb,s7,wN,_⟩
   ·exact⟨.cons .bC .nil,[.bC],⟨_,_,rfl,rfl,rfl⟩,.inl rfl⟩
   ·have qv:fuel=n:=by omega
    subst qv;have m5:∀x,(a.add x).off=a.off+x/\(a.add x).block=a.block:=λx=>by grind [Addr.add]
    obtain⟨ls,gk,bQ⟩:=pick (Q:=λi l=>∃l5,w.cells? 0 (a.add (i*P.cellsOf e)) (P.cellsOf e)=some l5/\df (aZ C (ef M)) l5 l5/\bl iK V l l5/\qg P k e l) len λi aX=>by
     have aN:=s7 i aX;have:elems[i]?=some elems[i]:=by simp
     rw[this]at aN;obtain⟨l5,hA,oT⟩:=Option.bind_eq_some_iff.1 aN;obtain⟨Uz,pcs,oM,lZ⟩:=HG fuel k e l5 _ oT aiz;grind
    have hlen:∀l∈ls,qg P k e l/\l.length=P.cellsOf e:=λl ak=>by
     obtain⟨i,aX⟩:=List.mem_iff_getElem?.1 ak;obtain⟨l5,ah,_,ai,ao⟩:=bQ i l aX;exact⟨ao,by rw[mg ai];exact(D5 ah eb).2.1⟩
    have uX:aZ C (ef M) (.slice (some a) len cap) (.slice (some a) len cap):=by
     by_cases aiA:cap=0
     ·have n9:len=0:=by omega
      subst aiA n9;exact .jc
     ·have hex:∃i l5,w.cells? 0 (a.add (i*P.cellsOf e)) (P.cellsOf e)=some l5:=by
       by_cases n9:len=0
       ·obtain⟨eh,r2⟩:=wN (fM _);have aN:=r2 0 (by omega);have:rest[0]?=some (rest[0]'(by omega)):=by simp
        rw[this]at aN;obtain⟨l5,hA,_⟩:=Option.bind_eq_some_iff.1 aN;exact⟨_,l5,hA⟩
       ·have jX:ls[0]?=some (ls[0]'(by omega)):=by simp
        obtain⟨l5,ah,_⟩:=bQ 0 _ jX;exact⟨0,l5,ah⟩
      obtain⟨i,l5,ah⟩:=hex;obtain⟨_,iu,mX⟩:=D5 ah eb;have:=mX 0 (l5[0]'(by omega)) (by simp);rw[(m5 _).2]at this;obtain⟨c,e,f,du⟩:=Ps this;exact .sl ⟨⟨⟨rfl,e3 _ _ _ _ du⟩,rfl,rfl⟩,e3 _ _ _ _ du⟩
    refine⟨.cons uX .nil,[.sl none (P.cellsOf e) a.off ls.length ls.flatten],⟨_,_,rfl,?_,rfl⟩,.inr ⟨a.off,ls,rfl,by rw[gk];omega,hlen⟩⟩;simp only[aY];refine⟨MT λl ak=>(hlen l ak).2,some a,cap,by rw[gk],by rw[gk];exact F7,?_⟩;by_cases aT:len=0
    ·exact .inl (by simpa[gk]using aT)
    ·have jX:ls[0]?=some (ls[0]'(by omega)):=by simp
     obtain⟨l5,ah,_,ai,ao⟩:=bQ 0 _ jX;simp only[Nat.zero_mul,Addr.add,if_true]at ah;obtain⟨SL,iu,mX⟩:=D5 ah eb;have FZ:M a.block/\a.block<V.heap.size:=by
      have:=mX 0 (l5[0]'(by omega)) (by simp);obtain⟨c,e,f,du⟩:=Ps this;exact⟨e3 _ _ _ _ du,by rw[bX];exact(Array.getElem?_eq_some_iff.1 du).1⟩
     refine .inr ⟨a.block,by obtain⟨b,o,s⟩:=a;simp only at SL;subst SL;rfl,⟨By _,FZ.2⟩,MU (c:=P.cellsOf e) λi l ak=>?_⟩;obtain⟨lz,gv,mH,iw,_⟩:=bQ i l ak;obtain⟨_,agy,adQ⟩:=D5 gv eb;refine⟨by rw[mg iw,agy],r5.2 λj p aC=>?_⟩;obtain⟨v,U,ab⟩:=o1 iw aC;have:=adQ j v U;rw[(m5 _).1,(m5 _).2]at this;exact⟨v,ew _ _ _ FZ.1 this (Ie mH j v v U U),ab⟩
  ·rename_i fs hu;simp only[Bool.and_eq_true,List.all_eq_true]at aq;obtain⟨aiB,du⟩:=aq;unfold qg;rw[hu];obtain⟨xs,n,aI,_,iu,amc,s7⟩:=DataW.trod_struct hu h;have qv:fuel=n:=by omega
   subst qv;obtain⟨ls,gk,bQ⟩:=pick (Q:=λi l=>∀f,fs[i]?=some f->df (aZ C (ef M)) ((cs.drop f.offset).take (P.cellsOf f.type)) ((cs.drop f.offset).take (P.cellsOf f.type))/\bl iK V l ((cs.drop f.offset).take (P.cellsOf f.type))/\qg P k f.type l) fs.size λi aX=>by
    have aQ:fs[i]?=some fs[i]:=by simp
    have aN:=s7 i fs[i] aQ;have:xs[i]?=some (xs[i]'(by omega)):=by simp
    rw[this]at aN;obtain⟨Uz,pcs,oM,lZ⟩:=HG fuel k _ _ _ aN (aiB _ (by simp));exact⟨pcs,λf pJ=>by rw[aQ]at pJ;injection pJ with pJ;subst pJ;exact⟨Uz,oM,lZ⟩⟩
   obtain⟨_,ab,al⟩:=Nv fs.toList ls 0 (P.cellsOf t) du (by simpa using gk) (λi f l aQ ak=>(bQ i l ak f (by simpa using aQ)).2.1) (by omega);have lh:=Pt (R:=aZ C (ef M)) (P:=P) (cs:=cs) fs.toList 0 (P.cellsOf t) du λi f aQ=>by
    have aX:i<fs.size:=by simpa using(List.getElem?_eq_some_iff.1 aQ).1
    have aiC:ls[i]?=some (ls[i]'(by omega)):=by simp
    exact(bQ i _ aiC f (by simpa using aQ)).1
   refine⟨by simpa[←iu]using lh,ls.flatten,?_,ls,rfl,gk,λi f l aQ ak=>⟨(bQ i l ak f aQ).2.2,al i f l (by simpa using aQ) ak⟩⟩;simpa[←iu]using ab
  ·cases aq
omit fM e3 bX ew in
theorem acp{pcs:List aa}{v:Value}(ah:v.cells=#[v])(h:bl iK V pcs v.cells.toList):∃q,pcs=[q]/\aY iK V q v:=single ah h
theorem aaK{k:Nat}{t:TypeId}{v:Value}{d:DataW H}{a7:List MemPlace}{r:Reach}{gf:Nat}(h:DataW.Trod enc P w 0 spare held t v d a7)(ai:Value.okWide P w r gf t v)(aq:sN P k t=true):aZ C (ef M) v v/\∃q,aY iK V q v/\l4 P k t q:=by
 obtain⟨fuel,aQ⟩:=h;obtain⟨aT,pcs,U,ab⟩:=HG fM e3 bX ew fuel k t _ _ aQ aq;cases k with
 |zero=>trivial
 |succ k=>
  unfold sN at aq;have flat:∀{d},P.underlying t=some d->(∀fs,d≠.struct fs)->(∀n e,d≠.array n e)->v.cells=#[v]->aZ C (ef M) v v/\∃q,aY iK V q v/\l4 P (k+1) t q:=λ{d} hu xD TZ ah=>by
   obtain⟨q,rfl,aH⟩:=acp ah U;refine⟨?_,q,aH,?_⟩
   ·rw[ah]at aT;exact Ie aT 0 v v rfl rfl
   grind [l4,ik]
  split at aq
  ·rename_i hu;obtain⟨b,rfl⟩:=okWide_bool hu ai;exact flat hu (λ_=>by simp) (λ_ _=>by simp) rfl
  ·rename_i i hu;obtain⟨n,rfl⟩:=okWide_int hu ai;exact flat hu (λ_=>by simp) (λ_ _=>by simp) rfl
  ·rename_i hu;obtain⟨s,rfl⟩:=okWide_string hu ai;exact flat hu (λ_=>by simp) (λ_ _=>by simp) rfl
  ·rename_i e hu;obtain⟨a,len,cap,rfl⟩:=okWide_slice hu ai;exact flat hu (λ_=>by simp) (λ_ _=>by simp) rfl
  ·rename_i fs hu;obtain⟨cs,rfl,_⟩:=okWide_struct hu ai;refine⟨aZ.te (bE.As aT),.agg pcs,?_,?_⟩
   ·exact⟨cs.toList,by simp,U⟩
   grind [l4,ik]
  ·cases aq
theorem On{k:Nat}{r:Reach}{gf:Nat}:∀{fl:List TypeId}{af:List Value}{ds:List (DataW H)}{a7:List MemPlace},DataW.TrodAll enc P w 0 spare held fl af ds a7->(∀(j:Nat) t v,fl[j]?=some t->af[j]?=some v->Value.okWide P w r gf t v)->fl.all (sN P k)=true ->
  df (aZ C (ef M)) af af/\∃bz,bl iK V bz af/\qu P k fl bz
 |[],[],[],_,_,_,_=>⟨.nil,[],rfl,trivial⟩
 |t::fl,v::af,d::ds,a7,h,ai,aq=>by
  obtain⟨p,q,U,ab,_⟩:=h;simp only[List.all_cons,Bool.and_eq_true]at aq;obtain⟨xG,x,lv,dG⟩:=aaK fM e3 bX ew U (ai 0 t v rfl rfl) aq.1;obtain⟨nc,bz,tG,xI⟩:=On ab (λj t v a1 iw=>ai (j+1) t v (by grind) (by grind)) aq.2;exact⟨.cons xG nc,x::bz,⟨v,af,rfl,lv,tG⟩,dG,xI⟩
 |[],[],_::_,_,h,_,_=>h.elim
 |[],_::_,_,_,h,_,_=>h.elim
 |_::_,[],_,_,h,_,_=>h.elim
 |_::_,_::_,[],_,h,_,_=>h.elim
end
end
section
open Go Go.Conc Go.ConcN Go.RowKit Go.Conc.Lib Go.ConcR.Gen Go.ConcN.Gen
open Go.ConcR (KK wgBlock WgAt stA smA rd wr mk DC0)
abbrev KX(ty:TypeId)(Wg:Nat)(_ fB:World):Prop:=WgLive ty Wg fB
abbrev jb(P:Program)(ty:TypeId)(Wg:Nat)(Stop:Goroutine->World->Prop)(g:Goroutine):Prop:=∀w,WgLive ty Wg w->Goes P true (KX ty Wg) DC0 Stop 200 g w
section
variable(P:Program)(ty:TypeId)(Wg:Nat)
def wT(e:Mark)(iO:Goroutine->World->Prop)(g:Goroutine)(w:World):Prop:=
 g.status=.running/\∃g',stepG P true g w=.go g' w #[mk e]/\jb P ty Wg iO g'
def yS:List Mark->(Goroutine->World->Prop)->Goroutine->World->Prop
 |[],iO=>iO
 |e::es,iO=>wT P ty Wg e (yS es iO)
def Tg(iO:Goroutine->World->Prop)(g:Goroutine)(w:World):Prop:=
 g.status=.running/\∀v:Nat,v<2147483647->WgAt ty Wg w (v*KK) 0 ->
  ∃g',stepG P true g w=.go g' (w.setCell (stA Wg) (.int .u64 ((v+1)*KK))) #[rd (stA Wg),wr (stA Wg)] /\
   ∃ms,(ms=[.enable]\/ms=[.read (smA Wg),.enable])/\jb P ty Wg (yS P ty Wg ms iO) g'
variable(iO cY:Goroutine->World->Prop)
def ahw(g:Goroutine)(w:World):Prop:=
 g.status=.running/\(WgAt ty Wg w 0 0->∃g',stepG P true g w=.go g' w #[rd (stA Wg)]/\jb P ty Wg (yS P ty Wg [.enable,.acquire (stA Wg)] iO) g')
def T6(g:Goroutine)(w:World):Prop:=
 g.status=.running/\g.offers=none /\
  ((∃st,WgAt ty Wg w st 0)->stepG P true g w=.go { g with status:=.blocked } w #[]) /\
  (WgAt ty Wg w 0 1->∃g',stepG P true g w=.go g' (w.setCell (smA Wg) (.int .u32 0)) (semEvents (smA Wg))/\jb P ty Wg (ahw P ty Wg iO) g')
def ahx(af:Nat)(g:Goroutine)(w:World):Prop:=
 g.status=.running/\∀v:Nat,v<2147483648->WgAt ty Wg w (v*KK) 0 ->
  (v=af->∃g',stepG P true g w=.go g' (w.setCell (stA Wg) (.int .u64 (v*KK+1))) #[rd (stA Wg),wr (stA Wg)]/\∃ms,(ms=[]\/ms=[.write (smA Wg)])/\jb P ty Wg (yS P ty Wg ms (T6 P ty Wg iO)) g') /\
  (v≠af->∃g',stepG P true g w=.go g' w #[rd (stA Wg)]/\jb P ty Wg cY g')
def ahy(g:Goroutine)(w:World):Prop:=
 g.status=.running/\∀v:Nat,v<2147483648->WgAt ty Wg w (v*KK) 0->∃g',stepG P true g w=.go g' w #[rd (stA Wg)] /\
  (v=0->jb P ty Wg (yS P ty Wg [.enable,.acquire (stA Wg)] iO) g')/\(v≠0->jb P ty Wg (ahx P ty Wg iO cY v) g')
end
section
variable{L:WgLink}{Wg:Nat}{nz:Frame}{nA:Act}{jV:Array Oper}{nB:Nat}{m1:List Nat}{nC:List Item}{cs:List Frame}
set_option maxRecDepth 100000 in
set_option maxHeartbeats 8000000 in
theorem aac{P:Program}(H:WgLib P L):jb P L.tWg Wg (wT P L.tWg Wg .disable (Tg P L.tWg Wg λg _=>g=G (nz.at (nA.put ((jV[nB]?).bind (·.dst)) (.tuple #[])) (.inRegion jV m1::nC)) cs))
   (G ((base L.add).at ⟨#[.pointer (some ⟨Wg,0,none⟩),.int .i64 1,undef,undef,undef,undef,undef,undef,undef,undef,undef,undef,undef,undef,undef,undef,undef,undef,undef,undef,undef,undef,undef,undef,undef,undef,undef,undef,undef,undef,undef,undef,undef,undef,undef,undef,undef,undef,undef,undef,undef,undef,undef,undef,undef,undef,undef,undef,undef,undef,undef,undef,undef,undef,undef,undef,undef,undef,undef,undef,undef,undef,undef,undef,undef,undef,undef,undef,undef,undef,undef,undef,undef,undef,undef,undef,undef,undef,undef,undef,undef,undef,undef,undef,undef,undef,undef,undef,undef,undef,undef,undef,undef,undef,undef,undef,undef,undef,undef,undef,undef,undef,undef,undef,undef,undef,undef,undef,undef,undef,undef,undef,undef,undef,undef,undef,undef],[]⟩ [.code (body_add L)]) (nz.at nA (.inRegion jV (nB::m1)::nC)::cs)):=by
 lib_facts
 refine λw aw=>?_;simp only[body_add,addFn,Option.getD_some]
 u_c stepG_seq (λ_ r=>r) aw
 u_cond true (λ_ r=>r) aw
 u_c stepG_seq (λ_ r=>r) aw
 u_c stepG_seq (λ_ r=>r) aw
 u_reg (λ_ r=>r) aw
 u_op (λ_ r=>r) aw
 u_op (λ_ r=>r) aw
 u_c stepG_region_end (λ_ r=>r) aw
 u_cond false (λ_ r=>r) aw
 u_c stepG_skip (λ_ r=>r) aw
 u_c stepG_seq (λ_ r=>r) aw
 u_reg (λ_ r=>r) aw
 refine Goes.stop (λfB pP=>⟨rfl,_,stepG_mark0 .disable (by simp) rfl rfl (by k_ne) rfl H.f_disable (x_disable_n L) (x_disable_b L) (x_disable_x L) (x_disable_f L),λw aw=>?_⟩)
 walk_nrm
 u_c stepG_region_end (λ_ r=>r) aw
 u_reg (λ_ r=>r) aw
 u_defer (λ_ r=>r) aw
 u_c stepG_region_end (λ_ r=>r) aw
 u_c stepG_seq (λ_ r=>r) aw
 u_reg (λ_ r=>r) aw
 u_op (λ_ r=>r) aw
 u_c stepG_region_end (λ_ r=>r) aw
 u_c stepG_seq (λ_ r=>r) aw
 u_c stepG_seq (λ_ r=>r) aw
 u_reg (λ_ r=>r) aw
 u_bub (λ_ r=>r) aw
 u_c stepG_region_end (λ_ r=>r) aw
 u_cond false (λ_ r=>r) aw
 u_c stepG_skip (λ_ r=>r) aw
 u_c stepG_seq (λ_ r=>r) aw
 u_reg (λ_ r=>r) aw
 u_op (λ_ r=>r) aw
 u_op (λ_ r=>r) aw
 u_op (λ_ r=>r) aw
 u_op (λ_ r=>r) aw
 u_op (λ_ r=>r) aw
 u_op (λ_ r=>r) aw
 u_call H.f_uAdd (nm_uAdd L) uAddFn (λ_ r=>r) aw
 u_c stepG_seq (λ_ r=>r) aw
 u_reg (λ_ r=>r) aw
 u_op (λ_ r=>r) aw
 u_c stepG_region_end (λ_ r=>r) aw
 u_c stepG_seq (λ_ r=>r) aw
 u_reg (λ_ r=>r) aw
 u_op (λ_ r=>r) aw
 u_op (λ_ r=>r) aw
 u_op (λ_ r=>r) aw
 u_op (λ_ r=>r) aw
 refine Goes.stop (λvI ajg=>?_);clear aw;refine⟨rfl,λv ai hw=>?_⟩;rcases Nat.eq_zero_or_pos v with rfl|xz
 ·replace hw:WgAt L.tWg Wg vI 0 0:=by simpa using hw
  have z:(((0:Nat):Int)+1)*KK=KK:=by simp
  rw[z];have gH:IntKind.u64.wrap (0+4294967296)=KK:=by decide
  refine⟨_,(stepG_add_atomic rfl rfl (by k_ne) rfl H.f_addU64 (x_addU64_n L) (x_addU64_b L) (x_addU64_x L) .u64 (x_addU64_f L) rfl rfl hw.cellSt (hw.thaw 0)).trans (by rw[gH];rfl),_,.inr rfl,λw aw=>?_⟩;clear hw;simp only[KK]
  walk_nrm
  u_op (λ_ r=>r) aw
  u_c stepG_region_end (λ_ r=>r) aw
  u_c stepG_ret' (λ_ r=>r) aw
  u_leave1 H.f_uAdd (λ_ r=>r) aw
  u_op (λ_ r=>r) aw
  u_c stepG_region_end (λ_ r=>r) aw
  u_c stepG_seq (λ_ r=>r) aw
  u_c stepG_seq (λ_ r=>r) aw
  u_reg (λ_ r=>r) aw
  u_op (λ_ r=>r) aw
  u_op (λ_ r=>r) aw
  u_op (λ_ r=>r) aw
  u_op (λ_ r=>r) aw
  u_skip (λ_ r=>r) aw
  u_skip (λ_ r=>r) aw
  u_op (λ_ r=>r) aw
  u_c stepG_region_end (λ_ r=>r) aw
  u_cond false (λ_ r=>r) aw
  u_c stepG_skip (λ_ r=>r) aw
  u_c stepG_seq (λ_ r=>r) aw
  u_reg (λ_ r=>r) aw
  u_op (λ_ r=>r) aw
  u_op (λ_ r=>r) aw
  u_op (λ_ r=>r) aw
  u_op (λ_ r=>r) aw
  u_c stepG_region_end (λ_ r=>r) aw
  u_c stepG_seq (λ_ r=>r) aw
  u_reg (λ_ r=>r) aw
  u_op (λ_ r=>r) aw
  u_op (λ_ r=>r) aw
  u_op (λ_ r=>r) aw
  u_op (λ_ r=>r) aw
  u_c stepG_region_end (λ_ r=>r) aw
  u_c stepG_seq (λ_ r=>r) aw
  u_c stepG_seq (λ_ r=>r) aw
  u_reg (λ_ r=>r) aw
  u_op (λ_ r=>r) aw
  u_op (λ_ r=>r) aw
  u_op (λ_ r=>r) aw
  u_op (λ_ r=>r) aw
  u_op (λ_ r=>r) aw
  u_op (λ_ r=>r) aw
  u_op (λ_ r=>r) aw
  u_op (λ_ r=>r) aw
  u_op (λ_ r=>r) aw
  u_op (λ_ r=>r) aw
  u_c stepG_region_end (λ_ r=>r) aw
  u_cond true (λ_ r=>r) aw
  u_reg (λ_ r=>r) aw
  u_op (λ_ r=>r) aw
  u_op (λ_ r=>r) aw
  u_op (λ_ r=>r) aw
  u_conv H.underlying_tPU32 H.room_tU32 (WgLive.cell1 aw).choose_spec (λ_ r=>r) aw
  refine Goes.stop (λfB pP=>⟨rfl,_,stepG_markAt .read (by simp) rfl rfl (by k_ne) rfl H.f_raceRead (x_raceRead_n L) (x_raceRead_b L) (x_raceRead_x L) (x_raceRead_f L) (by simp[Act.eval,smA]<;>rfl),λw aw=>?_⟩)
  walk_nrm
  u_c stepG_region_end (λ_ r=>r) aw
  u_c stepG_seq (λ_ r=>r) aw
  u_c stepG_seq (λ_ r=>r) aw
  u_reg (λ_ r=>r) aw
  u_op (λ_ r=>r) aw
  u_op (λ_ r=>r) aw
  u_c stepG_region_end (λ_ r=>r) aw
  u_cond false (λ_ r=>r) aw
  u_c stepG_skip (λ_ r=>r) aw
  u_c stepG_seq (λ_ r=>r) aw
  u_c stepG_seq (λ_ r=>r) aw
  u_reg (λ_ r=>r) aw
  u_op (λ_ r=>r) aw
  u_op (λ_ r=>r) aw
  u_op (λ_ r=>r) aw
  u_skip (λ_ r=>r) aw
  u_skip (λ_ r=>r) aw
  u_op (λ_ r=>r) aw
  u_op (λ_ r=>r) aw
  u_skip (λ_ r=>r) aw
  u_skip (λ_ r=>r) aw
  u_skip (λ_ r=>r) aw
  u_skip (λ_ r=>r) aw
  u_op (λ_ r=>r) aw
  u_c stepG_region_end (λ_ r=>r) aw
  u_cond false (λ_ r=>r) aw
  u_c stepG_skip (λ_ r=>r) aw
  u_c stepG_seq (λ_ r=>r) aw
  u_c stepG_seq (λ_ r=>r) aw
  u_reg (λ_ r=>r) aw
  u_op (λ_ r=>r) aw
  u_op (λ_ r=>r) aw
  u_op (λ_ r=>r) aw
  u_skip (λ_ r=>r) aw
  u_skip (λ_ r=>r) aw
  u_op (λ_ r=>r) aw
  u_c stepG_region_end (λ_ r=>r) aw
  u_cond true (λ_ r=>r) aw
  u_c stepG_ret' (λ_ r=>r) aw
  refine Goes.stop (λfB pP=>⟨rfl,_,stepG_unwind_entry (v:=.tuple #[]) (evs:=#[mk .enable]) rfl H.f_enable (x_enable_n L) (x_enable_b L) (x_enable_x L) (x_enable_f L) (by simp[Extern.Race.none_]) (by simp[mk]) (by simp[mk]),λw aw=>?_⟩)
  u_leave0 H.f_add (λ_ r=>r) aw
  exact Goes.stop λ_ _=>rfl
 ·obtain⟨V,ew⟩:∃V:Int,V=(v:Int)+1:=⟨_,rfl⟩;obtain⟨S,iB⟩:∃S:Int,S=V*KK:=⟨_,rfl⟩;have U7:IntKind.u64.wrap ((v:Int)*KK+4294967296)=S:=by rw[IntKind.wrap_u64,iB,ew];simp only[KK];omega
  rw[←ew,←iB];have eD:S/4294967296=V:=by rw[iB];simp only[KK];omega
  have fj:bits .and .u64 S 2147483648=0:=by rw[iB,ew];have:=st_flag (v+1) 0 (by omega) (by omega);simpa[KK]using this
  have gB:bits .and .u64 S 2147483647=0:=by rw[iB,ew];have:=st_waiters (v+1) 0 (by omega) (by omega);simpa[KK]using this
  have dS:IntKind.i32.wrap V=V:=by rw[IntKind.wrap_i32];omega
  have ahz:1<V:=by omega
  have ak7:V<2147483648:=by omega
  have cy:(V==1)=false:=by simp;omega
  have dM:decide (V=1)=false:=decide_eq_false (by omega);have gC:decide (V<0)=false:=decide_eq_false (by omega);have jF:decide (0<V)=true:=decide_eq_true (by omega);have kB:(V==0)=false:=by simp;omega
  have kC:decide (V=0)=false:=decide_eq_false (by omega);refine⟨_,(stepG_add_atomic rfl rfl (by k_ne) rfl H.f_addU64 (x_addU64_n L) (x_addU64_b L) (x_addU64_x L) .u64 (x_addU64_f L) rfl rfl hw.cellSt (hw.thaw 0)).trans (by rw[U7];rfl),_,.inl rfl,λw aw=>?_⟩;clear hw iB ew U7
  walk_nrm
  u_op (λ_ r=>r) aw
  u_c stepG_region_end (λ_ r=>r) aw
  u_c stepG_ret' (λ_ r=>r) aw
  u_leave1 H.f_uAdd (λ_ r=>r) aw
  u_op (λ_ r=>r) aw
  u_c stepG_region_end (λ_ r=>r) aw
  u_c stepG_seq (λ_ r=>r) aw
  u_c stepG_seq (λ_ r=>r) aw
  u_reg (λ_ r=>r) aw
  u_op (λ_ r=>r) aw
  u_op (λ_ r=>r) aw
  u_op (λ_ r=>r) aw
  u_op (λ_ r=>r) aw
  u_skip (λ_ r=>r) aw
  u_skip (λ_ r=>r) aw
  u_op (λ_ r=>r) aw
  u_c stepG_region_end (λ_ r=>r) aw
  u_cnd false (λ_ r=>r) aw
  u_c stepG_skip (λ_ r=>r) aw
  u_c stepG_seq (λ_ r=>r) aw
  u_reg (λ_ r=>r) aw
  u_op (λ_ r=>r) aw
  u_op (λ_ r=>r) aw
  u_op (λ_ r=>r) aw
  u_op (λ_ r=>r) aw
  u_c stepG_region_end (λ_ r=>r) aw
  u_c stepG_seq (λ_ r=>r) aw
  u_reg (λ_ r=>r) aw
  u_op (λ_ r=>r) aw
  u_op (λ_ r=>r) aw
  u_op (λ_ r=>r) aw
  u_op (λ_ r=>r) aw
  u_c stepG_region_end (λ_ r=>r) aw
  u_c stepG_seq (λ_ r=>r) aw
  u_c stepG_seq (λ_ r=>r) aw
  u_reg (λ_ r=>r) aw
  u_op (λ_ r=>r) aw
  u_op (λ_ r=>r) aw
  u_op (λ_ r=>r) aw
  u_op (λ_ r=>r) aw
  u_op (λ_ r=>r) aw
  u_op (λ_ r=>r) aw
  u_op (λ_ r=>r) aw
  u_op (λ_ r=>r) aw
  u_op (λ_ r=>r) aw
  u_op (λ_ r=>r) aw
  u_c stepG_region_end (λ_ r=>r) aw
  u_cnd false (λ_ r=>r) aw
  u_c stepG_skip (λ_ r=>r) aw
  u_c stepG_seq (λ_ r=>r) aw
  u_c stepG_seq (λ_ r=>r) aw
  u_reg (λ_ r=>r) aw
  u_op (λ_ r=>r) aw
  u_op (λ_ r=>r) aw
  u_c stepG_region_end (λ_ r=>r) aw
  u_cnd false (λ_ r=>r) aw
  u_c stepG_skip (λ_ r=>r) aw
  u_c stepG_seq (λ_ r=>r) aw
  u_c stepG_seq (λ_ r=>r) aw
  u_reg (λ_ r=>r) aw
  u_op (λ_ r=>r) aw
  u_op (λ_ r=>r) aw
  u_op (λ_ r=>r) aw
  u_skip (λ_ r=>r) aw
  u_skip (λ_ r=>r) aw
  u_op (λ_ r=>r) aw
  u_op (λ_ r=>r) aw
  u_skip (λ_ r=>r) aw
  u_skip (λ_ r=>r) aw
  u_skip (λ_ r=>r) aw
  u_skip (λ_ r=>r) aw
  u_op (λ_ r=>r) aw
  u_c stepG_region_end (λ_ r=>r) aw
  u_cnd false (λ_ r=>r) aw
  u_c stepG_skip (λ_ r=>r) aw
  u_c stepG_seq (λ_ r=>r) aw
  u_c stepG_seq (λ_ r=>r) aw
  u_reg (λ_ r=>r) aw
  u_op (λ_ r=>r) aw
  u_op (λ_ r=>r) aw
  u_op (λ_ r=>r) aw
  u_skip (λ_ r=>r) aw
  u_skip (λ_ r=>r) aw
  u_op (λ_ r=>r) aw
  u_c stepG_region_end (λ_ r=>r) aw
  u_cnd true (λ_ r=>r) aw
  u_c stepG_ret' (λ_ r=>r) aw
  refine Goes.stop (λfB pP=>⟨rfl,_,stepG_unwind_entry (v:=.tuple #[]) (evs:=#[mk .enable]) rfl H.f_enable (x_enable_n L) (x_enable_b L) (x_enable_x L) (x_enable_f L) (by simp[Extern.Race.none_]) (by simp[mk]) (by simp[mk]),λw aw=>?_⟩)
  u_leave0 H.f_add (λ_ r=>r) aw
  exact Goes.stop λ_ _=>rfl
def Be(L:WgLink)(Wg:Nat)(c:Frame)(cs:List Frame)(g:Goroutine)(_:World):Prop:=
 ∃T:Array Value,g=G ((base L.wait).at ⟨T,[]⟩ [.code (L7 L),.inLoop (L7 L),.inBlock 0]) (c::cs)/\T.size=84/\T[0]?=some (.pointer (some ⟨Wg,0,none⟩))
set_option maxRecDepth 100000 in
theorem Xy{P:Program}(H:WgLib P L):jb P L.tWg Wg (wT P L.tWg Wg .disable (Be L Wg (nz.at nA (.inRegion jV (nB::m1)::nC)) cs))
   (G ((base L.wait).at ⟨#[.pointer (some ⟨Wg,0,none⟩),undef,undef,undef,undef,undef,undef,undef,undef,undef,undef,undef,undef,undef,undef,undef,undef,undef,undef,undef,undef,undef,undef,undef,undef,undef,undef,undef,undef,undef,undef,undef,undef,undef,undef,undef,undef,undef,undef,undef,undef,undef,undef,undef,undef,undef,undef,undef,undef,undef,undef,undef,undef,undef,undef,undef,undef,undef,undef,undef,undef,undef,undef,undef,undef,undef,undef,undef,undef,undef,undef,undef,undef,undef,undef,undef,undef,undef,undef,undef,undef,undef,undef,undef],[]⟩ [.code (body_wait L)]) (nz.at nA (.inRegion jV (nB::m1)::nC)::cs)):=by
 lib_facts
 refine λw aw=>?_;simp only[body_wait,waitFn,Option.getD_some]
 u_c stepG_seq (λ_ r=>r) aw
 u_cond true (λ_ r=>r) aw
 u_reg (λ_ r=>r) aw
 refine Goes.stop (λfB pP=>⟨rfl,_,stepG_mark0 .disable (by simp) rfl rfl (by k_ne) rfl H.f_disable (x_disable_n L) (x_disable_b L) (x_disable_x L) (x_disable_f L),λw aw=>?_⟩)
 walk_nrm
 u_c stepG_region_end (λ_ r=>r) aw
 u_c stepG_block (λ_ r=>r) aw
 u_c stepG_loop (λ_ r=>r) aw
 exact Goes.stop λ_ _=>⟨_,rfl,by simp,by simp⟩
set_option maxRecDepth 100000 in
set_option maxHeartbeats 8000000 in
theorem Xz{P:Program}(H:WgLib P L){g:Goroutine}{c9:World}(h:Be L Wg (nz.at nA (.inRegion jV (nB::m1)::nC)) cs g c9):
  jb P L.tWg Wg (ahy P L.tWg Wg (λg _=>g=G (nz.at (nA.put ((jV[nB]?).bind (·.dst)) (.tuple #[])) (.inRegion jV m1::nC)) cs) (Be L Wg (nz.at nA (.inRegion jV (nB::m1)::nC)) cs)) g:=by
 lib_facts
 obtain⟨T,rfl,afM,t0⟩:=h;obtain⟨v0,v1,v2,v3,v4,v5,v6,so,sq,v9,v10,v11,v12,rS,tB,tC,vs,rT,rU,rV,v20,v21,v22,rY,v24,r1,r3,r4,v28,r6,v30,v31,r8,r9,ak8,ak9,ala,v37,alc,ald,v40,alf,alg,alh,ali,alj,v46,alm,aln,v49,alp,v51,alr,v53,alu,alv,alw,alx,aly,v59,alA,alB,alC,alD,alE,alF,alG,alH,alI,alJ,v70,alL,v72,alN,alO,v75,v76,alR,alS,alT,alU,alV,alW,alX,rfl⟩:=array84 T afM;simp only[List.getElem?_toArray,List.getElem?_cons_zero,Option.some.injEq]at t0;subst t0;refine λw aw=>?_;simp only[L7,body_wait,waitFn,Option.getD_some]
 u_c stepG_block (λ_ r=>r) aw
 u_c stepG_seq (λ_ r=>r) aw
 u_reg (λ_ r=>r) aw
 u_op (λ_ r=>r) aw
 u_op (λ_ r=>r) aw
 u_op (λ_ r=>r) aw
 u_call H.f_uLoad (nm_uLoad L) uLoadFn (λ_ r=>r) aw
 u_c stepG_seq (λ_ r=>r) aw
 u_reg (λ_ r=>r) aw
 u_op (λ_ r=>r) aw
 u_c stepG_region_end (λ_ r=>r) aw
 u_c stepG_seq (λ_ r=>r) aw
 u_reg (λ_ r=>r) aw
 u_op (λ_ r=>r) aw
 u_op (λ_ r=>r) aw
 u_op (λ_ r=>r) aw
 refine Goes.stop (λfB pP=>?_);clear aw;refine⟨rfl,λv ai hw=>?_⟩;rcases Nat.eq_zero_or_pos v with rfl|xz
 ·replace hw:WgAt L.tWg Wg fB 0 0:=by simpa using hw
  refine⟨_,stepG_load_atomic (v:=0) rfl rfl (by k_ne) rfl H.f_loadU64 (x_loadU64_n L) (x_loadU64_b L) (x_loadU64_x L) .u64 (x_loadU64_f L) rfl hw.cellSt,λ_=>λw aw=>?_,λh=>absurd rfl h⟩;clear hw
  walk_nrm
  u_op (λ_ r=>r) aw
  u_c stepG_region_end (λ_ r=>r) aw
  u_c stepG_ret' (λ_ r=>r) aw
  u_leave1 H.f_uLoad (λ_ r=>r) aw
  u_op (λ_ r=>r) aw
  u_c stepG_region_end (λ_ r=>r) aw
  u_c stepG_seq (λ_ r=>r) aw
  u_reg (λ_ r=>r) aw
  u_op (λ_ r=>r) aw
  u_op (λ_ r=>r) aw
  u_op (λ_ r=>r) aw
  u_op (λ_ r=>r) aw
  u_c stepG_region_end (λ_ r=>r) aw
  u_c stepG_seq (λ_ r=>r) aw
  u_reg (λ_ r=>r) aw
  u_op (λ_ r=>r) aw
  u_op (λ_ r=>r) aw
  u_op (λ_ r=>r) aw
  u_op (λ_ r=>r) aw
  u_c stepG_region_end (λ_ r=>r) aw
  u_c stepG_seq (λ_ r=>r) aw
  u_c stepG_seq (λ_ r=>r) aw
  u_reg (λ_ r=>r) aw
  u_op (λ_ r=>r) aw
  u_op (λ_ r=>r) aw
  u_c stepG_region_end (λ_ r=>r) aw
  u_cond true (λ_ r=>r) aw
  u_c stepG_seq (λ_ r=>r) aw
  u_cond true (λ_ r=>r) aw
  u_c stepG_seq (λ_ r=>r) aw
  u_reg (λ_ r=>r) aw
  refine Goes.stop (λfB pP=>⟨rfl,_,stepG_mark0 .enable (by simp) rfl rfl (by k_ne) rfl H.f_enable (x_enable_n L) (x_enable_b L) (x_enable_x L) (x_enable_f L),λw aw=>?_⟩)
  walk_nrm
  u_c stepG_region_end (λ_ r=>r) aw
  u_reg (λ_ r=>r) aw
  u_op (λ_ r=>r) aw
  u_conv H.underlying_tWgP H.room_tWg (WgLive.cell0 aw).choose_spec (λ_ r=>r) aw
  refine Goes.stop (λfB pP=>⟨rfl,_,stepG_markAt .acquire (by simp) rfl rfl (by k_ne) rfl H.f_acquire (x_acquire_n L) (x_acquire_b L) (x_acquire_x L) (x_acquire_f L) (by simp[Act.eval,stA]<;>rfl),λw aw=>?_⟩)
  walk_nrm
  u_c stepG_region_end (λ_ r=>r) aw
  u_c stepG_seq (λ_ r=>r) aw
  u_c stepG_seq (λ_ r=>r) aw
  u_reg (λ_ r=>r) aw
  u_op (λ_ r=>r) aw
  u_op (λ_ r=>r) aw
  u_op (λ_ r=>r) aw
  u_op (λ_ r=>r) aw
  u_op (λ_ r=>r) aw
  u_op (λ_ r=>r) aw
  u_op (λ_ r=>r) aw
  u_op (λ_ r=>r) aw
  u_skip (λ_ r=>r) aw
  u_skip (λ_ r=>r) aw
  u_op (λ_ r=>r) aw
  u_c stepG_region_end (λ_ r=>r) aw
  u_cond false (λ_ r=>r) aw
  u_c stepG_skip (λ_ r=>r) aw
  u_c stepG_ret' (λ_ r=>r) aw
  u_leave0 H.f_wait (λ_ r=>r) aw
  exact Goes.stop λ_ _=>rfl
 ·obtain⟨S,iB⟩:∃S:Int,(v:Int)*KK=S:=⟨_,rfl⟩;have eD:S/4294967296=(v:Int):=by rw[←iB];simp only[KK];omega
  have fj:bits .and .u64 S 2147483648=0:=by rw[←iB];have:=st_flag v 0 (by omega) (by omega);simpa[KK]using this
  have gB:bits .and .u64 S 2147483647=0:=by rw[←iB];have:=st_waiters v 0 (by omega) (by omega);simpa[KK]using this
  have dS:IntKind.i32.wrap (v:Int)=(v:Int):=by rw[IntKind.wrap_i32];omega
  have w1:IntKind.u64.wrap (S+1)=S+1:=by rw[IntKind.wrap_u64,←iB];simp only[KK];omega
  have gC:decide ((v:Int)<0)=false:=decide_eq_false (by omega);have jF:decide (0<(v:Int))=true:=decide_eq_true (by omega);have kB:((v:Int)==0)=false:=by simp;omega
  have kC:decide ((v:Int)=0)=false:=decide_eq_false (by omega);rw[iB]at hw;refine⟨_,stepG_load_atomic (v:=S) rfl rfl (by k_ne) rfl H.f_loadU64 (x_loadU64_n L) (x_loadU64_b L) (x_loadU64_x L) .u64 (x_loadU64_f L) rfl hw.cellSt,λaT=>absurd aT (by omega),λ_=>λw aw=>?_⟩;clear hw
  walk_nrm
  u_op (λ_ r=>r) aw
  u_c stepG_region_end (λ_ r=>r) aw
  u_c stepG_ret' (λ_ r=>r) aw
  u_leave1 H.f_uLoad (λ_ r=>r) aw
  u_op (λ_ r=>r) aw
  u_c stepG_region_end (λ_ r=>r) aw
  u_c stepG_seq (λ_ r=>r) aw
  u_reg (λ_ r=>r) aw
  u_op (λ_ r=>r) aw
  u_op (λ_ r=>r) aw
  u_op (λ_ r=>r) aw
  u_op (λ_ r=>r) aw
  u_c stepG_region_end (λ_ r=>r) aw
  u_c stepG_seq (λ_ r=>r) aw
  u_reg (λ_ r=>r) aw
  u_op (λ_ r=>r) aw
  u_op (λ_ r=>r) aw
  u_op (λ_ r=>r) aw
  u_op (λ_ r=>r) aw
  u_c stepG_region_end (λ_ r=>r) aw
  u_c stepG_seq (λ_ r=>r) aw
  u_c stepG_seq (λ_ r=>r) aw
  u_reg (λ_ r=>r) aw
  u_op (λ_ r=>r) aw
  u_op (λ_ r=>r) aw
  u_c stepG_region_end (λ_ r=>r) aw
  u_cnd false (λ_ r=>r) aw
  u_c stepG_skip (λ_ r=>r) aw
  u_c stepG_seq (λ_ r=>r) aw
  u_reg (λ_ r=>r) aw
  u_op (λ_ r=>r) aw
  u_op (λ_ r=>r) aw
  u_op (λ_ r=>r) aw
  u_op (λ_ r=>r) aw
  u_op (λ_ r=>r) aw
  u_op (λ_ r=>r) aw
  u_call H.f_uCas (nm_uCas L) uCasFn (λ_ r=>r) aw
  u_c stepG_seq (λ_ r=>r) aw
  u_reg (λ_ r=>r) aw
  u_op (λ_ r=>r) aw
  u_c stepG_region_end (λ_ r=>r) aw
  u_c stepG_seq (λ_ r=>r) aw
  u_reg (λ_ r=>r) aw
  u_op (λ_ r=>r) aw
  u_op (λ_ r=>r) aw
  u_op (λ_ r=>r) aw
  u_op (λ_ r=>r) aw
  u_op (λ_ r=>r) aw
  refine Goes.stop (λvI ajg=>?_);clear aw;refine⟨rfl,λbg iw hw=>⟨λe=>?_,λe=>?_⟩⟩
  ·subst e;rw[iB]at hw⊢;refine⟨_,(stepG_cas_hit (v:=S) (n:=S+1) rfl rfl (by k_ne) rfl H.f_casU64 (x_casU64_n L) (x_casU64_b L) (x_casU64_x L) .u64 (x_casU64_f L) rfl rfl rfl hw.cellSt (hw.thaw 0)).trans (by rfl),_,.inr rfl,λw aw=>?_⟩;clear hw
   walk_nrm
   u_op (λ_ r=>r) aw
   u_c stepG_region_end (λ_ r=>r) aw
   u_c stepG_ret' (λ_ r=>r) aw
   u_leave1 H.f_uCas (λ_ r=>r) aw
   u_c stepG_region_end (λ_ r=>r) aw
   u_cond true (λ_ r=>r) aw
   u_c stepG_seq (λ_ r=>r) aw
   u_c stepG_seq (λ_ r=>r) aw
   u_reg (λ_ r=>r) aw
   u_op (λ_ r=>r) aw
   u_op (λ_ r=>r) aw
   u_op (λ_ r=>r) aw
   u_op (λ_ r=>r) aw
   u_c stepG_region_end (λ_ r=>r) aw
   u_cond true (λ_ r=>r) aw
   u_reg (λ_ r=>r) aw
   u_op (λ_ r=>r) aw
   u_op (λ_ r=>r) aw
   u_op (λ_ r=>r) aw
   u_conv H.underlying_tPU32 H.room_tU32 (WgLive.cell1 aw).choose_spec (λ_ r=>r) aw
   refine Goes.stop (λfB pP=>⟨rfl,_,stepG_markAt .write (by simp) rfl rfl (by k_ne) rfl H.f_raceWrite (x_raceWrite_n L) (x_raceWrite_b L) (x_raceWrite_x L) (x_raceWrite_f L) (by simp[Act.eval,smA]<;>rfl),λw aw=>?_⟩)
   walk_nrm
   u_c stepG_region_end (λ_ r=>r) aw
   u_c stepG_seq (λ_ r=>r) aw
   u_reg (λ_ r=>r) aw
   u_op (λ_ r=>r) aw
   u_c stepG_region_end (λ_ r=>r) aw
   u_c stepG_seq (λ_ r=>r) aw
   u_c stepG_seq (λ_ r=>r) aw
   u_reg (λ_ r=>r) aw
   u_op (λ_ r=>r) aw
   u_op (λ_ r=>r) aw
   u_op (λ_ r=>r) aw
   u_op (λ_ r=>r) aw
   u_skip (λ_ r=>r) aw
   u_op (λ_ r=>r) aw
   u_c stepG_region_end (λ_ r=>r) aw
   u_cond false (λ_ r=>r) aw
   u_c stepG_skip (λ_ r=>r) aw
   u_c stepG_seq (λ_ r=>r) aw
   u_reg (λ_ r=>r) aw
   u_op (λ_ r=>r) aw
   u_op (λ_ r=>r) aw
   u_op (λ_ r=>r) aw
   u_op (λ_ r=>r) aw
   refine Goes.stop (λU8 amE=>?_);clear aw;refine⟨rfl,rfl,λ⟨st,hw⟩=>stepG_semacquire_wait rfl rfl rfl H.f_semacquire (x_semacquire_n L) (x_semacquire_b L) (x_semacquire_x L) (x_semacquire_f L) (by simp[Act.eval,smA]) hw.cellSm,λaQ=>?_⟩;refine⟨_,(stepG_semacquire (n:=1) rfl rfl (by k_ne) rfl H.f_semacquire (x_semacquire_n L) (x_semacquire_b L) (x_semacquire_x L) (x_semacquire_f L) (by simp[Act.eval,smA]) aQ.cellSm (by k_ne) (aQ.thaw 1)).trans (by rfl),λw aw=>?_⟩;clear aQ
   walk_nrm
   u_c stepG_region_end (λ_ r=>r) aw
   u_c stepG_seq (λ_ r=>r) aw
   u_reg (λ_ r=>r) aw
   u_op (λ_ r=>r) aw
   u_op (λ_ r=>r) aw
   u_op (λ_ r=>r) aw
   u_call H.f_uLoad (nm_uLoad L) uLoadFn (λ_ r=>r) aw
   u_c stepG_seq (λ_ r=>r) aw
   u_reg (λ_ r=>r) aw
   u_op (λ_ r=>r) aw
   u_c stepG_region_end (λ_ r=>r) aw
   u_c stepG_seq (λ_ r=>r) aw
   u_reg (λ_ r=>r) aw
   u_op (λ_ r=>r) aw
   u_op (λ_ r=>r) aw
   u_op (λ_ r=>r) aw
   refine Goes.stop (λGy amF=>?_);clear aw;refine⟨rfl,λhw=>⟨_,stepG_load_atomic (v:=0) rfl rfl (by k_ne) rfl H.f_loadU64 (x_loadU64_n L) (x_loadU64_b L) (x_loadU64_x L) .u64 (x_loadU64_f L) rfl hw.cellSt,λw aw=>?_⟩⟩;clear hw
   walk_nrm
   u_op (λ_ r=>r) aw
   u_c stepG_region_end (λ_ r=>r) aw
   u_c stepG_ret' (λ_ r=>r) aw
   u_leave1 H.f_uLoad (λ_ r=>r) aw
   u_op (λ_ r=>r) aw
   u_op (λ_ r=>r) aw
   u_c stepG_region_end (λ_ r=>r) aw
   u_c stepG_seq (λ_ r=>r) aw
   u_cond true (λ_ r=>r) aw
   u_c stepG_seq (λ_ r=>r) aw
   u_reg (λ_ r=>r) aw
   refine Goes.stop (λfB pP=>⟨rfl,_,stepG_mark0 .enable (by simp) rfl rfl (by k_ne) rfl H.f_enable (x_enable_n L) (x_enable_b L) (x_enable_x L) (x_enable_f L),λw aw=>?_⟩)
   walk_nrm
   u_c stepG_region_end (λ_ r=>r) aw
   u_reg (λ_ r=>r) aw
   u_op (λ_ r=>r) aw
   u_conv H.underlying_tWgP H.room_tWg (WgLive.cell0 aw).choose_spec (λ_ r=>r) aw
   refine Goes.stop (λfB pP=>⟨rfl,_,stepG_markAt .acquire (by simp) rfl rfl (by k_ne) rfl H.f_acquire (x_acquire_n L) (x_acquire_b L) (x_acquire_x L) (x_acquire_f L) (by simp[Act.eval,stA]<;>rfl),λw aw=>?_⟩)
   walk_nrm
   u_c stepG_region_end (λ_ r=>r) aw
   u_c stepG_seq (λ_ r=>r) aw
   u_c stepG_seq (λ_ r=>r) aw
   u_reg (λ_ r=>r) aw
   u_op (λ_ r=>r) aw
   u_c stepG_region_end (λ_ r=>r) aw
   u_cond false (λ_ r=>r) aw
   u_c stepG_skip (λ_ r=>r) aw
   u_c stepG_ret' (λ_ r=>r) aw
   u_leave0 H.f_wait (λ_ r=>r) aw
   exact Goes.stop λ_ _=>rfl
  ·refine⟨_,stepG_cas_miss (v:=(bg:Int)*KK) (old:=S) (n:=S+1) rfl rfl (by k_ne) rfl H.f_casU64 (x_casU64_n L) (x_casU64_b L) (x_casU64_x L) .u64 (x_casU64_f L) rfl rfl rfl hw.cellSt (hw.thaw 0) (by rw[←iB];simp only[KK];omega),λw aw=>?_⟩;clear hw
   walk_nrm
   u_op (λ_ r=>r) aw
   u_c stepG_region_end (λ_ r=>r) aw
   u_c stepG_ret' (λ_ r=>r) aw
   u_leave1 H.f_uCas (λ_ r=>r) aw
   u_c stepG_region_end (λ_ r=>r) aw
   u_cond false (λ_ r=>r) aw
   u_c stepG_skip (λ_ r=>r) aw
   u_c stepG_inBlock (λ_ r=>r) aw
   u_c stepG_inLoop (λ_ r=>r) aw
   exact Goes.stop λ_ _=>⟨_,rfl,by simp,by simp⟩
end
end
end Go.Proofs.YtlminnpaeaganaaGreat
