/- Part of the proof of RuleKnown. No condition. -/
import Derived.Test.YtlminnpaeaganaaGreatMKnownAH
import Derived.Test.YtlminnpaeaganaaGreatMKnownAQ
namespace Go.Proofs.YtlminnpaeaganaaGreat
set_option maxRecDepth 100000
set_option linter.all false
section
open Go Go.Conc Go.RowKit
open Go.ConcN (PayAt Has WgLive CTag Mode Vc pend OpenSt isOpen sumTo WD)
open Go.ConcR (KK wgBlock WgAt stA smA DC0 Payload)
def ag0:List FuncId:=[86,119,120,150,152,153,154,155,156,157,158,159,160,161,162,170,171,172,173,174,175]
def apO:FuncId->List FuncId->Prop:=λf L=>(f=86/\L=ag0)\/(f=87/\L=[87])
@[reducible]def my:cQ:=⟨adC,apO⟩
noncomputable def u4:Oper:=(xd[0]?).getD default
theorem afY:xd[0]?=some u4:=by kernel_rfl
theorem F0:u4.op=.alloc 151/\u4.dst=some 6/\u4.guard=none:=⟨by kernel_rfl,by kernel_rfl,by kernel_rfl⟩
theorem Qr{T:Array Value}{us:List Frame}{w:World}:stepG Tryz.prog true (yF T us) w=.go (wW (T.setIfInBounds 6 (e6 w.heap.size)) us) (w.alloc (wgBlock Tryz.link.tWg 0 0)) #[]:=by
 have ad:(execOp (⟨T,[]⟩:Act).eval u4).run Tryz.prog w=.ok (.value (e6 w.heap.size)) (w.alloc (wgBlock Tryz.link.tWg 0 0)):=by
  unfold execOp;simp only[F0.1];simp[go_sem,e6,wgBlock];try rfl
 have he:(execOp (⟨T,[]⟩:Act).eval u4).events Tryz.prog w #[]=#[]:=by
  unfold execOp;simp only[F0.1];simp[go_sem]
 have:=stepG_value (P:=Tryz.prog) (main:=true) (b:=base 58) (a:=⟨T,[]⟩) (k:=[.code Bz]) (cs:=us) (rest:=[]) afY (by simp[Region.wanted,F0.2.2]) (by decide) ad;unfold yF wW;unfold listed at this;rw[he,Go.Conc.seen_none,F0.2.1]at this;exact this
section
variable{ro S ba:Nat->Prop}{W0 V W bF:World}{ρ:bA}{g0 g1:Goroutine}{gs hQ:Array Goroutine}{t t1:Trace}{q cy:Nat->Nat}
theorem aat(hm:oP Tryz.prog Tryz.prog iC ro W0 S ρ V W g0 gs t q){tZ:World}(ak:l3 Tryz.prog ba tZ g1 hQ bF t1 cy)(ahZ:∀b,ba b->S b\/W.heap.size<=b)(aq:e7 W bF):oP Tryz.prog Tryz.prog iC ro W0 ba ρ V bF g1 hQ t1 cy:=by
 have gX:∀a b,ρ a b->b<W.heap.size:=λa b bL=>by
  obtain⟨_,_,_,k,_⟩:=hm.wr.obj _ _ bL;exact(Array.getElem?_eq_some_iff.1 k).1
 refine⟨ak.g0,ak.ey,ak.pa,ak.k4,λb hb a bL=>?_,ak.shl,hm.wr.keep aq.size λa b bL=>aq.blk b (gX a b bL),λb hb=>hm.og b (Nat.le_trans aq.size hb),hm.old,hm.db.trans aq⟩;rcases ahZ b hb with h|h
 ·exact hm.ma b h a bL
 ·exact absurd (gX a b bL) (by omega)
theorem ab1(hm:oP Tryz.prog Tryz.prog iC ro W0 ba ρ V bF g1 hQ t1 cy){tZ:World}(ah0:e7 W0 tZ)(gX:∀a b,ρ a b->b<tZ.heap.size)(dY:∀b,tZ.heap.size<=b->¬ro b)(vL:(bH Tryz.prog iC).G<=tZ.heap.size){b:Nat}{c:Array Value}{e:TypeId}{f:Nat×Nat}(hb:bF.heap[b]?=some (.cells c e f))(nt:tZ.heap.size<=b)(ah1:¬ba b):
  ∃(σ:bA)(k3:World)(dS:Array Value)(aK:TypeId)(f1:Nat×Nat),cN ρ σ/\σ V.heap.size b/\σ.c V.heap.size/\k3={ V with heap:=V.heap.push (.cells dS aK f1) }/\(∀(k:Nat)(i:Int),c[k]?=some (.int .i64 i)->dS[k]?=some (.int .i64 i))/\oP Tryz.prog Tryz.prog iC ro W0 ba σ k3 bF g1 hQ t1 cy:=by
 have ew:∀a x,ρ a x->a<V.heap.size:=λa x bL=>by
  obtain⟨_,_,k,_,_⟩:=hm.wr.obj _ _ bL;exact(Array.getElem?_eq_some_iff.1 k).1
 let σ:bA:=⟨λa x=>ρ a x\/(a=V.heap.size/\x=b),λa=>ρ.c a\/a=V.heap.size⟩;obtain⟨dS,U,ab⟩:=Sx (C:=bH Tryz.prog iC) (ρ:=σ) c;have hle:cN ρ σ:=⟨λ_ _ h=>.inl h,λ_ h=>.inl h⟩;refine⟨σ,_,dS,e,(0,max dS.size f.2),hle,.inr ⟨rfl,rfl⟩,.inr rfl,rfl,λk i aq=>ab k _ aq .int,⟨hm.g0,hm.ey,hm.pa,hm.k4,λx aj a bL=>?_,hm.shl,⟨⟨?_,?_,?_⟩,?_,hm.wr.ru,?_,?_,?_⟩,hm.og,?_,hm.db⟩⟩
 ·rcases bL with h|⟨_,rfl⟩
  ·exact hm.ma x aj a h
  ·exact ah1 aj
 ·rintro a x (h|⟨rfl,rfl⟩)
  ·exact hm.wr.ok.low h
  ·exact .inr ⟨hm.wr.hR,Nat.le_trans vL nt⟩
 ·rintro a x y (h|⟨rfl,rfl⟩) (k|⟨k1,rfl⟩)
  ·exact hm.wr.ok.fn h k
  ·exact absurd (ew _ _ h) (by omega)
  ·exact absurd (ew _ _ k) (by omega)
  ·rfl
 ·rintro a x y (h|⟨rfl,rfl⟩) (k|⟨rfl,k2⟩)
  ·exact hm.wr.ok.inj h k
  ·subst k2;exact absurd (gX _ _ h) (by omega)
  ·exact absurd (gX _ _ k) (by omega)
  ·rfl
 ·show _<=(V.heap.push _).size;rw[Array.size_push];exact Nat.le_succ_of_le hm.wr.hR
 ·rintro a x (h|⟨rfl,rfl⟩)
  ·obtain⟨o,o',k1,k2,bP⟩:=hm.wr.obj a x h;exact⟨o,o',by show(V.heap.push _)[a]?=_;rw[Array.getElem?_push_lt (ew a x h)];rw[←k1];simp[ew a x h],k2,bP.mono hle⟩
  ·exact⟨.cells dS e (0,max dS.size f.2),_,by show(V.heap.push _)[V.heap.size]?=_;simp,hb,.cells U λi _ rJ=>⟨Nat.zero_le _,Nat.lt_of_lt_of_le rJ (Nat.le_max_right _ _)⟩⟩
 ·rintro a x (h|⟨rfl,rfl⟩) aj
  ·obtain⟨c,e,n,k1,k2⟩:=hm.wr.bK a x h aj;exact⟨c,e,n,k1,by show(V.heap.push _)[a]?=_;rw[Array.getElem?_push_lt (ew a x h)];rw[←k2];simp[ew a x h]⟩
  ·exact absurd aj (dY _ nt)
 ·rintro a (h|rfl)
  ·obtain⟨o,k1,k2⟩:=hm.wr.row a h;have:=(Array.getElem?_eq_some_iff.1 k1).1;exact⟨o,by show(V.heap.push _)[a]?=_;rw[Array.getElem?_push_lt this];rw[←k1];simp[this],k2⟩
  ·exact⟨.cells dS e (0,max dS.size f.2),by show(V.heap.push _)[V.heap.size]?=_;simp,trivial⟩
 ·rintro a x (h|⟨_,rfl⟩) aj
  ·exact hm.old a x h aj
  ·exact absurd (Nat.lt_of_lt_of_le aj ah0.size) (by omega)
end
end
section
open Go Go.Conc Go.RowKit
open Go.ConcN (PayAt Has WgLive CTag Mode Vc pend OpenSt isOpen sumTo WD)
open Go.ConcR (KK wgBlock WgAt stA smA DC0 Payload)
section
variable{Wg C n:Nat}{bit:Nat->Bool}{S KSw:Nat->Prop}{W w:World}{hcs pcs:Array Value}{u':Frame}{us':List Frame}{Q:Machine->Outcome->World->Trace->Prop}
def zE(KSw:Nat->Prop)(W:World)(hcs pcs:Array Value)(hbI pbI:Nat)(w:World):Prop:=(∀b,KSw b->w.heap[b]?=W.heap[b]?)/\w.heap[hbI]?=some (.cells hcs 92)/\w.heap[pbI]?=some (.cells pcs 30)
def zF(KSw:Nat->Prop)(hbI pbI:Nat)(b:Nat):Prop:=KSw b\/b=hbI\/b=pbI
theorem Jf{hbI pbI:Nat}:fL (zF KSw hbI pbI) (zE KSw W hcs pcs hbI pbI):=λw w1 h ao hb=>⟨λb aq=>(hb b (.inl aq)).trans (h.1 b aq),(hb _ (.inr (.inl rfl))).trans h.2.1,(hb _ (.inr (.inr rfl))).trans h.2.2⟩
def Sy(bit:Nat->Bool)(i:Nat):Value:=.bool (bit i)
def JJ(i:Nat):Value:=.bool false
theorem Bf.mono{l:List Nat}{w w2 bF:World}{bg:Value}(h:Bf S C l w2 bF bg)(hle:w.heap.size<=w2.heap.size):Bf S C l w bF bg:=by
 rcases h with h|⟨U,b,c,e,f,cap,ab,al,aJ,bm,bI⟩
 ·exact .inl h
 ·exact .inr ⟨U,b,c,e,f,cap,ab,al,aJ,bm.imp id (Nat.le_trans hle),bI⟩
theorem YW{S:Nat->Prop}{B:Nat}{t:Trace}(h:kM S B t):NoRelease (stA B) t:=λi aX=>by
 obtain⟨op,ar,he⟩:=Option.map_eq_some_iff.1 aX;have:=h.rq.seen op (Array.mem_of_getElem? ar);rw[he]at this;exact Nat.lt_irrefl _ this
theorem aau(ek:EG){hbI pbI:Nat}{T:Array Value}{au pa:Value}(K9:au=.agg hcs)(tz:pa=.agg pcs){ah eg:List aa}(oM:bG ah=true)(lZ:bG eg=true)
  (mE:∀(w1:World)(M:Nat->Prop),(∀b,KSw b->w1.heap[b]?=W.heap[b]?)->W.heap.size<=w1.heap.size->(∀b,M b->∃c e f,w1.heap[b]?=some (.cells c e f))->(∀b,KSw b->(∃c e f,w1.heap[b]?=some (.cells c e f))->M b)->∃V,dN (bH cl fc) (ef M) M V w1/\V.heap.size=w1.heap.size/\(∀b o v,M b->w1.cell? ⟨b,o,none⟩=some v->aZ (bH cl fc) (ef M) v v->V.cell? ⟨b,o,none⟩=some v)/\aZ (bH cl fc) (ef M) (.agg hcs) (.agg hcs)/\aZ (bH cl fc) (ef M) (.agg pcs) (.agg pcs)/\bl n2 V ah hcs.toList/\bl n2 V eg pcs.toList)
  (F1:W.heap.size<=w.heap.size) (La:n<=4) (al5:W.heap.size<=hbI)
  (fM:∀(bM:Nat->Prop)(j dw:Nat)(w1:World),j<n->zE KSw W hcs pcs hbI pbI w1->(∀b,zF KSw hbI pbI b->bM b)->bM dw->(∀b,bM b->b<w1.heap.size)->w1.heap[dw]?=some (.cells #[.int .i64 (j:Int)] 3) ->
   ∃s,ku w.heap.size C bit j s (λ_=>False) bM (born Tryz.prog (call103 w.heap.size C (.pointer (some ⟨hbI,0,none⟩)) (.pointer (some ⟨dw,0,none⟩)) (.pointer (some ⟨pbI,0,none⟩)))) w1/\Acc oR s)
  {sa:Option Addr} {cap:Nat} (hA:hcs[1]?=some (.slice sa n cap)) (aW:zE KSw W hcs pcs hbI pbI w) (hC:w.heap[C]?=some (.cells #[.bool false,.bool false,.bool false,.bool false] 142)) (ah2:¬zF KSw hbI pbI C) (eP:∀b,zF KSw hbI pbI b->b<w.heap.size/\¬S b) (Uh:¬S C)
  (tU:nD au pa T) (t2:T[2]?=some (.pointer (some ⟨hbI,0,none⟩))) (t3:T[3]?=some (.pointer (some ⟨pbI,0,none⟩))) (t5:T[5]?=some (e6 C)) (t6:T[6]?=some (e6 w.heap.size))
  {tZ:World} {gs:Array Goroutine} {sl:Option (Nat×Nat)} {t:Trace} {q:Nat->Nat} (ak:l3 Tryz.prog S tZ (wW T (u'::us')) gs (w.alloc (wgBlock Tryz.link.tWg 0 0)) t q) (EW:kM S w.heap.size t) (Lb:∀b,S b->b<w.heap.size)
  (re:∀(bg:Value)(bF iA:World)(hQ:Array Goroutine)(lr:Option (Nat×Nat))(t1:Trace)(cy:Nat->Nat),Bf (λb=>S b\/b=w.heap.size) C (rN n bit) w bF bg->w.heap.size<=bF.heap.size->bF.os=w.os->bF.output=w.output->(∀b,b<W.heap.size->b≠C->bF.heap[b]?=w.heap[b]?)->l3 Tryz.prog (λb=>S b\/b=w.heap.size) iA (G (u'.finish bg) us') hQ bF t1 cy->Ends Tryz.prog Q (crowd hQ bF lr) t1):
  Ends Tryz.prog Q (crowd gs (w.alloc (wgBlock Tryz.link.tWg 0 0)) sl) t:=by
 have afZ:C<w.heap.size:=(Array.getElem?_eq_some_iff.1 hC).1;have hCW:C≠w.heap.size:=by omega
 have ao:(w.alloc (wgBlock Tryz.link.tWg 0 0)).heap.size=w.heap.size+1:=by simp
 have hold:∀b,b<w.heap.size->(w.alloc (wgBlock Tryz.link.tWg 0 0)).heap[b]?=w.heap[b]?:=λb hb=>Below.heap_alloc _ _ _ hb;have gA:WgAt Tryz.link.tWg w.heap.size (w.alloc (wgBlock Tryz.link.tWg 0 0)) 0 0:=heap_alloc_new w _;have Lc:(w.alloc (wgBlock Tryz.link.tWg 0 0)).heap[C]?=some (.cells #[.bool false,.bool false,.bool false,.bool false] 142):=(hold C afZ).trans hC;have Ui:zE KSw W hcs pcs hbI pbI (w.alloc (wgBlock Tryz.link.tWg 0 0)):=Jf (KSw:=KSw) w _ aW (by omega) λb hb=>hold b (eP b hb).1;obtain⟨Wp,Ld⟩:∃Wp,Wp=w.alloc (wgBlock Tryz.link.tWg 0 0):=⟨_,rfl⟩;rw[←Ld]at ak ao hold gA Lc Ui⊢;have tp:Wp.os=w.os:=by rw[Ld];rfl
 have rp:Wp.output=w.output:=by rw[Ld];rfl
 have rP:0<gs.size:=(Array.getElem?_eq_some_iff.1 ak.g0).1;obtain⟨F,aw⟩:∃F,F=n*2000+11000:=⟨_,rfl⟩;refine XC (ty:=Tryz.link.tWg) (val:=Sy bit) (ini:=JJ) (Fin:=wX w.heap.size C n au pa (u'::us') (zF KSw hbI pbI) (zE KSw W hcs pcs hbI pbI)) (S:=S) (j0:=gs.size-1) (Wp:=Wp) (ady (bit:=bit) hCW) (by decide) (λj bM A g gs w1 sl t q af0 fe=>?_) (F+50) .anch 0 0 0 (zF KSw hbI pbI) Wp.heap.size (zE KSw W hcs pcs hbI pbI) (wW T (u'::us')) ?_ (by simp) (wW T (u'::us')) .anch (λ_=>⟨0,0,0⟩) (λ_=>none) (λ_=>0) (λ_ _=>False) gs Wp sl t q 0 0 ?_
 ·obtain⟨rfl,al6,ah3,x2,ah4,ah5,af1,af2⟩:=af0;have ah6:=ah3 w1 fe.qF;refine aap (ty:=Tryz.link.tWg) (Wg:=w.heap.size) (Wb:=w1) (S:=λb=>S b\/b=w.heap.size) (g1:=A3 x2 (u'::us')) (λgs w2 sl t q qd bQ lV akT=>?_) 200 g af2 gs w1 sl t q ⟨fe.a0,fe.ey,fe.pa,fe.k4,λb hb=>?_,e7.refl w1⟩ fe.live rfl
  ·obtain⟨c,ah,Le⟩:=fe.pay;have ah7:C<w1.heap.size:=(Array.getElem?_eq_some_iff.1 ah).1;have oK:∀b,KSw b->w2.heap[b]?=W.heap[b]?:=λb hb=>(lV b (by have:=(eP b (.inl hb)).1;have:=fe.hR;omega)).trans (ah6.1 b hb);have Uj:=(lV C ah7).trans ah;refine YV (S:=λb=>S b\/b=w.heap.size) (bs:=λi=>decide (i<j)&&bit i) (M:=λb=>(KSw b\/b=C)/\∃c e f,w2.heap[b]?=some (.cells c e f)) ek ah4 ah5 af1 bQ ⟨.inr rfl,_,_,_,Uj⟩ (λb hb=>⟨?_,?_⟩) K9 tz oM lZ (λw3 qo=>mE w3 _ (λb hb=>by rw[qo];exact oK b hb) ?_ (λb hb=>by rw[qo];exact hb.2) λb hb ad=>⟨.inl hb,by rw[←qo];exact ad⟩) Uj (λi aX=>?_) λbg bF hQ lr t1 cy Kg dC=>re bg bF _ hQ lr t1 cy (Kg.mono ?_) ?_ ?_ ?_ ?_ dC
   ·obtain⟨_,c',e',bj,h⟩:=hb;exact(Array.getElem?_eq_some_iff.1 h).1
   ·rintro(h|h)
    ·rcases hb.1 with hb|rfl
     ·exact(eP b (.inl hb)).2 h
     ·exact Uh h
    ·rcases hb.1 with hb|rfl
     ·have:=(eP b (.inl hb)).1;omega
     ·exact hCW h
   ·rw[qo];have:=fe.hR;omega
   ·by_cases dL:i<j
    ·have:=fe.has i dL;simp only[dL,decide_true,Bool.true_and];simpa[Has,World.cell?,ah,Sy]using this
    ·have:=fe.rest i (by omega) aX;simp only[dL,decide_false,Bool.false_and];simpa[World.cell?,ah,JJ]using this
   ·have:=fe.hR;omega
   ·have:=dC.db.size;have:=fe.hR;omega
   ·exact dC.db.os.trans (bQ.db.os.trans (fe.os.trans tp))
   ·exact dC.db.out.trans (bQ.db.out.trans (fe.out.trans rp))
   ·intro b hb ah8;have:=fe.hR;exact(dC.db.blk b (by omega)).trans ((lV b (by omega)).trans ((fe.base b (by omega) (by omega) ah8).trans (hold b (by omega))))
  ·have:=fe.hR;rcases hb with hb|rfl
   ·have:=Lb b hb;omega
   ·omega
 ·refine abU (hb:=.pointer (some ⟨hbI,0,none⟩)) (pb:=.pointer (some ⟨pbI,0,none⟩)) (F:=F) (Jf (KSw:=KSw)) (Nat.le_refl _) (hbI:=hbI) (.inr (.inl rfl)) (sa:=sa) (cap:=cap) (λw1 fg=>?_) rfl (λT ek ab al bm bI nu ah9=>?_) tU t2 t3 t5 t6
  ·simp[World.cell?,fg.2.1,hA]
  ·rw[aw];exact aan La fM n 0 (by omega) _ _ _ T (Jf (KSw:=KSw)) (λ_ h=>h) (λ_ h=>h) ek ab al bm bI nu ah9
 ·have B8:=(hl.start EW (Nat.le_refl _) (j0:=gs.size-1) λop aE=>by have:=ak.k4 op aE;omega).mono (B':=Wp.heap.size) (by omega);refine⟨⟨by omega,λk g aq _ aN=>ak.ey.old k g aq aN,λi aX=>absurd aX (by omega),B8.grow (λk l _ _ h=>h.elim) (λk l _ aq h=>?_) (λk l _ aq=>⟨λ⟨b,_,h,_⟩=>absurd h (by omega),λh=>h.elim⟩),YW EW,ak.pa.rq.hears,λi aX=>absurd aX (by omega),λi aX=>absurd aX (by omega),λi aX=>absurd aX (by omega),⟨_,Lc,rfl⟩,λi _ aX=>?_,⟨0,0,gA⟩,⟨rfl,rfl,λ_ _=>rfl,λi b h=>h.elim,Uh,λh=>Nat.lt_irrefl _ (Lb _ h),hCW⟩,Nat.zero_le _,λ_ _=>rfl,λb h=>absurd rfl h,λi b h=>h.elim,λi b h=>h.elim,Nat.le_refl _,λb hb=>by have:=Lb b hb;omega,λb _ _ _=>rfl,rfl,rfl⟩,
   ak.g0,.inl ⟨rfl,rfl⟩,λh=>absurd rfl h,rfl,gA,?_,?_,Ui,λb hb=>⟨by have:=(eP b hb).1;omega,rfl,by have:=(eP b hb).1;omega,λe=>ah2 (e▸hb),(eP b hb).2⟩,λi b h=>h.elim,Nat.le_refl _,Nat.le_refl _,λi aX=>absurd aX (by omega)⟩
  ·rcases h with⟨b,_,h,al⟩|⟨i,h,_⟩
   ·omega
   ·omega
  ·have:i=0\/i=1\/i=2\/i=3:=by omega
   rcases this with rfl|rfl|rfl|rfl<;>simp[World.cell?,Lc,JJ]
  ·have:=Mode.opn (j:=0) (D:=λ_=>(⟨0,0,0⟩:WD)) (tag:=.anch) trivial (λi aX=>absurd aX (by omega)) (λaf e=>by cases e);simpa[Vc,pend,sumTo]using this
  ·simp[Vc,pend,sumTo]
end
end
section
open Go Go.Conc Go.RowKit
open Go.ConcN (PayAt Has WgLive sumTo)
open Go.ConcR (wgBlock WgAt Payload)
section
variable{ro:Nat->Prop}{W0:World}{Q:Machine->Outcome->World->Trace->Prop}
theorem Ph{C:ee}{ρ:bA}{a:Array Value}{v:Value}(h:aZ C ρ (.agg a) v):∃a',v=.agg a'/\cv C ρ a a':=by
 cases h with
 |agg U ab=>exact⟨_,rfl,U,ab⟩
theorem YX{C:ee}{ρ:bA}{φ:bo}{V:World}{q:aa}{n:Nat}(aH:Ke q n){v bg:Value}(ai:aY φ V q v)(h:aZ C ρ v bg):∃sa cap,bg=.slice sa n cap:=by
 rcases aH with⟨rfl,rfl⟩|⟨sz,off,cs,rfl⟩
 ·have ai:v=.slice none 0 0:=ai;subst ai;cases h;exact⟨_,_,rfl⟩
 ·obtain⟨_,a,cap,rfl,_⟩:=ai;cases h with
  |bC=>exact⟨_,_,rfl⟩
  |sl h=>exact⟨_,_,rfl⟩
  |jc=>exact⟨_,_,rfl⟩
theorem ab2(ek:EG):@IG my Tryz.prog Tryz.prog iC ro W0 Q:=by
 intro f a a' u' us' S ρ V W gs sl t q nE fM F2 aeE au akH hm re;obtain⟨rfl,bX,φ,ah,eg,cy,n,bit,xF,gE,jY,oM,lZ,tG,aI,La,Kf,JK⟩:=aeE V.tape V.drawn;rw[ab3]at xF JK;have Tq:=xF;obtain⟨mN,fI,aK,⟨BL,aO,k1⟩,qD,ei,bS,⟨xp,b8,k2⟩,en⟩:=xF;have en:ei=[]:=en;subst aO b8 en bS;have rz:=bE.toList au;rw[aK]at rz;obtain⟨aia⟩:=a';have bQ:∃hcs pcs,aia=[.agg hcs,.agg pcs]/\cv (bH Tryz.prog iC) ρ BL.toArray hcs:=by
  simp only at rz;cases rz with
  |cons U ab=>
   cases ab with
   |cons ab al=>
    cases al;obtain⟨hcs,rfl,k⟩:=Ph U;obtain⟨pcs,rfl,_⟩:=Ph ab;exact⟨hcs,pcs,rfl,k⟩
 obtain⟨hcs,pcs,rfl,aq⟩:=bQ;simp only at rz;obtain⟨sa,cap,hA⟩:∃sa cap,hcs[1]?=some (.slice sa n cap):=by
  obtain⟨v1,Uk,vz⟩:=o1 k1 tG;rcases aq.get 1 with⟨jh,_⟩|⟨x,y,jh,vK,mP⟩
  ·simp[Uk]at jh
  ·have:x=v1:=by simpa[Uk]using jh.symm
   subst this;obtain⟨sa,cap,rfl⟩:=YX aI vz mP;exact⟨sa,cap,vK⟩
 have gX:∀x b,ρ x b->b<W.heap.size:=λx b bL=>by
  obtain⟨_,_,_,k,_⟩:=hm.wr.obj _ _ bL;exact(Array.getElem?_eq_some_iff.1 k).1
 have mb:∀x b,ρ x b->b<W.heap.size/\¬S b:=λx b bL=>⟨gX x b bL,λh=>hm.ma b h x bL⟩;have vL:(bH cl fc).G<=W.heap.size:=by rw[Sw];exact hm.wr.ru
 refine aao (Wb:=W) (R:=W.heap.size) (S:=S) (Nat.le_refl _) (λbM A g gs w sl t q aib bh aW h8 ak=>?_) 12 (λb=>b<W.heap.size/\¬S b) _ _ (abX (W:=W) (hcs:=hcs) (pcs:=pcs) (us:=u'::us')) gs W sl t q ⟨hm.g0,hm.ey,hm.pa,hm.k4,hm.shl,e7.refl W⟩ (λb _=>rfl) (λb hb=>hb) (Nat.le_refl _);obtain⟨hbI,pbI,C,T,hn,k5,GB,d1,d2,eh,r2,nF,Ul,aic,rfl,tU,t2,t3,t5⟩:=aib;refine Dx (A:=λw=>A w/\∀b,bM b->b<w.heap.size/\¬S b) rfl (λw d aj=>⟨bh w _ aj.1 (Nat.le_refl _) (λ_ _=>rfl),aj.2⟩) (λgs w sl t q ak aj=>?_) _ gs w sl t q rfl ak ⟨aW,h8⟩;obtain⟨aW,h8⟩:=aj;have aQ:=aic w aW;have ao:(w.alloc (wgBlock Tryz.link.tWg 0 0)).heap.size=w.heap.size+1:=by simp
 have F1:W.heap.size<=w.heap.size:=ak.db.size;obtain⟨ed,nq,bQ⟩:=ak.step (B:=λ_=>False) (RO:=λ_=>False) sl Qr (by omega) (λe he=>by simp at he) (λb hb=>by rcases hb with h|h<;>exact h.elim) ⟨by omega,ak.db.os,ak.db.out,λb hb=>(Below.heap_alloc _ _ _ (Nat.lt_of_lt_of_le hb F1)).trans (ak.db.blk b hb)⟩;have EW:kM S w.heap.size (t++MemOp.ofEvents 0 (yF T (u'::us')).frame.fn (yF T (u'::us')).frame.place #[]):=ak.pa.own (σ:=ef λ_=>False) (ro:=λ_=>False) (λe he=>by simp at he) (λb _ a h=>h.2) λa b h=>h.2.elim;have aid:bM C:=(Ul C).2 (.inr (.inr (.inr rfl)));refine⟨_,_,_,ed,Qr,nq,aau (W:=W) (w:=w) (KSw:=λb=>b<W.heap.size/\¬S b) (hbI:=hbI) (pbI:=pbI) (C:=C) (n:=n) (bit:=bit) (hcs:=hcs) (pcs:=pcs) ek rfl rfl oM lZ (λw1 M U ab al aJ=>Rq hm.wr mb Tq gE jY (by rw[aK];exact rz) U ab al aJ) F1 La eh (λbM j dw w1 aC U ab al aJ bm=>?_) hA ⟨aQ.1,aQ.2.1,aQ.2.2.1⟩ aQ.2.2.2 ?_ (λb hb=>h8 b ((Ul b).2 ?_)) (h8 C aid).2 (tU.set 6 (by decide) (.inr sL)) (by rw[Array.getElem?_setIfInBounds_ne (by decide)];exact t2) (by rw[Array.getElem?_setIfInBounds_ne (by decide)];exact t3) (by rw[Array.getElem?_setIfInBounds_ne (by decide)];exact t5) (by rw[Array.getElem?_setIfInBounds_self_of_lt (by rw[tU.sz];decide)];rfl) bQ EW ak.shl λbg bF iA hQ lr t1 cy Kg fg kW qo aie dC=>?_⟩
 ·refine abY hm.wr mb Tq gE jY ?_ Kf aC U ?_ ab al aJ bm
  ·rw[aK];exact rz
  ·have:=(Array.getElem?_eq_some_iff.1 U.2.1).1;omega
 ·rintro(h|h|h)
  ·exact GB h
  ·exact d1 h
  ·exact d2 h
 ·rcases hb with h|h|h
  ·exact .inl h
  ·exact .inr (.inl h)
  ·exact .inr (.inr (.inl h))
 ·have FQ:W.heap.size<=C:=nF;have aq:e7 W bF:=⟨Nat.le_trans F1 fg,kW.trans ak.db.os,qo.trans ak.db.out,λb hb=>(aie b hb (by omega)).trans (ak.db.blk b hb)⟩;have Um:=aat hm dC (λb hb=>hb.imp id λe=>by omega) aq;rcases Kg with⟨fK,rfl⟩|⟨bU,b,c,e,f,Vd,g1,rfl,g3,g4,g5,g6⟩
  ·exact re ρ _ _ V bF _ hQ lr t1 cy (JK _ _ (.inl ⟨fK,rfl,rfl⟩)) (cN.refl ρ) .bC Um
  ·obtain⟨σ,k3,dS,e',f1,s1,s2,vM,rfl,ajq,ajr⟩:=ab1 Um hm.db gX hm.og hm.wr.ru g3 (by rcases g4 with rfl|h<;>omega) g5;exact re σ _ (.slice (some ⟨b,0,none⟩) (rN n bit).length Vd) _ bF _ hQ lr t1 cy (JK _ _ (.inr ⟨bU,dS,e',f1,Vd,g1,rfl,rfl,λk i tt=>ajq k _ (g6 k i tt)⟩)) s1 (.sl ⟨⟨s2,rfl,rfl⟩,vM⟩) ajr
end
end
section
open Go Go.RowKit
variable[cQ]
structure xQ(T:aa->aa):Prop where
 plain:∀q,q.plain=true->T q=q
 undef:T .undef=.undef
 agg:∀l,T (.agg l)=.agg (l.map T)
 bD:∀l,T (.bD l)=.bD (l.map T)
 fn:∀f l,T (.fn f l)=.fn f (l.map T)
 sl:∀sz off len l,T (.sl none sz off len l)=.sl none sz off len (l.map T)
 bJ:∀off l,T (.bJ none off l)=.bJ none off (l.map T)
 cq:∀l,T (.cq l)=.cq l
 one:∀q,q.one=true->(∀o,q=.bJ o 0 []->True)->(T q).one=true\/T q=.bad
theorem acW(id:Nat):xQ (aa.bK id) where
 plain:=λq h=>HT id q h
 undef:=by simp only[aa.bK]
 agg:=λl=>by simp only[aa.bK,sF]
 bD:=λl=>by simp only[aa.bK,sF]
 fn:=λf l=>by simp only[aa.bK,sF]
 sl:=λsz off len l=>by simp only[aa.bK,sF]
 bJ:=λoff l=>by simp only[aa.bK,sF]
 cq:=λl=>by simp only[aa.bK]
 one:=λq h _=>by
  cases q with
  |sl id _ _ _ _=>cases id<;>exact .inl (by simp[aa.bK,aa.one])
  |bJ id _ _=>cases id<;>exact .inl (by simp[aa.bK,aa.one])
  |mp _ id _ _=>cases id<;>exact .inl (by simp[aa.bK,aa.one])
  |undef=>simp[aa.one]at h
  |bad=>simp[aa.one]at h
  |agg _=>simp[aa.one]at h
  |bD _=>simp[aa.one]at h
  |_=>exact .inl (by simp[aa.bK,aa.one])
theorem aa6(e:b9)(q:aa)(h:q.one=true):(q.bW e).one=true\/q.bW e=.bad:=by
 cases q with
 |sl id _ _ _ _=>
  cases id with
  |none=>exact .inl (by simp[aa.bW,aa.one])
  |some i=>cases e<;>simp only[aa.bW]<;>split<;>exact .inl (by simp[aa.one])
 |bJ id _ _=>
  cases id with
  |none=>exact .inl (by simp[aa.bW,aa.one])
  |some i=>cases e<;>simp only[aa.bW]<;>split<;>first|exact .inr rfl|exact .inl rfl
 |mp it id sz cs=>
  cases id with
  |none=>exact .inl (by simp[aa.bW,aa.one])
  |some i=>
   cases e with
   |kill j=>simp only[aa.bW];split<;>first|exact .inr rfl|exact .inl rfl
   |wr j p v=>
    simp only[aa.bW];split
    ·split
     ·split<;>first|exact .inr rfl|exact .inl rfl
     ·exact .inr rfl
    ·exact .inl rfl
 |undef=>simp[aa.one]at h
 |bad=>simp[aa.one]at h
 |agg _=>simp[aa.one]at h
 |bD _=>simp[aa.one]at h
 |_=>exact .inl (by simp[aa.bW,aa.one])
theorem acX(E:List b9):aa.sub E .bad=.bad:=by
 induction E with
 |nil=>rfl
 |cons e E az=>simp only[aa.sub,aa.bW,az]
theorem QM(E:List b9):xQ (aa.sub E):=by
 induction E with
 |nil=>exact⟨λ_ _=>rfl,rfl,λl=>by simp[aa.sub],λl=>by simp[aa.sub],λf l=>by simp[aa.sub],λ_ _ _ l=>by simp[aa.sub],λ_ l=>by simp[aa.sub],λl=>rfl,λq h _=>.inl h⟩
 |cons e E az=>
  refine⟨λq h=>OJ _ h,?_,λl=>?_,λl=>?_,λf l=>?_,λ_ _ _ l=>?_,λ_ l=>?_,λl=>?_,λq h _=>?_⟩
  ·simp only[aa.sub,aa.bW,az.undef]
  ·simp only[aa.sub,aa.bW,pV,az.agg,List.map_map];rfl
  ·simp only[aa.sub,aa.bW,pV,az.bD,List.map_map];rfl
  ·simp only[aa.sub,aa.bW,pV,az.fn,List.map_map];rfl
  ·simp only[aa.sub,aa.bW,pV,az.sl,List.map_map];rfl
  ·simp only[aa.sub,aa.bW,pV,az.bJ,List.map_map];rfl
  ·simp only[aa.sub,aa.bW,az.cq]
  ·rcases aa6 e q h with U|U
   ·exact az.one _ U (λ_ _=>trivial)
   ·exact .inr (by simp only[aa.sub,U,acX])
structure j8(F:cP)(E E':Env)(f:aL->aL)(T:aa->aa):Prop where
 kx:xQ T
 ρ:E.ρ<+:E'.ρ
 e:∀x,f (.e x)=.e x
 undef:f .undef=.undef
 bT:f .bT=.bT
 c8:f .c8=.c8
 fQ:∀x sz fo,f (.fQ x sz fo)=.fQ x sz fo
 cq:∀y,f (.cq y)=.cq y
 fn:∀g l,f (.fn g l)=.fn g (l.map f)
 agg:∀l,f (.agg l)=.agg (l.map f)
 bD:∀l,f (.bD l)=.bD (l.map f)
 lit:∀a b l,f (.lit a b l)=.lit a b (l.map f)
 ft:∀l o,f (.ft l o)=.ft (l.map f) o
 ptr:∀i o q,bZ F E (.ptr i o) q->bZ F E' (f (.ptr i o)) (T q)/\(f (.ptr i o)=.bT\/(T q).one=true)
 aV:∀i o z q,bZ F E (.aV i o z) q->bZ F E' (f (.aV i o z)) (T q)/\(f (.aV i o z)=.bT\/(T q).one=true)
 S2:∀q,bZ F E .c8 q->T q=q
 own:∀k q,bZ F E (.own k) q->bZ F E' (f (.own k)) (T q)/\(f (.own k)=.bT\/(T q).one=true)
 fF:∀k x fo q,bZ F E (.fF k x fo) q->bZ F E' (f (.fF k x fo)) (T q)/\(f (.fF k x fo)=.bT\/(T q).one=true)
theorem Ah{T:aa->aa}(h:xQ T){l:List aa}(ak:bG l=true):l.map T=l:=by
 rw[hH]at ak
 conv=>rhs;rw[←List.map_id l]
 exact List.map_congr_left λq aH=>h.plain q (ak q aH).1
section
variable{F:cP}{E E':Env}{f:aL->aL}{T:aa->aa}
mutual
theorem j8.ow(t:j8 F E E' f T):∀{v:aL}{q:aa},bZ F E v q->bZ F E' (f v) (T q)
 |.e x,q,h=>by
  rw[t.e];simp only[bZ]at h⊢;obtain⟨aK,aO⟩:=aR.j9 t.ρ h.2;rw[t.kx.plain q (by rw[h.1];exact aR.jJ h.2),aK];exact⟨h.1,aO⟩
 |.undef,q,h=>by
  rw[t.undef];simp only[bZ]at h⊢;rw[h,t.kx.undef]
 |.bT,q,h=>by rw[t.bT];simp only[bZ]
 |.ptr i o,q,h=>(t.ptr i o q h).1
 |.aV i o z,q,h=>(t.aV i o z q h).1
 |.c8,q,h=>by
  rw[t.c8,t.S2 q h];simpa only[bZ]using h
 |.cq _,q,h=>by
  rw[t.cq];simp only[bZ]at h⊢;obtain⟨l,U,rfl⟩:=h;exact⟨l,U,t.kx.cq l⟩
 |.own k,q,h=>(t.own k q h).1
 |.fF k x fo,q,h=>(t.fF k x fo q h).1
 |.fQ x sz fo,q,h=>by
  rw[t.fQ];simp only[bZ]at h⊢;obtain⟨cs,off,lI,U,ab,al,rfl⟩:=h;obtain⟨aK,aO⟩:=aR.j9 t.ρ ab;have ae:bG cs=true:=by have:=aR.jJ ab;rw[U]at this;simpa only[aa.plain]using this
  refine⟨cs,off,lI.map T,by rw[aK];exact U,aO,al,?_⟩;rw[t.kx.bJ,List.map_append];congr 2;have:=Ah t.kx ae;rw[List.map_drop,this]
 |.ft l fo,q,h=>by
  rw[t.ft];simp only[bZ]at h⊢;obtain⟨aG,U,ab,rfl⟩:=h;refine⟨aG,?_,ab,?_⟩
  ·have:=j8.nx t U;rwa[Ah t.kx ab]at this
  ·rw[t.kx.bJ,List.map_drop,Ah t.kx ab]
 |.fn g l,q,h=>by
  rw[t.fn];simp only[bZ]at h⊢;obtain⟨aG,rfl,ab⟩:=h;exact⟨_,t.kx.fn _ _,j8.nx t ab⟩
 |.agg l,q,h=>by
  rw[t.agg];simp only[bZ]at h⊢;obtain⟨aG,rfl,ab⟩:=h;exact⟨_,t.kx.agg _,j8.nx t ab⟩
 |.bD l,q,h=>by
  rw[t.bD];simp only[bZ]at h⊢;obtain⟨aG,rfl,ab⟩:=h;exact⟨_,t.kx.bD _,j8.Cy t ab⟩
 |.lit sz len l,q,h=>by
  rw[t.lit];simp only[bZ]at h⊢;obtain⟨aG,rfl,ab,al,aJ⟩:=h;have:=j8.nx t ab;rw[Ah t.kx al]at this;exact⟨aG,by rw[t.kx.sl,Ah t.kx al],this,al,aJ⟩
theorem j8.nx(t:j8 F E E' f T):∀{l:List aL}{aG:List aa},cJ F E l aG->cJ F E' (l.map f) (aG.map T)
 |[],aG,h=>by simp only[cJ]at h;subst h;simp[cJ]
 |v::af,aG,h=>by
  simp only[cJ]at h;obtain⟨q,r,rfl,ab,al,aJ⟩:=h;simp only[List.map_cons,cJ];refine⟨T q,r.map T,rfl,j8.ow t ab,?_,j8.nx t aJ⟩;rcases al with rfl|al
  ·exact .inl t.bT
  ·cases v with
   |ptr i o=>exact(t.ptr i o q ab).2
   |aV i o z=>exact(t.aV i o z q ab).2
   |own k=>exact(t.own k q ab).2
   |fF k x fo=>exact(t.fF k x fo q ab).2
   |bT=>exact .inl t.bT
   |cq _=>
    simp only[bZ]at ab;obtain⟨l,_,rfl⟩:=ab;rw[t.kx.cq];exact .inr rfl
   |undef=>simp only[bZ]at ab;subst ab;simp[aa.one]at al
   |e x=>
    simp only[bZ]at ab;rw[t.kx.plain q (by rw[ab.1];exact aR.jJ ab.2)];exact .inr al
   |c8=>rw[t.S2 q ab];exact .inr al
   |fQ x sz fo=>
    simp only[bZ]at ab;obtain⟨cs,off,lI,_,_,_,rfl⟩:=ab;rw[t.kx.bJ];exact .inr rfl
   |ft l fo=>
    simp only[bZ]at ab;obtain⟨aG,_,_,rfl⟩:=ab;rw[t.kx.bJ];exact .inr rfl
   |fn g l=>
    simp only[bZ]at ab;obtain⟨aG,rfl,_⟩:=ab;rw[t.kx.fn];exact .inr rfl
   |agg l=>
    simp only[bZ]at ab;obtain⟨aG,rfl,_⟩:=ab;simp[aa.one]at al
   |bD l=>
    simp only[bZ]at ab;obtain⟨aG,rfl,_⟩:=ab;simp[aa.one]at al
   |lit a b l=>
    simp only[bZ]at ab;obtain⟨aG,rfl,_⟩:=ab;rw[t.kx.sl];exact .inr rfl
theorem j8.Cy(t:j8 F E E' f T):∀{l:List aL}{aG:List aa},hk F E l aG->hk F E' (l.map f) (aG.map T)
 |[],aG,h=>by simp only[hk]at h;subst h;simp[hk]
 |v::af,aG,h=>by
  simp only[hk]at h;obtain⟨q,r,rfl,ab,aJ⟩:=h;simp only[List.map_cons,hk];exact⟨T q,r.map T,rfl,j8.ow t ab,j8.Cy t aJ⟩
end
end
theorem AM(k:Nat)(x:aR)(l:List aL):u0 k x l=l.map (aL.bK k x):=by
 induction l with
 |nil=>rfl
 |cons v l az=>simp[u0,az]
theorem qQ(k:Nat)(a:Bool)(l:List aL):u1 k a l=l.map (aL.q2 k a):=by
 induction l with
 |nil=>rfl
 |cons v l az=>simp[u1,az]
theorem Aw(i:Nat)(c l:List aL):uO i c l=l.map (aL.cx i c):=by
 induction l with
 |nil=>rfl
 |cons v l az=>simp[uO,az]
end
section
open Go Go.RowKit
variable[cQ]
section
variable{F:cP}{S:Sym}{ρ:List aa}{ids:Nat->Option Nat}{s:aA}
@[simp]theorem acY(d:Option Tmp)(v:aL):(S.put d v).env ρ ids=S.env ρ ids:=by cases d<;>rfl
@[simp]theorem akz(d:Option Tmp)(v:aL):(S.put d v).cd=S.cd:=by cases d<;>rfl
@[simp]theorem akA(d:Option Tmp)(v:aL):(S.put d v).cU=S.cU:=by cases d<;>rfl
@[simp]theorem akB(d:Option Tmp)(v:aL):(S.put d v).bx=S.bx:=by cases d<;>rfl
@[simp]theorem akC(d:Option Tmp)(v:aL):(S.put d v).bd=S.bd:=by cases d<;>rfl
@[simp]theorem akf(d:Option Tmp)(v:aL):(S.put d v).bb=S.bb:=by cases d<;>rfl
@[simp]theorem akg(d:Option Tmp)(v:aL):(S.put d v).base=S.base:=by cases d<;>rfl
@[simp]theorem ajT(d:Option Tmp)(v:aL):(S.put d v).dO=S.dO:=by cases d<;>rfl
theorem get_put(d:Nat)(v:aL)(t:Nat):(S.put (some d) v).get t=if t=d then v else S.get t:=by
 simp only[Sym.put,Sym.get,cF];by_cases h:t=d
 ·subst h;simp
 ·rw[if_neg h,if_neg (λe=>h (Nat.eq_of_beq_eq_true e).symm)]
theorem Rel.put(h:Rel F S ρ ids s)(d:Option Tmp){v:aL}{q:aa}(ai:bZ F (S.env ρ ids) v q):Rel F (S.put d v) ρ ids (s.put d q):=by
 refine⟨by simpa using h.len,by simpa using h.cU,λt=>?_,by simpa using h.dt,by simpa using h.old,by simpa using h.box,by simpa using h.hO,h.mv,by simpa using h.arr,by simpa using h.a0,h.cV,by simpa using h.kY,by simpa using h.bb,by simpa using h.new,by simpa using h.keep,by simpa using h.dO,by simpa using h.lG,by simpa using h.mS,by simpa using h.an,h.kZ,by cases d<;>exact h.rc⟩;rw[acY];cases d with
 |none=>exact h.slot t
 |some d=>
  rw[get_put,aA.aef];by_cases a1:t=d
  ·subst a1;rw[if_pos rfl,if_pos rfl];exact ai
  ·rw[if_neg a1,if_neg a1];exact h.slot t
def Sym.bind(S:Sym)(cU:Bool):Sym:={ S with cd:=S.cd+1,cU:=if cU then S.cd::S.cU else S.cU }
theorem Env.p0(S:Sym)(ρ:List aa)(ids:Nat->Option Nat)(v:aa)(cU:Bool):(S.env ρ ids).le ((S.bind cU).env (ρ++[v]) ids):=
 ⟨List.prefix_append _ _,λ_ _ h=>h,Nat.le_refl _,λ_ _ _=>rfl⟩
theorem Ex{E E':Env}(h:E.le E'){b:ga}{c:di}(hb:vQ F E b c):vQ F E' b c:=by
 cases b with
 |cells l=>
  obtain⟨aG,U,ab⟩:=hb;exact⟨aG,U,cJ.mono h ab⟩
 |c8=>exact hb
 |gone=>exact hb
theorem Rel.bind(h:Rel F S ρ ids s)(v:aa)(cU:Bool)(aq:cU=true->v.one=true):Rel F (S.bind cU) (ρ++[v]) ids s:=by
 have hle:=Env.p0 S ρ ids v cU;refine⟨by simp[Sym.bind,h.len],λi aX=>?_,λt=>bZ.mono hle (h.slot t),h.dt,h.old,λi b hb=>Ex hle (h.box i b hb),h.hO,h.mv,λk a au=>?_,h.a0,h.cV,h.kY,h.bb,h.new,h.keep,h.dO,h.lG,h.mS,h.an,h.kZ,h.rc.push⟩
 ·have old:∀i,i∈S.cU->((ρ++[v]).getD i .bad).one=true:=λi aX=>by
   have U:=h.cU i aX;have:i<ρ.length:=by
    rcases Nat.lt_or_ge i ρ.length with ab|ab
    ·exact ab
    ·simp[List.getD_eq_getElem?_getD,List.getElem?_eq_none ab,aa.one]at U
   simpa[List.getD_eq_getElem?_getD,List.getElem?_append_left this]using U
  cases cU with
  |false=>exact old i (by simpa[Sym.bind]using aX)
  |true=>
   simp only[Sym.bind,if_true,List.mem_cons]at aX;rcases aX with rfl|aX
   ·rw[←h.len];simpa[List.getD_eq_getElem?_getD]using aq rfl
   ·exact old i aX
 ·obtain⟨cs,ah⟩:=h.arr k a au;exact⟨cs,c6.rel.mono hle au ah⟩
theorem fO(h:Rel F S ρ ids s)(v:aa)(ai:v.plain=true):aR.ok (ρ++[v]) (.var S.cd)/\aR.den (ρ++[v]) (.var S.cd)=v:=by
 have e:aR.den (ρ++[v]) (.var S.cd)=v:=by simp[aR.den,←h.len,List.getD_eq_getElem?_getD]
 exact⟨by unfold aR.ok;unfold aR.den at e;rw[e];exact ai,e⟩
theorem acZ(E:Env)(v:aa):bZ F E (Ky v) v:=by
 unfold Ky;split
 ·simp only[bZ]
 ·simp only[bZ]
 ·split
  ·rename_i h;simp only[bZ];exact⟨rfl,h⟩
  ·simp only[bZ]
theorem Rel.ay(h:Rel F S ρ ids s)(x:Operand):bZ F (S.env ρ ids) (S.ay x) (s.ay x):=by
 cases x with
 |tmp t=>exact h.slot t
 |const v=>exact acZ _ _
 |func f=>simp only[Sym.ay,aA.ay,bZ];exact⟨[],rfl,rfl⟩
 |global g=>simp only[Sym.ay,bZ]
theorem Rel.cu(h:Rel F S ρ ids s){x:Operand}{p:aS}(ae:(S.ay x).cu=some p):s.ay x=p.den ρ/\(s.ay x).plain=true:=wJ ae (h.ay x)
theorem Rel.evs(h:Rel F S ρ ids s):∀l:List Operand,∀a7,hT (l.map S.ay)=some a7->l.map s.ay=ep ρ a7/\(∀q∈l.map s.ay,q.plain=true)
 |[],a7,ae=>by
  simp only[List.map_nil,hT,Option.some.injEq]at ae;subst ae;simp[ep]
 |x::l,a7,ae=>by
  simp only[List.map_cons,hT]at ae;split at ae
  ·rename_i p iv U ab;injection ae with ae;subst ae;obtain⟨aK,aO⟩:=h.cu U;obtain⟨bS,b8⟩:=Rel.evs h l iv ab;refine⟨by simp only[List.map_cons,ep,aK,bS],λq aH=>?_⟩;simp only[List.map_cons,List.mem_cons]at aH;rcases aH with rfl|aH
   ·exact aO
   ·exact b8 q aH
  ·cases ae
def bN(P:Program)(C:b2->FuncId->List aa->Option aa)(n:Nat)(t:Tree)(ρ:List aa)(R:Out->Prop):Prop:=∀ω,∃o,eval P C n t ω ρ=some o/\R o
def gP:b2:=λ_=>0
variable{P:Program}{C:b2->FuncId->List aa->Option aa}{n:Nat}{R:Out->Prop}
theorem bN.av{p:Prim}{t:Tree}(h:bN P C n (.av p t) ρ R):∃v,p.run P ρ=some v/\bN P C n t (ρ++[v]) R:=by
 obtain⟨o,ar,_⟩:=h gP;simp only[eval]at ar;split at ar
 ·rename_i v ai;refine⟨v,ai,λω=>?_⟩;obtain⟨o,ar,cn⟩:=h ω;simp only[eval,ai]at ar;exact⟨o,ar,cn⟩
 ·cases ar
theorem QZ(h:bN P C n .die ρ R):False:=by
 obtain⟨o,ar,_⟩:=h gP;simp[eval]at ar
theorem bN.ite{c:aR}{a b:Tree}(h:bN P C n (.ite c a b) ρ R):(c.den ρ=.bool true/\bN P C n a ρ R)\/(c.den ρ=.bool false/\bN P C n b ρ R):=by
 obtain⟨o,ar,_⟩:=h gP;simp only[eval]at ar;split at ar
 ·rename_i ah;refine .inl ⟨ah,λω=>?_⟩;obtain⟨o,ar,cn⟩:=h ω;simp only[eval,ah]at ar;exact⟨o,ar,cn⟩
 ·rename_i ah;refine .inr ⟨ah,λω=>?_⟩;obtain⟨o,ar,cn⟩:=h ω;simp only[eval,ah]at ar;exact⟨o,ar,cn⟩
 ·cases ar
theorem bN.call{g:FuncId}{args:List aS}{t:Tree}(h:bN P C n (.call g args t) ρ R):(∀ω,(C ω g (ep ρ args)).isSome)/\∀ω v,C ω g (ep ρ args)=some v->bN P C n t (ρ++[v]) R:=by
 refine⟨λω=>?_,λω v ai x5=>?_⟩
 ·obtain⟨o,ar,_⟩:=h (b2.mk ω ω);simp only[eval,b2.tf]at ar;split at ar
  ·rename_i ai;rw[ai];rfl
  ·cases ar
 ·obtain⟨o,ar,cn⟩:=h (b2.mk ω x5);simp only[eval,b2.tf,b2.BD,ai]at ar;exact⟨o,ar,cn⟩
theorem bN.pick{sz:Nat}{c:aR}{t:Tree}(h:bN P C n (.pick sz c t) ρ R):∃cs,c.den ρ=.agg cs/\∀i,bN P C n t (ρ++[y8 sz cs i]) R:=by
 obtain⟨o,ar,_⟩:=h gP;simp only[eval]at ar;split at ar
 ·rename_i cs ah;refine⟨cs,ah,λi ω=>?_⟩;obtain⟨o,ar,cn⟩:=h (b2.mk (λ_=>i) ω);simp only[eval,ah,b2.tf,b2.BD]at ar;exact⟨o,ar,cn⟩
 ·cases ar
theorem bN.kL{f:aR}{args:List aS}{t:Tree}(h:bN P C n (.kL f args t) ρ R):∃g bf,f.den ρ=.fn g bf/\(∀ω,(C ω g (ep ρ args++bf)).isSome)/\∀ω v,C ω g (ep ρ args++bf)=some v->bN P C n t (ρ++[v]) R:=by
 obtain⟨o,ar,_⟩:=h gP;simp only[eval]at ar;split at ar
 ·rename_i g bf aQ;refine⟨g,bf,aQ,λω=>?_,λω v ai x5=>?_⟩
  ·obtain⟨o,ar,_⟩:=h (b2.mk ω ω);simp only[eval,aQ,b2.tf]at ar;split at ar
   ·rename_i ai;rw[ai];rfl
   ·cases ar
  ·obtain⟨o,ar,cn⟩:=h (b2.mk ω x5);simp only[eval,aQ,b2.tf,b2.BD,ai]at ar;exact⟨o,ar,cn⟩
 ·cases ar
theorem ig{p:Prim}{cU:Bool}{k:aR->Sym->M}{t:Tree}(h:emit p cU S k=.ok t):∃bw,k (.var S.cd) (S.bind cU)=.ok bw/\t=.av p bw:=by
 simp only[emit,bind,Except.bind]at h;split at h
 ·cases h
 ·rename_i bw a1;injection h with h;exact⟨bw,a1,h.symm⟩
end
end
section
open Go Go.RowKit
variable[cQ]
section
variable{P:Program}
theorem Ya{op:BinOp}{t:TypeId}{x y v:aa}(h:eB P op t x y=some v):v.plain=true/\v.one=true:=by
 unfold eB at h;split at h
 ·split at h
  ·split at h<;>first|(cases h;done)|(injection h with h;subst h;exact⟨rfl,rfl⟩)
  ·split at h<;>first|(cases h;done)|(injection h with h;subst h;exact⟨rfl,rfl⟩)
  ·split at h
   ·split at h<;>first|(cases h;done)|(injection h with h;subst h;exact⟨rfl,rfl⟩)|(split at h<;>first|(cases h;done)|(injection h with h;subst h;exact⟨rfl,rfl⟩))
   ·cases h
 all_goals first|(cases h;done)|(split at h<;>first|(cases h;done)|(injection h with h;subst h;exact⟨rfl,rfl⟩))
theorem ZA{op:UnOp}{x v:aa}(h:rH op x=some v):v.plain=true/\v.one=true:=by
 unfold rH at h;split at h<;>first|(cases h;done)|(injection h with h;subst h;exact⟨rfl,rfl⟩)
theorem W6{s d:TypeId}{x v:aa}(h:q5 P s d x=some v):v.plain=true/\v.one=true:=by
 unfold q5 at h;split at h<;>first|(cases h;done)|(injection h with h;subst h;exact⟨rfl,rfl⟩)
theorem Yb{t:TypeId}{x v:aa}(h:ht P t x=some v):v.plain=true/\v.one=true:=by
 unfold ht at h;split at h<;>first|(cases h;done)|(injection h with h;subst h;exact⟨rfl,rfl⟩)
theorem Yc{l:List aa}{v:aa}(h:s4 l=some v):v.plain=true/\v.one=true:=by
 unfold s4 at h;split at h<;>first|(cases h;done)|(split at h<;>first|(cases h;done)|(injection h with h;subst h;exact⟨rfl,rfl⟩))
theorem Yd{l:List aa}{v:aa}(h:u3 l=some v):v.plain=true/\v.one=true:=by
 unfold u3 at h;split at h<;>first|(cases h;done)|(split at h<;>first|(cases h;done)|(injection h with h;subst h;exact⟨rfl,rfl⟩))
theorem uh{l:List aa}(h:bG l=true)(k:Nat):bG (l.take k)=true:=(hH _).2 λp ae=>(hH _).1 h p (List.mem_of_mem_take ae)
theorem qJ{l:List aa}(h:bG l=true)(k:Nat):bG (l.drop k)=true:=(hH _).2 λp ae=>(hH _).1 h p (List.mem_of_mem_drop ae)
theorem C0{l aG:List aa}(h:bG l=true)(bc:bG aG=true):bG (l++aG)=true:=(hH _).2 λp ae=>by
 rcases List.mem_append.1 ae with ae|ae
 ·exact(hH _).1 h p ae
 ·exact(hH _).1 bc p ae
theorem Hq{l:List aa}(h:bG l=true){k:Nat}{v:aa}(ai:l[k]?=some v):v.plain=true/\v.one=true:=(hH _).1 h v (List.mem_of_getElem? ai)
theorem Wr{t:TypeId}{x v:aa}{cw aX:Option aa}(aj:x.plain=true)(h:p1 P t x cw aX=some v):v.plain=true/\v.one=true:=by
 unfold p1 at h;split at h
 ·rename_i e id sz off len cs hu;split at h
  ·split at h
   ·split at h
    ·injection h with h;subst h;exact⟨rfl,rfl⟩
    ·injection h with h;subst h;cases id with
     |none=>exact⟨by simp only[aa.plain]at aj⊢;exact uh (qJ aj _) _,rfl⟩
     |some i=>simp[aa.plain]at aj
   ·cases h
  ·cases h
 ·split at h
  ·split at h
   ·injection h with h;subst h;exact⟨rfl,rfl⟩
   ·cases h
  ·cases h
 ·cases h
theorem Ws{t:TypeId}{x i v:aa}(aj:x.plain=true)(h:uJ P t x i=some v):v.plain=true/\v.one=true:=by
 unfold uJ at h;split at h
 ·split at h
  ·exact Hq (by simpa only[aa.plain]using aj) h
  ·cases h
 ·cases h
end
def cj.core(y:cj):cj:={ y with pend:=none,busy:=false }
structure Ext(S:Sym)(ρ:List aa)(br:Sym)(b1:List aa):Prop where
 pre:ρ<+:b1
 base:br.base=S.base
 dO:br.dO=S.dO
 site:br.site=S.site
 ey:br.site=S.site
 ys:br.ys.map cj.core=S.ys.map cj.core
 bx:S.bx.length<=br.bx.length
 g:0=0
theorem Ext.refl(S:Sym)(ρ:List aa):Ext S ρ S ρ:=⟨List.prefix_refl _,rfl,rfl,rfl,rfl,rfl,Nat.le_refl _,rfl⟩
theorem Ext.trans{S ba ji:Sym}{ρ bY kD:List aa}(h:Ext S ρ ba bY)(k:Ext ba bY ji kD):Ext S ρ ji kD:=
 ⟨h.pre.trans k.pre,k.base.trans h.base,k.dO.trans h.dO,k.site.trans h.site,k.ey.trans h.ey,k.ys.trans h.ys,Nat.le_trans h.bx k.bx,k.g.trans h.g⟩
theorem Ext.put{S br:Sym}{ρ b1:List aa}(h:Ext S ρ br b1)(d:Option Tmp)(v:aL):Ext S ρ (br.put d v) b1:=by
 cases d with
 |none=>exact h
 |some d=>exact⟨h.pre,h.base,h.dO,h.site,h.ey,h.ys,h.bx,rfl⟩
theorem Ext.bind(S:Sym)(ρ:List aa)(v:aa)(cU:Bool):Ext S ρ (S.bind cU) (ρ++[v]):=⟨List.prefix_append _ _,rfl,rfl,rfl,rfl,rfl,Nat.le_refl _,rfl⟩
section
variable{X:Ctx}{F:cP}{C:b2->FuncId->List aa->Option aa}{n:Nat}{R:Out->Prop}{S:Sym}{ρ:List aa}{ids:Nat->Option Nat}{s:aA}{K:Sym->M}{t:Tree}{o:Oper}{m0:Mem}{inl yl:fh}{lx:Option Nat}{key:Nat}
def hS(X:Ctx)(F:cP)(C:b2->FuncId->List aa->Option aa)(n:Nat)(R:Out->Prop)(K:Sym->M)(S:Sym)(ρ:List aa)(s':aA):Prop:=
 ∃br b1 dK bw,K br=.ok bw/\Rel F br b1 dK s'/\bN X.P C n bw b1 R/\Ext S ρ br b1
theorem aa7{p:Prim}{cU:Bool}(h:emit p cU S (λv S=>K (S.put o.dst (.e v)))=.ok t)(ad:Rel F S ρ ids s)(aB:bN X.P C n t ρ R)
  (ae:∀v,p.run X.P ρ=some v->v.plain=true/\v.one=true):∃v,p.run X.P ρ=some v/\hS X F C n R K S ρ (s.put o.dst v):=by
 obtain⟨bw,a1,rfl⟩:=ig h;obtain⟨v,ai,aB⟩:=aB.av;obtain⟨U,ab⟩:=ae v ai;have hb:=ad.bind v cU λ_=>ab;obtain⟨g1,g2⟩:=fO ad v U;exact⟨v,ai,_,_,ids,bw,a1,hb.put o.dst (by simp only[bZ];exact⟨g2.symm,g1⟩),aB,(Ext.bind S ρ v cU).put _ _⟩
def lf(F:cP)(lx:Option Nat)(m0:Mem)(s:aA):Prop:=match lx with
 |none=>m0=s.m
 |some b=>m0.n=F.n0+b/\pw m0 s.m
theorem Q0(aI:lf F lx m0 s):pw m0 s.m:=by
 cases lx with
 |none=>simp only[lf]at aI;subst aI;exact⟨Nat.le_refl _,λ_ _=>rfl⟩
 |some b=>exact aI.2
theorem Px(ad:Rel F S ρ ids s)(aI:lf F lx m0 s){ty:TypeId}{i off:Nat}{v:aL}(h:E8 X S lx ty i off=some v):
  ∃q,h0 X.P m0 ty (.ptr (F.n0+i) off)=some q/\bZ F (S.env ρ ids) v q:=by
 unfold E8 at h;have key:∀l,S.bx[i]?=some (.cells l)->(lx.all λb=>decide (i<b))=true->∃aG,nW m0 (.ptr (F.n0+i) off)=some (aG.drop off)/\cJ F (S.env ρ ids) l aG:=λl ak aj=>by
  obtain⟨aG,U,ab⟩:=ad.box i _ ak;have aX:i<S.bx.length:=(List.getElem?_eq_some_iff.1 ak).1;refine⟨aG,?_,ab⟩;have aU:F.n0+i<m0.n/\m0.β (F.n0+i)=s.m.β (F.n0+i):=by
   cases lx with
   |none=>simp only[lf]at aI;subst aI;exact⟨by rw[ad.dt];omega,rfl⟩
   |some b=>
    simp only[Option.all_some,decide_eq_true_eq]at aj;have al:F.n0+i<m0.n:=by rw[aI.1];omega
    exact⟨al,(aI.2.2 _ al).symm⟩
  simp only[nW,aU.1,if_true,aU.2,U]
 split at h
 ·rename_i l hb aN;split at h
  ·rename_i ah;obtain⟨U,ab,al⟩:=ah;injection h with h;subst h;obtain⟨aG,g1,g2⟩:=key l hb al;have hlen:=mi g2;refine⟨_,by simp only[h0,g1,aN];rw[if_pos ⟨by simp;omega,ab⟩],?_⟩;simp only[bZ];refine⟨_,rfl,jL.2 ⟨by simp;omega,λj v q ai aH=>?_⟩⟩;rw[List.getElem?_take]at ai aH;split at ai
   ·rename_i aC;rw[if_pos aC]at aH;rw[List.getElem?_drop]at ai aH;exact(jL.1 g2).2 _ v q ai aH
   ·cases ai
  ·cases h
 ·rename_i l hb aN;split at h
  ·rename_i al;obtain⟨aG,g1,g2⟩:=key l hb al;have aU:off<aG.length:=by rw[←mi g2];exact(List.getElem?_eq_some_iff.1 h).1
   have aV:aG.drop off=aG[off]::aG.drop (off+1):=List.drop_eq_getElem_cons aU;refine⟨aG[off],by simp only[h0,g1,aN,aV],((jL.1 g2).2 off v aG[off] h (by simp[aU])).1⟩
  ·cases h
 ·cases h
end
end
section
open Go Go.RowKit
variable[cQ]
section
variable{X:Ctx}{F:cP}{C:b2->FuncId->List aa->Option aa}{n:Nat}{R:Out->Prop}{S:Sym}{ρ:List aa}{ids:Nat->Option Nat}{s:aA}{K:Sym->M}{t:Tree}{o:Oper}{m0:Mem}{inl yl:fh}{lx:Option Nat}{key:Nat}
def jr(X:Ctx)(F:cP)(C:b2->FuncId->List aa->Option aa)(n:Nat)(R:Out->Prop)(K:Sym->M)(S:Sym)(ρ:List aa)(s:aA)(m0:Mem)(o:Oper):Prop:=
 ∃pv,bV X.P m0 s.ay o=some pv/\hS X F C n R K S ρ (s.put o.dst pv)
theorem ic{v:aL}{pv:aa}(h:K (S.put o.dst v)=.ok t)(ad:Rel F S ρ ids s)(aB:bN X.P C n t ρ R)(ae:bV X.P m0 s.ay o=some pv)(ai:bZ F (S.env ρ ids) v pv):jr X F C n R K S ρ s m0 o:=
 ⟨pv,ae,_,_,ids,t,h,ad.put o.dst ai,aB,(Ext.refl S ρ).put _ _⟩
theorem uq{p:Prim}{cU:Bool}{f:aR->aL}(h:emit p cU S (λv S=>K (S.put o.dst (f v)))=.ok t)(ad:Rel F S ρ ids s)(aB:bN X.P C n t ρ R)
  (aq:cU=true->∀v,p.run X.P ρ=some v->v.one=true) {Q:aa->aa->Prop}
  (ae:∀v,p.run X.P ρ=some v->∃pv,Q v pv/\(Rel F (S.bind cU) (ρ++[v]) ids s->bZ F ((S.bind cU).env (ρ++[v]) ids) (f (.var S.cd)) pv)):∃v pv,p.run X.P ρ=some v/\Q v pv/\hS X F C n R K S ρ (s.put o.dst pv):=by
 obtain⟨bw,a1,rfl⟩:=ig h;obtain⟨v,ai,aB⟩:=aB.av;have hb:=ad.bind v cU λe=>aq e v ai;obtain⟨pv,aH,xN⟩:=ae v ai;exact⟨v,pv,ai,aH,_,_,ids,bw,a1,hb.put o.dst (xN hb),aB,(Ext.bind S ρ v cU).put _ _⟩
theorem Q1{c x y:Operand}(aE:o.op=.pick c x y)(h:Iu o c x y S K=.ok t)(ad:Rel F S ρ ids s)(aB:bN X.P C n t ρ R):jr X F C n R K S ρ s m0 o:=by
 unfold Iu at h;have ah:=ad.ay c;split at h
 ·rename_i b hb;rw[hb]at ah;simp only[bZ,aR.den]at ah;refine ic h ad aB (pv:=if b=true then s.ay x else s.ay y) (by simp only[bV,aE,ah.1]) ?_;cases b
  ·exact ad.ay y
  ·exact ad.ay x
 ·rename_i e _ hb;rw[hb]at ah;simp only[bZ]at ah;simp only[bind,Except.bind,pure,Except.pure]at h;split at h
  ·cases h
  ·rename_i a au;split at h
   ·cases h
   ·rename_i b dB;injection h with h;subst h;rcases aB.ite with⟨U,ab⟩|⟨U,ab⟩
    ·exact ic au ad ab (by simp only[bV,aE,ah.1,Sym.env,U];rfl) (ad.ay x)
    ·exact ic dB ad ab (by simp only[bV,aE,ah.1,Sym.env,U];rfl) (ad.ay y)
 ·cases h
theorem R0{x:Operand}(aE:o.op=.nilCheck x)(h:I1 o x S K=.ok t)(ad:Rel F S ρ ids s)(aB:bN X.P C n t ρ R):jr X F C n R K S ρ s m0 o:=by
 unfold I1 at h;have ah:=ad.ay x;split at h
 ·rename_i i off hb;rw[hb]at ah;have gv:=ah;simp only[bZ]at ah;exact ic (pv:=s.ay x) h ad aB (by simp only[bV,aE,ah.1]) gv
 ·rename_i f l hb;rw[hb]at ah;have gv:=ah;simp only[bZ]at ah;obtain⟨aG,e,ak⟩:=ah;exact ic (pv:=s.ay x) h ad aB (by simp only[bV,aE,e]) gv
 ·cases h
theorem Q2{E:Env}:∀{l:List aL}{aG:List aa}{i:Nat}{v:aL},hk F E l aG->l[i]?=some v->∃q,aG[i]?=some q/\bZ F E v q
 |[],aG,i,v,h,ai=>by simp at ai
 |u::us,aG,i,v,h,ai=>by
  simp only[hk]at h;obtain⟨q,r,rfl,U,ab⟩:=h;cases i with
  |zero=>simp at ai;subst ai;exact⟨q,rfl,U⟩
  |succ i=>
   obtain⟨p,al,aJ⟩:=Q2 ab (i:=i) (v:=v) (by simpa using ai);exact⟨p,by simpa using al,aJ⟩
theorem R1{x:Operand}{i:Nat}(aE:o.op=.extract x i)(h:I2 o x i S K=.ok t)(ad:Rel F S ρ ids s)(aB:bN X.P C n t ρ R):jr X F C n R K S ρ s m0 o:=by
 unfold I2 at h;have ah:=ad.ay x;split at h
 ·rename_i l hb;rw[hb]at ah;simp only[bZ]at ah;obtain⟨aG,e,ak⟩:=ah;split at h
  ·rename_i v ai;obtain⟨q,U,ab⟩:=Q2 ak ai;exact ic h ad aB (by simp only[bV,aE,e,U]) ab
  ·cases h
 ·rename_i e hb;rw[hb]at ah;simp only[bZ]at ah;have cD:=aR.jJ ah.2;obtain⟨v,pv,U,rfl,al⟩:=uq (Q:=λv pv=>pv=v) h ad aB (by simp) λv ai=>⟨v,rfl,λhb=>by
   simp only[Prim.run,ll,aS.den]at ai;split at ai
   ·rename_i af e0;rw[show aR.den (S.env ρ ids).ρ e=aR.den ρ e from rfl,e0]at cD;have:jO af=true:=by simpa only[aa.plain]using cD
    have ae:=(X9 _).1 this v (List.mem_of_getElem? ai);obtain⟨g1,g2⟩:=fO ad v ae;simp only[bZ];exact⟨g2.symm,g1⟩
   ·cases ai⟩
  refine⟨pv,?_,al⟩;simp only[Prim.run,ll,aS.den]at U;simp only[bV,aE,ah.1];exact U
 ·cases h
theorem ZB{P:Program}{ty:TypeId}{fs:Array Field}{f:Nat}{fd:Field}(hu:P.underlying ty=some (.struct fs))(aQ:fs[f]?=some fd)(ah:¬(P.cellsOf fd.type=0\/(P.info? fd.type).isNone))(id off:Nat):
  pd P ty (.ptr id off) f=some (.ptr id (off+fd.offset)):=by simp only[pd,hu,aQ,if_neg ah]
theorem DF{P:Program}{ty:TypeId}{fs:Array Field}{f:Nat}{fd:Field}(hu:P.underlying ty=some (.struct fs))(aQ:fs[f]?=some fd)(ah:¬(P.cellsOf fd.type=0\/(P.info? fd.type).isNone))(id:Option Nat)(off:Nat)(cs:List aa):
  pd P ty (.bJ id off cs) f=some (.bJ id (off+fd.offset) (cs.drop fd.offset)):=by simp only[pd,hu,aQ,if_neg ah]
theorem M8{dZ:Nat}{x v:aa}(aj:x.plain=true)(h:A5 dZ x=some v):∃off cs,x=.bJ none off cs/\v=.agg (cs.take dZ)/\(cs.take dZ).length=dZ/\bG cs=true:=by
 unfold A5 at h;split at h
 ·rename_i off cs;split at h
  ·rename_i ak;injection h with h;exact⟨off,cs,rfl,h.symm,ak.symm,by simpa only[aa.plain]using aj⟩
  ·cases h
 ·cases h
theorem PN{ty:TypeId}{x:Operand}{f:Nat}(aE:o.op=.fieldAddr ty x f)(h:HQ X o ty x f S K=.ok t)(ad:Rel F S ρ ids s)(aB:bN X.P C n t ρ R):jr X F C n R K S ρ s m0 o:=by
 unfold HQ at h;have ah:=ad.ay x;split at h
 ·rename_i fs hu;split at h
  ·rename_i fd aQ;split at h
   ·cases h
   ·rename_i pO;have eW:bV X.P m0 s.ay o=pd X.P ty (s.ay x) f:=by simp only[bV,aE]
    split at h
    ·rename_i i off hb;rw[hb]at ah;simp only[bZ]at ah;exact ic h ad aB (by rw[eW,ah.1,ZB hu aQ pO]) (by unfold bZ;exact⟨rfl,ah.2⟩)
    ·rename_i e sz fo hb;rw[hb]at ah;simp only[bZ]at ah;obtain⟨cs,off,lI,U,ab,al,aJ⟩:=ah;refine ic h ad aB (by rw[eW,aJ,DF hu aQ pO]) ?_;simp only[bZ];by_cases hle:fo+fd.offset<=cs.length
     ·refine⟨cs,off+fd.offset,lI,U,ab,al,?_⟩;rw[List.drop_append_of_le_length (by simp;omega),List.drop_drop]
     ·refine⟨cs,off+fd.offset,(cs.drop fo++lI).drop fd.offset,U,ab,al,?_⟩;rw[List.drop_of_length_le (by omega:cs.length<=fo+fd.offset)];rfl
    ·rename_i l fo hb;rw[hb]at ah;simp only[bZ]at ah;obtain⟨aG,U,ab,al⟩:=ah;refine ic h ad aB (by rw[eW,al,DF hu aQ pO]) ?_;simp only[bZ];exact⟨aG,U,ab,by rw[List.drop_drop]⟩
    ·rename_i k e fo hb;rw[hb]at ah;simp only[bZ]at ah;obtain⟨a,cs,id,dZ,gJ,U,ab,al,aJ,bm,bI,cS,et⟩:=ah;refine ic h ad aB (by rw[eW,et,DF hu aQ pO]) ?_;simp only[bZ];exact⟨a,cs,id,dZ,gJ,U,ab,al,aJ,bm,bI,cS,by rw[List.drop_drop,Nat.add_assoc]⟩
    ·rename_i e hb;rw[hb]at ah;simp only[bZ]at ah;obtain⟨v,pv,U,ab,al⟩:=uq (f:=λv=>aL.fQ v (X.P.cellsOf ty) fd.offset) (Q:=λv pv=>pd X.P ty (s.ay x) f=some pv) h ad aB (by simp) λv ai=>by
      simp only[Prim.run,aS.den]at ai;obtain⟨off,cs,aK,rfl,bS,b8⟩:=M8 (aR.jJ ah.2) ai;refine⟨_,by rw[ah.1,aK,DF hu aQ pO],λhb=>?_⟩;obtain⟨g1,g2⟩:=fO ad (.agg (cs.take (X.P.cellsOf ty))) (by simp only[aa.plain];exact uh b8 _);simp only[bZ];refine⟨_,off+fd.offset,cs.drop (max fd.offset (X.P.cellsOf ty)),g2,g1,bS,?_⟩;congr 1
      conv=>lhs;rw[←List.take_append_drop (X.P.cellsOf ty) cs]
      by_cases hle:fd.offset<=X.P.cellsOf ty
      ·rw[List.drop_append_of_le_length (by omega),Nat.max_eq_right hle]
      ·rw[List.drop_append,List.drop_of_length_le (by omega:(cs.take (X.P.cellsOf ty)).length<=fd.offset),bS,List.drop_drop,Nat.max_eq_left (by omega)];congr 2;omega
     exact⟨pv,by rw[eW];exact ab,al⟩
    ·cases h
  ·cases h
 ·cases h
end
end
section
open Go Go.RowKit
variable[cQ]
section
variable{X:Ctx}{F:cP}{C:b2->FuncId->List aa->Option aa}{n:Nat}{R:Out->Prop}{S:Sym}{ρ:List aa}{ids:Nat->Option Nat}{s:aA}{K:Sym->M}{t:Tree}{o:Oper}{m0:Mem}{inl yl:fh}{lx:Option Nat}{key:Nat}
theorem c6.rel.some{E:Env}{k:Nat}{a:c6}{cs:List aa}(h:a.rel E k cs)(ah:cs≠[]):∃id,E.ids k=some id:=by
 obtain⟨_,_,_,_,bm,_⟩:=h;cases aX:E.ids k with
 |some id=>grind
 |none=>
  unfold isNil at bm;grind
theorem c6.rel.plain{E:Env}{k:Nat}{a:c6}{cs:List aa}(h:a.rel E k cs):bG cs=true:=by
 have:=aR.jJ h.1;rw[h.2.1]at this;assumption
theorem MI{ty:TypeId}{x i:Operand}(aE:o.op=.indexAddr ty x i)(h:GW X o ty x i S K=.ok t)(ad:Rel F S ρ ids s)(aB:bN X.P C n t ρ R):jr X F C n R K S ρ s m0 o:=by
 unfold GW at h;have ah:=ad.ay x;have eW:bV X.P m0 s.ay o=pT X.P ty (s.ay x) (s.ay i):=by simp only[bV,aE]
 split at h
 ·rename_i e hu;split at h
  ·rename_i pi Gd;obtain⟨aX,_⟩:=ad.cu Gd;split at h
   ·cases h
   ·rename_i pO;have agN:(X.P.info? e).isSome/\X.P.cellsOf e≠0:=by cases bq:X.P.info? e<;>simp[bq]at pO⊢<;>exact pO
    split at h
    ·rename_i k hb;rw[hb]at ah;simp only[bZ]at ah;obtain⟨a,cs,U,ab,al⟩:=ah;split at h
     ·rename_i a' kR;have:a'=a:=by have:=kR.symm.trans U;injection this
      subst this;split at h
      ·rename_i agO;obtain⟨bX,oI⟩:=agO;obtain⟨v,pv,g1,g2,g3⟩:=uq (f:=λv=>aL.fF k v 0) (Q:=λv pv=>pT X.P ty (s.ay x) (s.ay i)=some pv) h ad aB
        (λ_ v ai=>by
         simp only[Prim.run,zj]at ai;split at ai
         ·split at ai
          ·injection ai with ai;subst ai;rfl
          ·cases ai
         ·cases ai) λv ai=>by
        simp only[Prim.run,zj]at ai;split at ai
        ·rename_i cs' gJ dZ aK aO;have:cs'=cs:=by have:=aK.symm.trans ab.2.1;injection this
         subst this;split at ai
         ·rename_i aU;injection ai with ai;subst ai;have bU:cs'≠[]:=by rintro rfl;simp at aU
          obtain⟨id,cr⟩:=ab.some bU;rw[cr,la oI]at al;have KB:ids k=some id:=cr;refine⟨.bJ (some id) (0+dZ.toNat*X.P.cellsOf e) (cs'.drop (dZ.toNat*X.P.cellsOf e)),?_,λhb=>?_⟩
          ·rw[al,aX,aO];simp only[pT,hu];rw[if_pos ⟨aU.1,by rw[bX]at aU⊢;omega,bX.symm,agN.1⟩,bX]
          ·obtain⟨v1,v2⟩:=fO ad (.int gJ dZ) rfl;unfold bZ;exact⟨a',cs',id,dZ,gJ,U,c6.rel.mono (Env.p0 S ρ ids _ true) U ab,KB,v2,v1,aU.1,aU.2,by rw[bX];simp⟩
         ·cases ai
        ·cases ai
       exact⟨pv,by rw[eW];exact g2,g3⟩
      ·cases h
     ·cases h
    ·rename_i b sz len hb;rw[hb]at ah;simp only[bZ]at ah;split at h
     ·rename_i gJ dZ U;split at h
      ·rename_i hx;have fG:=ad.ay i;rw[U]at fG;simp only[bZ,aR.den]at fG;refine ic h ad aB (by rw[eW,ah.1,fG.1];simp only[pT,hu];rw[if_pos ⟨hx.1,hx.2.1,hx.2.2,agN.1⟩]) ?_;unfold bZ;exact⟨rfl,ah.2⟩
      ·cases h
     ·cases h
    ·split at h
     ·rename_i Vr ai3;obtain⟨aj,Gk⟩:=ad.cu ai3;obtain⟨v,pv,g1,g2,g3⟩:=uq (f:=λv=>aL.fQ v (X.P.cellsOf e) 0) (Q:=λv pv=>pT X.P ty (s.ay x) (s.ay i)=some pv) h ad aB (by simp) λv ai=>by
       simp only[Prim.run,kp]at ai;split at ai
       ·rename_i sz off len cs gJ dZ aK aO;split at ai
        ·rename_i hx;obtain⟨cy,dM,gC,jF⟩:=hx;injection ai with ai;subst ai;refine⟨.bJ none (off+dZ.toNat*X.P.cellsOf e) (cs.drop (dZ.toNat*X.P.cellsOf e)),?_,λhb=>?_⟩
         ·rw[aj,aX,aK,aO];simp only[pT,hu];rw[if_pos ⟨cy,dM,gC.symm,agN.1⟩,gC]
         ·rw[aj,aK]at Gk;have cD:bG cs=true:=by simpa only[aa.plain]using Gk
          obtain⟨v1,v2⟩:=fO ad (.agg ((cs.drop (dZ.toNat*X.P.cellsOf e)).take (X.P.cellsOf e))) (by simp only[aa.plain];exact uh (qJ cD _) _);unfold bZ;refine⟨_,off+dZ.toNat*X.P.cellsOf e,(cs.drop (dZ.toNat*X.P.cellsOf e)).drop (X.P.cellsOf e),v2,v1,jF,?_⟩;rw[List.drop_zero,List.take_append_drop]
        ·cases ai
       ·cases ai
      exact⟨pv,by rw[eW];exact g2,g3⟩
     ·cases h
  ·cases h
 ·rename_i len e hu;split at h
  ·rename_i gJ dZ b off U ab;split at h
   ·rename_i hx;have fG:=ad.ay i;rw[U]at fG;rw[ab]at ah;simp only[bZ,aR.den]at fG ah;refine ic h ad aB (by rw[eW,ah.1,fG.1];simp only[pT,hu];rw[if_pos hx]) ?_;unfold bZ;exact⟨rfl,ah.2⟩
   ·cases h
  ·cases h
 ·cases h
theorem Ea{E:Env}{x:aR}{cs:List aa}{j:Nat}{q:aa}(aV:x.den E.ρ=.agg cs)(aq:x.ok E.ρ)(aH:cs[j]?=some q):bZ F E (.e (.proj x j)) q/\q.one=true:=by
 have ae:=aR.jJ aq;rw[aV]at ae;obtain⟨U,ab⟩:=Hq ae aH;have e:aR.den E.ρ (.proj x j)=q:=by grind [aR.den,cM]
 refine⟨?_,ab⟩;exact⟨e.symm,aq,by grind [aR.den]⟩
theorem OK{E:Env}{x:aR}{cs:List aa}{fo k:Nat}(aV:x.den E.ρ=.agg cs)(aq:x.ok E.ρ)(ak:fo+k<=cs.length):cJ F E ((List.range k).map λj=>.e (.proj x (fo+j))) ((cs.drop fo).take k):=by
 refine jL.2 ⟨by simp;omega,λj v q ai aH=>?_⟩;grind [Ea]
theorem ym{E:Env}{x:aR}{cs:List aa}{k:Nat}(aV:x.den E.ρ=.agg cs)(aq:x.ok E.ρ)(ak:cs.length=k):cJ F E ((List.range k).map λj=>.e (.proj x j)) cs:=by
 have:=OK (F:=F) (fo:=0) (k:=k) aV aq (by omega);grind
theorem Eb{P:Program}{ty:TypeId}{m:Mem}{id:Option Nat}{off:Nat}{cs:List aa}(aN:ik P ty=some true)(ak:P.cellsOf ty<=cs.length)(aX:(P.info? ty).isSome):h0 P m ty (.bJ id off cs)=some (.agg (cs.take (P.cellsOf ty))):=by grind [h0,nW]
theorem DG{P:Program}{ty:TypeId}{m:Mem}{id:Option Nat}{off:Nat}{cs:List aa}{q:aa}(aN:ik P ty=some false)(ak:cs[0]?=some q):h0 P m ty (.bJ id off cs)=some q:=by
 cases cs with
 |nil=>simp at ak
 |cons c cs=>grind [h0,nW]
theorem Q3{ty:TypeId}{x:Operand}(aE:o.op=.load ty x)(h:Iv X lx o ty x S K=.ok t)(ad:Rel F S ρ ids s)(aI:lf F lx m0 s)(aB:bN X.P C n t ρ R):jr X F C n R K S ρ s m0 o:=by
 unfold Iv at h;have ah:=ad.ay x;have eW:bV X.P m0 s.ay o=h0 X.P m0 ty (s.ay x):=by grind [bV]
 split at h
 ·rename_i i off hb;rw[hb]at ah;simp only[bZ]at ah;split at h
  ·grind [Px,ic]
  ·cases h
 ·rename_i l fo hb;rw[hb]at ah;simp only[bZ]at ah;obtain⟨aG,U,ab,al⟩:=ah;have hlen:=mi U;split at h
  ·rename_i aN;split at h
   ·rename_i hx;refine ic h ad aB (by rw[eW,al,Eb aN (by simp;omega) hx.2]) ?_;grind [bZ,jL]
   ·cases h
  ·rename_i aN;split at h
   ·rename_i v ai;have aU:fo<aG.length:=by grind
    exact ic h ad aB (pv:=aG[fo]) (by grind [DG]) ((jL.1 U).2 fo v _ ai (by simp[aU])).1
   ·cases h
  ·cases h
 ·rename_i e sz fo hb;rw[hb]at ah;simp only[bZ]at ah;obtain⟨cs,off,lI,U,ab,al,aJ⟩:=ah;split at h
  ·rename_i aN;split at h
   ·grind [ic,Eb,bZ,OK]
   ·cases h
  ·rename_i aN;split at h
   ·rename_i aU;have xh:fo<cs.length:=by omega
    exact ic h ad aB (pv:=cs[fo]) (by grind [DG]) (Ea U ab (by simp[xh])).1
   ·cases h
  ·cases h
 ·rename_i k i fo hb;rw[hb]at ah;simp only[bZ]at ah;obtain⟨a,cs,id,dZ,gJ,U,ab,al,aJ,bm,bI,cS,et⟩:=ah;split at h
  ·rename_i a' kR;have:a'=a:=by have:=kR.symm.trans U;grind
   subst this;have s7:∀m v,Prim.run X.P ρ (.get a'.sz fo m a'.c i)=some v->m=((cs.drop (dZ.toNat*a'.sz+fo)).take m).length/\v=.agg ((cs.drop (dZ.toNat*a'.sz+fo)).take m):=λm v ai=>by
    have aK:a'.c.den ρ=.agg cs:=ab.2.1;have aO:i.den ρ=.int gJ dZ:=aJ;grind [Prim.run,zk]
   have cD:=ab.plain;split at h
   ·rename_i aN;split at h
    ·rename_i hx;obtain⟨v,pv,g1,g2,g3⟩:=uq (f:=λv=>aL.agg ((List.range (X.P.cellsOf ty)).map λj=>.e (.proj v j))) (Q:=λv pv=>h0 X.P m0 ty (s.ay x)=some pv) h ad aB (by simp) λv ai=>by
      obtain⟨aK,rfl⟩:=s7 _ v ai;refine⟨_,by rw[et,Eb aN (by simp at aK;simp;omega) hx.2],λhb=>?_⟩;obtain⟨v1,v2⟩:=fO ad (.agg ((cs.drop (dZ.toNat*a'.sz+fo)).take (X.P.cellsOf ty))) (by simp only[aa.plain];exact uh (qJ cD _) _);unfold bZ;exact⟨_,rfl,ym v2 v1 aK.symm⟩
     exact⟨pv,by rw[eW];exact g2,g3⟩
    ·cases h
   ·rename_i aN;split at h
    ·obtain⟨v,pv,g1,g2,g3⟩:=uq (f:=λv=>aL.e (.proj v 0)) (Q:=λv pv=>h0 X.P m0 ty (s.ay x)=some pv) h ad aB (by simp) λv ai=>by
      obtain⟨aK,rfl⟩:=s7 _ v ai;have aU:dZ.toNat*a'.sz+fo<cs.length:=by simp at aK;omega
      refine⟨cs[dZ.toNat*a'.sz+fo],by rw[et,DG (q:=cs[dZ.toNat*a'.sz+fo]) aN (by simp[aU])],λhb=>?_⟩;obtain⟨v1,v2⟩:=fO ad (.agg ((cs.drop (dZ.toNat*a'.sz+fo)).take 1)) (by simp only[aa.plain];exact uh (qJ cD _) _);exact(Ea v2 v1 (by simp[aU])).1
     exact⟨pv,by rw[eW];exact g2,g3⟩
    ·cases h
   ·cases h
  ·cases h
 ·rename_i e hb;rw[hb]at ah;simp only[bZ]at ah;have TL:∀m v,Prim.run X.P ρ (.deref m (.e e))=some v->∃off cs,s.ay x=.bJ none off cs/\v=.agg (cs.take m)/\(cs.take m).length=m/\bG cs=true:=λm v ai=>by
   simp only[Prim.run,aS.den]at ai;obtain⟨off,cs,aK,aO,bS,b8⟩:=M8 (aR.jJ ah.2) ai;exact⟨off,cs,by rw[ah.1,aK],aO,bS,b8⟩
  split at h
  ·rename_i aN;split at h
   ·cases h
   ·rename_i hx;have c1:(X.P.info? ty).isSome:=by cases bq:X.P.info? ty<;>simp[bq]at hx⊢
    obtain⟨v,pv,g1,g2,g3⟩:=uq (f:=λv=>aL.agg ((List.range (X.P.cellsOf ty)).map λj=>.e (.proj v j))) (Q:=λv pv=>h0 X.P m0 ty (s.ay x)=some pv) h ad aB (by simp) λv ai=>by
     obtain⟨off,cs,aK,rfl,bS,b8⟩:=TL _ v ai;refine⟨_,by rw[aK,Eb aN (by simp at bS;omega) c1],λhb=>?_⟩;obtain⟨v1,v2⟩:=fO ad (.agg (cs.take (X.P.cellsOf ty))) (by simp only[aa.plain];exact uh b8 _);unfold bZ;exact⟨_,rfl,ym v2 v1 bS⟩
    exact⟨pv,by rw[eW];exact g2,g3⟩
  ·rename_i aN;obtain⟨v,pv,g1,g2,g3⟩:=uq (f:=λv=>aL.e (.proj v 0)) (Q:=λv pv=>h0 X.P m0 ty (s.ay x)=some pv) h ad aB (by simp) λv ai=>by
    obtain⟨off,cs,aK,rfl,bS,b8⟩:=TL _ v ai;have aU:0<cs.length:=by simp at bS;omega
    refine⟨cs[0],by rw[aK,DG (q:=cs[0]) aN (by simp[aU])],λhb=>?_⟩;obtain⟨v1,v2⟩:=fO ad (.agg (cs.take 1)) (by simp only[aa.plain];exact uh b8 _);exact(Ea v2 v1 (by simp[aU])).1
   exact⟨pv,by rw[eW];exact g2,g3⟩
  ·cases h
 ·cases h
end
end
end Go.Proofs.YtlminnpaeaganaaGreat
