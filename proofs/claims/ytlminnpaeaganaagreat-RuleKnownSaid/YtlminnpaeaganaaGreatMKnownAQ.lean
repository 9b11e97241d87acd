/- Part of the proof of RuleKnown. No condition. -/
import Derived.Test.YtlminnpaeaganaaGreatMKnownAM
import Derived.Test.YtlminnpaeaganaaGreatMKnownAP
namespace Go.Proofs.YtlminnpaeaganaaGreat
set_option maxRecDepth 100000
set_option linter.all false
section
open Go Go.Conc Go.ConcN Go.RowKit Go.Conc.Lib Go.ConcR.Gen Go.ConcN.Gen
open Go.ConcR (KK wgBlock WgAt stA smA rd wr mk DC0 Payload)
section
variable[Payload]{P:Program}{ty:TypeId}{Wg C n:Nat}{σ:Type}{lt:σ->σ->Prop}{b5:Nat->σ->(Nat->Prop)->(Nat->Prop)->Goroutine->World->Prop}{Fin:Nat->(Nat->Prop)->(World->Prop)->Goroutine->Prop}
 {tag:CTag} {c j d R:Nat} {bM:Nat->Prop} {A:World->Prop} {g g1:Goroutine}
theorem fE(aW:fL bM A){f:Nat}(aQ:0<f)(ad:g.status=.running)(ao:∀w,stepG P true g w=.go g1 w #[])(aq:(dn P ty Wg C n lt b5 Fin) (f-1) tag c j d bM R A g1):(dn P ty Wg C n lt b5 Fin) f tag c j d bM R A g:=by
 obtain⟨f,rfl⟩:∃f1,f=f1+1:=⟨f-1,by omega⟩;exact⟨ad,aW,.inr (.inl λw _=>⟨g1,ao w,aq⟩)⟩
theorem qU(aW:fL bM A){f:Nat}(v:Value){ops:Array Oper}{i:Nat}{rest:List Nat}{o:Oper}{b:Frame}{a:Act}{k:List Item}{cs:List Frame}(aQ:0<f)(ar:ops[i]?=some o)(hw:Region.wanted o (yielded ops a.tmps)=true)(aq:b.kind≠.early)
  (ad:∀w,(execOp a.eval o).run P w=.ok (.value v) w) (he:∀w,(execOp a.eval o).events P w #[]=#[]) (h:(dn P ty Wg C n lt b5 Fin) (f-1) tag c j d bM R A (G (b.at (a.put o.dst v) (.inRegion ops rest::k)) cs)):(dn P ty Wg C n lt b5 Fin) f tag c j d bM R A (G (b.at a (.inRegion ops (i::rest)::k)) cs):=
 fE aW aQ rfl (λw=>by rw[stepG_value ar hw aq (ad w)];grind [listed,seen_none]) h
theorem Qq(aW:fL bM A){f:Nat}(aQ:0<f)(ad:g.status=.running)(h:∀w,A w->(∀b,bM b->b<w.heap.size)->R<=w.heap.size->∃g' w' es iQ,stepG P true g w=.go g' w' es/\B9 bM R w w' es/\iQ w'/\(dn P ty Wg C n lt b5 Fin) (f-1) .anch c j 0 (λb=>bM b\/(w.heap.size<=b/\b<w'.heap.size)) R iQ g'):(dn P ty Wg C n lt b5 Fin) f .anch c j 0 bM R A g:=by
 obtain⟨f,rfl⟩:∃f1,f=f1+1:=⟨f-1,by omega⟩;exact⟨ad,aW,.inl ⟨rfl,h⟩⟩
theorem YT(aW:fL bM A){f:Nat}(d:Deferred){ahQ:Fn}{ajl:Array Value}{ops:Array Oper}{i:Nat}{rest:List Nat}{o:Oper}{b:Frame}{a:Act}{k:List Item}{cs:List Frame}(aQ:0<f)(ar:ops[i]?=some o)(hw:Region.wanted o (yielded ops a.tmps)=true)(aq:b.kind≠.early)
  (ad:∀w,(execOp a.eval o).run P w=.ok (.spawn d) w) (he:∀w,(execOp a.eval o).events P w #[]=#[]) (aV:d.target=.fn ahQ ajl) (aC:j<n)
  (fM:∀w,A w->PayAt C n w->WgLive ty Wg w->(∀b,bM b->b<w.heap.size)->∃s,b5 j s (λ_=>False) bM (born P d) w/\Acc lt s)
  (h:∀R,(dn P ty Wg C n lt b5 Fin) (f-1) .anch c (j+1) 0 bM R A (G (b.at (a.put o.dst undef) (.inRegion ops rest::k)) cs)):(dn P ty Wg C n lt b5 Fin) f (.sp 0 3) c j 0 bM R A (G (b.at a (.inRegion ops (i::rest)::k)) cs):=by
 obtain⟨f,rfl⟩:∃f1,f=f1+1:=⟨f-1,by omega⟩;refine⟨rfl,aW,.inr (.inr (.inr (.inr (.inl ⟨rfl,rfl,aC,λw qq ry qd h8=>?_⟩))))⟩;obtain⟨s,U,ab⟩:=fM w qq ry qd h8;exact⟨_,_,s,by rw[stepG_spawn ar hw aq (ad w) aV];grind [listed,Go.Conc.seen_none],U,ab,h _⟩
theorem Pf(aW:fL bM A){f:Nat}(aQ:0<f)(ad:g.status=.running)(h:∀w,A w->(∀b,bM b->b<w.heap.size)->R<=w.heap.size->∃g' w' es iQ,stepG P true g w=.go g' w' es/\w'.heap.size=w.heap.size/\B9 bM R w w' es/\iQ w'/\(dn P ty Wg C n lt b5 Fin) (f-1) .anch c j 0 bM R iQ g'):(dn P ty Wg C n lt b5 Fin) f .anch c j 0 bM R A g:=
 Qq aW aQ ad λw U ab al=>by
  obtain⟨g',w',es,iQ,k1,k2,bP,cX,fi⟩:=h w U ab al;have e:(λb=>bM b\/(w.heap.size<=b/\b<w'.heap.size))=bM:=funext λb=>propext ⟨λh=>h.resolve_right (by omega),.inl⟩;grind
theorem MS{P:Program}{main:Bool}{b:Frame}{a:Act}{k:List Item}{cs:List Frame}{w:World}{ops:Array Oper}{i:Nat}{rest:List Nat}{o:Oper}{f:FuncId}{fn:Func}{c:Code}{args:Array Operand}{ahR:Array TypeId}
  (ar:ops[i]?=some o) (hw:Region.wanted o (yielded ops a.tmps)=true) (aq:b.kind≠.early) (aE:o.op=.call { callee:=.value (.func f),args,argTypes:=ahR })
  (aQ:P.funcs[f]?=some fn) (hs:(fn.name == "runtime.NumGoroutine")=false) (hb:fn.body=some c):
  stepG P main (G (b.at a (.inRegion ops (i::rest)::k)) cs) w=.go (G ((base f).at { tmps:=args.map a.eval++Array.replicate (fn.ntmps-(args.map a.eval).size) undef,defers:=[] } [.code c]) (b.at a (.inRegion ops (i::rest)::k)::cs)) w #[]:=by
 have dB:fn.body.isNone=false:=by rw[hb];rfl
 rw[stepG_enter ar hw aq (run_call_body aE aQ hs dB),enter_at _ aQ hb];grind [listed,events_call_body,Go.Conc.seen_none]
end
theorem Ej(T:Array Value)(h:T.size=34):∃v0 v1 v2 v3 v4 v5 v6 so sq v9 v10 v11 v12 rS tB tC vs rT rU rV v20 v21 v22 rY v24 r1 r3 r4 v28 r6 v30 v31 r8 r9:Value,T=#[v0,v1,v2,v3,v4,v5,v6,so,sq,v9,v10,v11,v12,rS,tB,tC,vs,rT,rU,rV,v20,v21,v22,rY,v24,r1,r3,r4,v28,r6,v30,v31,r8,r9]:=by
 obtain⟨l⟩:=T;rcases l with _|⟨v0,l⟩
 ·simp at h
 rcases l with _|⟨v1,l⟩
 ·simp at h
 rcases l with _|⟨v2,l⟩
 ·simp at h
 rcases l with _|⟨v3,l⟩
 ·simp at h
 rcases l with _|⟨v4,l⟩
 ·simp at h
 rcases l with _|⟨v5,l⟩
 ·simp at h
 rcases l with _|⟨v6,l⟩
 ·simp at h
 rcases l with _|⟨so,l⟩
 ·simp at h
 rcases l with _|⟨sq,l⟩
 ·simp at h
 rcases l with _|⟨v9,l⟩
 ·simp at h
 rcases l with _|⟨v10,l⟩
 ·simp at h
 rcases l with _|⟨v11,l⟩
 ·simp at h
 rcases l with _|⟨v12,l⟩
 ·simp at h
 rcases l with _|⟨rS,l⟩
 ·simp at h
 rcases l with _|⟨tB,l⟩
 ·simp at h
 rcases l with _|⟨tC,l⟩
 ·simp at h
 rcases l with _|⟨vs,l⟩
 ·simp at h
 rcases l with _|⟨rT,l⟩
 ·simp at h
 rcases l with _|⟨rU,l⟩
 ·simp at h
 rcases l with _|⟨rV,l⟩
 ·simp at h
 rcases l with _|⟨v20,l⟩
 ·simp at h
 rcases l with _|⟨v21,l⟩
 ·simp at h
 rcases l with _|⟨v22,l⟩
 ·simp at h
 rcases l with _|⟨rY,l⟩
 ·simp at h
 rcases l with _|⟨v24,l⟩
 ·simp at h
 rcases l with _|⟨r1,l⟩
 ·simp at h
 rcases l with _|⟨r3,l⟩
 ·simp at h
 rcases l with _|⟨r4,l⟩
 ·simp at h
 rcases l with _|⟨v28,l⟩
 ·simp at h
 rcases l with _|⟨r6,l⟩
 ·simp at h
 rcases l with _|⟨v30,l⟩
 ·simp at h
 rcases l with _|⟨v31,l⟩
 ·simp at h
 rcases l with _|⟨r8,l⟩
 ·simp at h
 rcases l with _|⟨r9,l⟩
 ·simp at h
 rcases l with _|⟨x,l⟩
 ·exact⟨v0,v1,v2,v3,v4,v5,v6,so,sq,v9,v10,v11,v12,rS,tB,tC,vs,rT,rU,rV,v20,v21,v22,rY,v24,r1,r3,r4,v28,r6,v30,v31,r8,r9,rfl⟩
 ·simp at h
noncomputable def Fq:Code:=match sb with | .seq _ (.seq _ (.seq _ (.seq (.seq _ (.block _ (.loop c))) _)))=>c|_=>.skip
noncomputable def Bz:Code:=match sb with | .seq _ (.seq _ (.seq _ c))=>c|_=>.skip
noncomputable def xd:Array Oper:=match sb with | .seq _ (.seq _ (.seq (.region _ ops _) _))=>ops|_=>#[]
noncomputable def Fs:Array Oper:=match B3 with | .seq (.region _ ops _) _=>ops|_=>#[]
noncomputable def wG(T:Array Value)(us:List Frame):Goroutine:=G ((base 58).at ⟨T,[]⟩ [.code Fq,.inLoop Fq,.inBlock 0,.code B3]) us
noncomputable def wW(T:Array Value)(us:List Frame):Goroutine:=G ((base 58).at ⟨T,[]⟩ (.inRegion xd []::[.code Bz])) us
noncomputable def A3(T:Array Value)(us:List Frame):Goroutine:=G ((base 58).at ((⟨T,[]⟩:Act).put ((Fs[0]?).bind (·.dst)) (.tuple #[])) (.inRegion Fs []::[.code l2])) us
theorem adA:(Tryz.prog.funcs[58]?).any (·.norace)=false:=by kernel_rfl
theorem St{b:Frame}(h:b.fn=58):(Tryz.prog.funcs[b.fn]?).any (·.norace)=false:=by grind [adA]
section
variable{Wg C n:Nat}{ty:TypeId}{σ:Type}{lt:σ->σ->Prop}{b5:Nat->σ->(Nat->Prop)->(Nat->Prop)->Goroutine->World->Prop}{Fin:Nat->(Nat->Prop)->(World->Prop)->Goroutine->Prop}
 {c j R f:Nat} {bM:Nat->Prop} {A:World->Prop} {ops:Array Oper} {i:Nat} {rest:List Nat} {o:Oper} {b:Frame} {a:Act} {k:List Item} {cs:List Frame}
theorem XE(aW:fL bM A)(aQ:0<f)(ar:ops[i]?=some o)(hw:Region.wanted o (yielded ops a.tmps)=true)(aq:b.kind≠.early)(aE:o.op=.alloc 3)
  (h:∀dw,¬bM dw->R<=dw->(dn Tryz.prog ty Wg C n lt b5 Fin) (f-1) .anch c j 0 (λb=>bM b\/b=dw) R (λw=>A w/\w.heap[dw]?=some (.cells #[.int .i64 0] 3)) (G (b.at (a.put o.dst (.pointer (some ⟨dw,0,none⟩))) (.inRegion ops rest::k)) cs)):(dn Tryz.prog ty Wg C n lt b5 Fin) f .anch c j 0 bM R A (G (b.at a (.inRegion ops (i::rest)::k)) cs):=by
 refine Qq aW aQ rfl λw gl h8 cn=>?_;have ad:(execOp a.eval o).run Tryz.prog w=.ok (.value (.pointer (some ⟨w.heap.size,0,none⟩))) (w.alloc (.cells #[.int .i64 0] 3)):=by
  unfold execOp;simp only[aE];simp[go_sem]
 have he:(execOp a.eval o).events Tryz.prog w #[]=#[]:=by
  unfold execOp;simp only[aE];simp[go_sem]
 have ao:(w.alloc (.cells #[.int .i64 0] 3)).heap.size=w.heap.size+1:=by simp
 refine⟨G (b.at (a.put o.dst (.pointer (some ⟨w.heap.size,0,none⟩))) (.inRegion ops rest::k)) cs,w.alloc (.cells #[.int .i64 0] 3),#[],λw1=>A w1/\w1.heap[w.heap.size]?=some (.cells #[.int .i64 0] 3),by rw[stepG_value ar hw aq ad];grind [listed,Go.Conc.seen_none],⟨rfl,rfl,by omega,λb hb _=>Below.heap_alloc _ _ _ hb,λe he=>by simp at he⟩,⟨aW w _ gl (by omega) λb hb=>Below.heap_alloc _ _ _ (h8 b hb),heap_alloc_new w _⟩,?_⟩;grind
theorem XF(aW:fL bM A)(aQ:0<f)(ar:ops[i]?=some o)(hw:Region.wanted o (yielded ops a.tmps)=true)(aq:b.kind≠.early)(dX:b.fn=58){x:Operand}(aE:o.op=.load 25 x){hb:Nat}{v:Value}(aj:a.eval x=.pointer (some ⟨hb,1,none⟩))(eP:bM hb)(ai:∀w,A w->w.cell? ⟨hb,1,none⟩=some v)
  (h:(dn Tryz.prog ty Wg C n lt b5 Fin) (f-1) .anch c j 0 bM R A (G (b.at (a.put o.dst v) (.inRegion ops rest::k)) cs)):(dn Tryz.prog ty Wg C n lt b5 Fin) f .anch c j 0 bM R A (G (b.at a (.inRegion ops (i::rest)::k)) cs):=by
 refine Pf aW aQ rfl λw gl h8 _=>?_;have ah:=ai w gl;have ad:(execOp a.eval o).run Tryz.prog w=.ok (.value v) w:=by
  unfold execOp;simp only[aE,aj];simp[go_sem,ah]
 have he:(execOp a.eval o).events Tryz.prog w #[]=#[⟨.cell ⟨hb,1,none⟩,false,false⟩]:=by
  unfold execOp;simp only[aE,aj];simp[go_sem,ah]
 refine⟨G (b.at (a.put o.dst v) (.inRegion ops rest::k)) cs,w,#[⟨.cell ⟨hb,1,none⟩,false,false⟩],A,by rw[stepG_value ar hw aq ad];grind [listed,seen_eq,St],rfl,⟨rfl,rfl,Nat.le_refl _,λ_ _ _=>rfl,λe he=>?_⟩,gl,h⟩;rw[Array.mem_singleton]at he;subst he;exact .rd (.inr eP)
theorem AB{bM:Nat->Prop}{A:World->Prop}(aW:fL bM A)(dw:Nat)(x:Obj):fL (λb=>bM b\/b=dw) (λw=>A w/\w.heap[dw]?=some x):=λw w1 h ao hb=>⟨aW w w1 h.1 ao λb aq=>hb b (.inl aq),(hb dw (.inr rfl)).trans h.2⟩
theorem XG(aW:fL bM A)(aQ:0<f)(ar:ops[i]?=some o)(hw:Region.wanted o (yielded ops a.tmps)=true)(aq:b.kind≠.early)(dX:b.fn=58){x y:Operand}(aE:o.op=.store 3 x y){dw:Nat}{v:Int}{u:Value}(aj:a.eval x=.pointer (some ⟨dw,0,none⟩))(aF:a.eval y=.int .i64 v)(aI:¬bM dw)(cn:R<=dw)
  (h:(dn Tryz.prog ty Wg C n lt b5 Fin) (f-1) .anch c j 0 (λb=>bM b\/b=dw) R (λw=>A w/\w.heap[dw]?=some (.cells #[.int .i64 v] 3)) (G (b.at (a.put o.dst undef) (.inRegion ops rest::k)) cs)):(dn Tryz.prog ty Wg C n lt b5 Fin) f .anch c j 0 (λb=>bM b\/b=dw) R (λw=>A w/\w.heap[dw]?=some (.cells #[u] 3)) (G (b.at a (.inRegion ops (i::rest)::k)) cs):=by
 refine Pf (AB aW dw _) aQ rfl λw gl h8 _=>?_;have ah:w.cell? ⟨dw,0,none⟩=some u:=by grind [World.cell?]
 have bO:w.frozen? ⟨dw,0,none⟩=false:=by grind [World.frozen?]
 have ad:(execOp a.eval o).run Tryz.prog w=.ok .skip (w.setCell ⟨dw,0,none⟩ (.int .i64 v)):=by
  unfold execOp;simp only[aE,aj,aF];simp[go_sem,stored,ah,bO]
 have he:(execOp a.eval o).events Tryz.prog w #[]=#[⟨.cell ⟨dw,0,none⟩,true,false⟩]:=by
  unfold execOp;simp only[aE,aj,aF];simp[go_sem,storedEv,ah,bO]
 have xE:=aside_setCell w ⟨dw,0,none⟩ (.int .i64 v);refine⟨G (b.at (a.put o.dst undef) (.inRegion ops rest::k)) cs,w.setCell ⟨dw,0,none⟩ (.int .i64 v),#[⟨.cell ⟨dw,0,none⟩,true,false⟩],λw1=>A w1/\w1.heap[dw]?=some (.cells #[.int .i64 v] 3),by rw[stepG_none ar hw aq ad];grind [listed,seen_eq,St],xE.size,⟨xE.os,xE.output,Nat.le_of_eq xE.size.symm,λb _ hb=>xE.block b (λe=>hb (by grind)),λe he=>?_⟩,⟨aW w _ gl.1 (Nat.le_of_eq xE.size.symm) λb hb=>xE.block b (λe=>aI (by grind)),?_⟩,h⟩
 ·rw[Array.mem_singleton]at he;subst he;exact .wr (.inl ⟨.inr rfl,cn⟩)
 grind [World.setCell]
end
section
variable{Wg C n:Nat}{bit:Nat->Bool}{hb pb au pa:Value}{us:List Frame}{oi:Nat->Prop}{hG:World->Prop}
def tY(v:Value):Prop:=((∀c,v≠.agg c)/\(∀c,v≠.tuple c)/\(v≠.pointer none/\v≠.nilIface/\v≠.nilFunc)/\(∀n a b,v≠.func (.method n) a b)/\(∀b,v≠.bool b))\/v=undef
theorem A4{k:IntKind}{i:Int}:tY (.int k i):=.inl (by simp)
theorem sL{a:Addr}:tY (.pointer (some a)):=.inl (by simp)
theorem aez{f:FuncId}{a b:Array Value}:tY (.func (.func f) a b):=.inl (by simp)
theorem Su{a:Option Addr}{n m:Nat}:tY (.slice a n m):=.inl (by simp)
theorem Ic:tY (.tuple #[]):=.inr rfl
structure nD(au pa:Value)(T:Array Value):Prop where
 sz:T.size=34
 t0:T[0]?=some au
 t1:T[1]?=some pa
 gU:∀k v,T[k]?=some v->2<=k->k≠16->tY v
theorem nD.set{au pa:Value}{T:Array Value}(h:nD au pa T)(k:Nat)(aq:2<=k){v:Value}(ai:k=16\/tY v):nD au pa (T.setIfInBounds k v):=by
 refine⟨by simpa using h.sz,by rw[Array.getElem?_setIfInBounds_ne (by omega)];exact h.t0,by rw[Array.getElem?_setIfInBounds_ne (by omega)];exact h.t1,λi x aX ab Uf=>?_⟩;by_cases e:k=i
 ·grind
 ·rw[Array.getElem?_setIfInBounds_ne e]at aX;exact h.gU i x aX ab Uf
def wX(Wg C n:Nat)(au pa:Value)(us:List Frame)(oi:Nat->Prop)(hG:World->Prop)(j:Nat)(bM:Nat->Prop)(A:World->Prop)(g:Goroutine):Prop:=
 j=n/\(∀b,oi b->bM b)/\(∀w,A w->hG w)/\∃T:Array Value,nD au pa T/\T[5]?=some (e6 C)/\T[16]?=some (.bool false)/\jb Tryz.prog Tryz.link.tWg Wg (λg _=>g=A3 T us) g
set_option maxRecDepth 100000 in
set_option maxHeartbeats 4000000 in
theorem aam{c:Nat}(ah:c<2147483646){bM:Nat->Prop}{R:Nat}{A:World->Prop}(aW:fL bM A)(qq:∀w,A w->hG w)(eP:∀b,oi b->bM b){f:Nat}(aQ:(c+1)*2000+1000<=f)(aI:n<=4){T:Array Value}
  (ek:nD au pa T) (t5:T[5]?=some (e6 C)) (t6:T[6]?=some (e6 Wg)) (t14:T[14]?=some (.int .i64 (n:Int))) (t15:T[15]?=some (.int .i64 (n:Int))):(dn Tryz.prog Tryz.link.tWg Wg C 4 oR (ku Wg C bit) (wX Wg C n au pa us oi hG)) f .anch c n 0 bM R A (wG T us):=by
 obtain⟨v0,v1,v2,v3,v4,v5,v6,so,sq,v9,v10,v11,v12,rS,tB,tC,vs,rT,rU,rV,v20,v21,v22,rY,v24,r1,r3,r4,v28,r6,v30,v31,r8,r9,rfl⟩:=Ej T ek.sz;simp  at t5 t6 t14 t15;subst t5 t6 t14 t15;refine fE aW (by omega) rfl (λw=>stepG_seq) ?_;refine fE aW (by omega) rfl (λw=>stepG_region) ?_;refine qU aW (.bool false) (by omega) rfl rfl (by decide) (λw=>by go_simp) (λw=>by simp[go_sem, *]) ?_;refine fE aW (by omega) rfl (λw=>stepG_region_end) ?_;refine fE aW (by omega) rfl (λw=>stepG_seq) ?_;refine fE aW (by omega) rfl (λw=>stepG_cond (t:=false) rfl) ?_;refine fE aW (by omega) rfl (λw=>stepG_exit rfl) ?_;refine fE aW (by omega) rfl (λw=>stepG_seq) ?_;refine fE aW (by omega) rfl (λw=>stepG_region) ?_;have H:=Tryz.JG;refine fE aW (by omega) rfl (λw=>MS rfl rfl (by decide) rfl H.f_wait (nm_wait Tryz.link) (c:=body_wait Tryz.link) rfl) ?_
 walk_nrmf waitFn
 exact aal (nz:=base 58) (nA:=⟨#[v0,v1,v2,v3,v4,e6 C,e6 Wg,so,sq,v9,v10,v11,v12,rS,.int .i64 (n:Int),.int .i64 (n:Int),.bool false,rT,rU,rV,v20,v21,v22,rY,v24,r1,r3,r4,v28,r6,v30,v31,r8,r9],[]⟩) (jV:=Fs) (nB:=0) (m1:=[]) (nC:=[.code l2]) (cs:=us) H aW (λg aN=>⟨rfl,eP,qq,_,by exact ek.set 16 (by decide) (.inl rfl),rfl,rfl,aN⟩) ah (by omega) (Xy H)
set_option maxRecDepth 100000 in
set_option maxHeartbeats 4000000 in
theorem YU(aI:n<=4)(fM:∀(bM:Nat->Prop) (j dw:Nat) (w:World),j<n->hG w->(∀b,oi b->bM b)->bM dw->(∀b,bM b->b<w.heap.size)->w.heap[dw]?=some (.cells #[.int .i64 (j:Int)] 3) ->
   ∃s,ku Wg C bit j s (λ_=>False) bM (born Tryz.prog (call103 Wg C hb (.pointer (some ⟨dw,0,none⟩)) pb)) w/\Acc oR s){j:Nat}(aC:j<n){F f:Nat}(aQ:F+2000<=f)
  (az:∀(bM:Nat->Prop)(R:Nat)(A:World->Prop)(T:Array Value),fL bM A->(∀w,A w->hG w)->(∀b,oi b->bM b)->nD au pa T->T[2]?=some hb->T[3]?=some pb->T[5]?=some (e6 C)->T[6]?=some (e6 Wg)->T[14]?=some (.int .i64 (n:Int))->T[15]?=some (.int .i64 ((j+1:Nat):Int))->(dn Tryz.prog Tryz.link.tWg Wg C 4 oR (ku Wg C bit) (wX Wg C n au pa us oi hG)) F .anch (j+1) (j+1) 0 bM R A (wG T us))
  {bM:Nat->Prop} {R:Nat} {A:World->Prop} (aW:fL bM A) (qq:∀w,A w->hG w) (eP:∀b,oi b->bM b) {T:Array Value}
  (ek:nD au pa T) (t2:T[2]?=some hb) (t3:T[3]?=some pb) (t5:T[5]?=some (e6 C)) (t6:T[6]?=some (e6 Wg)) (t14:T[14]?=some (.int .i64 (n:Int))) (t15:T[15]?=some (.int .i64 (j:Int))):(dn Tryz.prog Tryz.link.tWg Wg C 4 oR (ku Wg C bit) (wX Wg C n au pa us oi hG)) f .anch j j 0 bM R A (wG T us):=by
 obtain⟨v0,v1,v2,v3,v4,v5,v6,so,sq,v9,v10,v11,v12,rS,tB,tC,vs,rT,rU,rV,v20,v21,v22,rY,v24,r1,r3,r4,v28,r6,v30,v31,r8,r9,rfl⟩:=Ej T ek.sz;simp only[List.getElem?_toArray,List.getElem?_cons_succ,List.getElem?_cons_zero,Option.some.injEq]at t2 t3 t5 t6 t14 t15;subst t2 t3 t5 t6 t14 t15;simp only[wG,Fq,B3,sb,Tryz.f58,Option.getD_some];have aU:(j:Int)<(n:Int):=by omega
 have ajm:IntKind.wrap .i64 ((j:Int)+1)=((j+1:Nat):Int):=by rw[IntKind.wrap_i64];omega
 refine fE aW (by omega) rfl (λw=>stepG_seq) ?_;refine fE aW (by omega) rfl (λw=>stepG_region) ?_;simp only[List.size_toArray,List.length_cons,List.length_nil,Nat.reduceAdd,Nat.zero_add,List.range,List.range.loop];refine qU aW (.bool true) (by omega) rfl rfl (by decide) (λw=>by go_simp) (λw=>by simp[go_sem, *]) ?_
 walk_nrm
 refine fE aW (by omega) rfl (λw=>stepG_region_end) ?_;refine fE aW (by omega) rfl (λw=>stepG_seq) ?_;refine fE aW (by omega) rfl (λw=>stepG_cond (t:=true) rfl) ?_;simp only[if_true];refine fE aW (by omega) rfl (λw=>stepG_skip) ?_;refine fE aW (by omega) rfl (λw=>stepG_seq) ?_;refine fE aW (by omega) rfl (λw=>stepG_block) ?_;refine fE aW (by omega) rfl (λw=>stepG_seq) ?_;refine fE aW (by omega) rfl (λw=>stepG_region) ?_;simp only[List.size_toArray,List.length_cons,List.length_nil,Nat.reduceAdd,Nat.zero_add,List.range,List.range.loop];refine qU aW (.int .i64 (j:Int)) (by omega) rfl rfl (by decide) (λw=>by go_simp) (λw=>by simp[go_sem, *]) ?_
 walk_nrm
 refine XE aW (by omega) rfl rfl (by decide) rfl λdw vx cn=>?_
 walk_nrm
 refine XG (v:=(j:Int)) aW (by omega) rfl rfl (by decide) rfl rfl rfl rfl vx cn ?_
 walk_nrm
 replace aW:=AB aW dw (.cells #[.int .i64 (j:Int)] 3);refine fE aW (by omega) rfl (λw=>stepG_region_end) ?_;refine fE aW (by omega) rfl (λw=>stepG_seq) ?_;refine fE aW (by omega) rfl (λw=>stepG_region) ?_;simp only[List.size_toArray,List.length_cons,List.length_nil,Nat.reduceAdd,Nat.zero_add,List.range,List.range.loop];have H:=Tryz.JG;refine fE aW (by omega) rfl (λw=>MS rfl rfl (by decide) rfl H.f_add (nm_add Tryz.link) (c:=body_add Tryz.link) rfl) ?_
 walk_nrmf addFn
 refine abT (f:=F+100) H aW (by omega) (by omega) ?_ (aac H)
 walk_nrm
 refine fE aW (by omega) rfl (λw=>stepG_region_end) ?_;refine fE aW (by omega) rfl (λw=>stepG_region) ?_;simp only[List.size_toArray,List.length_cons,List.length_nil,Nat.reduceAdd,Nat.zero_add,List.range,List.range.loop];refine qU aW (.func (.func 103) #[] #[e6 Wg,v2,.pointer (some ⟨dw,0,none⟩),v3,e6 C]) (by omega) rfl rfl (by decide) (λw=>by go_simp) (λw=>by simp[go_sem, *]) ?_
 walk_nrm
 refine YT aW (call103 Wg C v2 (.pointer (some ⟨dw,0,none⟩)) v3) (by omega) rfl rfl (by decide) (λw=>by simp[go_sem,call103,Deferred.ofValue]) (λw=>by simp[go_sem,call103,Deferred.ofValue]) rfl (by omega) (λw hw ry qd h8=>fM _ j dw w aC (qq w hw.1) (λb hb=>.inl (eP b hb)) (.inr rfl) h8 hw.2) λR=>?_
 walk_nrm
 refine fE aW (by omega) rfl (λw=>stepG_region_end) ?_;refine fE aW (by omega) rfl (λw=>stepG_inBlock) ?_;refine fE aW (by omega) rfl (λw=>stepG_region) ?_;simp only[List.size_toArray,List.length_cons,List.length_nil,Nat.reduceAdd,Nat.zero_add,List.range,List.range.loop];refine qU aW (.int .i64 (IntKind.wrap .i64 ((j:Int)+1))) (by omega) rfl rfl (by decide) (λw=>by go_simp) (λw=>by simp[go_sem, *]) ?_
 walk_nrm
 simp only[ajm];refine qU aW (.int .i64 ((j+1:Nat):Int)) (by omega) rfl rfl (by decide) (λw=>by go_simp) (λw=>by simp[go_sem, *]) ?_
 walk_nrm
 refine fE aW (by omega) rfl (λw=>stepG_region_end) ?_;refine fE aW (by omega) rfl (λw=>stepG_inLoop) ?_;exact dn.le _ _ _ _ _ _ _ _ (by omega) (az _ _ _ _ aW (λw hw=>qq w hw.1) (λb hb=>.inl (eP b hb)) (by exact((((((ek.set 16 (by decide) (.inl rfl)).set 17 (by decide) (.inr A4)).set 7 (by decide) (.inr sL)).set 18 (by decide) (.inr Ic)).set 19 (by decide) (.inr aez)).set 20 (by decide) (.inr A4)).set 15 (by decide) (.inr A4)) rfl rfl rfl rfl rfl rfl)
theorem aan(aI:n<=4)(fM:∀(bM:Nat->Prop) (j dw:Nat) (w:World),j<n->hG w->(∀b,oi b->bM b)->bM dw->(∀b,bM b->b<w.heap.size)->w.heap[dw]?=some (.cells #[.int .i64 (j:Int)] 3) ->
   ∃s,ku Wg C bit j s (λ_=>False) bM (born Tryz.prog (call103 Wg C hb (.pointer (some ⟨dw,0,none⟩)) pb)) w/\Acc oR s):∀(r j:Nat),j+r=n->∀(bM:Nat->Prop)(R:Nat)(A:World->Prop)(T:Array Value),fL bM A->(∀w,A w->hG w)->(∀b,oi b->bM b)->nD au pa T->T[2]?=some hb->T[3]?=some pb->T[5]?=some (e6 C)->T[6]?=some (e6 Wg)->T[14]?=some (.int .i64 (n:Int))->T[15]?=some (.int .i64 (j:Int)) ->
   (dn Tryz.prog Tryz.link.tWg Wg C 4 oR (ku Wg C bit) (wX Wg C n au pa us oi hG)) (r*2000+11000) .anch j j 0 bM R A (wG T us):=by
 intro r;induction r with
 |zero=>
  intro j aC bM R A T U ab al aJ bm bI cS et gp h7;obtain rfl:j=n:=by omega
  exact aam (by omega) U ab al (by omega) aI aJ cS et gp h7
 |succ r az=>
  intro j aC bM R A T U ab al aJ bm bI cS et gp h7;obtain⟨F,aw⟩:∃F,F=r*2000+11000:=⟨_,rfl⟩;exact YU aI fM (F:=F) (by omega) (by omega) (λbM R A T a b c d e f g h i k=>aw▸az (j+1) (by omega) bM R A T a b c d e f g h i k) U ab al aJ bm bI cS et gp h7
set_option maxRecDepth 100000 in
set_option maxHeartbeats 4000000 in
theorem abU{bM:Nat->Prop}{R:Nat}{A:World->Prop}(aW:fL bM A){hbI F f:Nat}(aQ:F+50<=f)(eP:bM hbI){sa:Option Addr}{cap:Nat}(ai:∀w,A w->w.cell? ⟨hbI,1,none⟩=some (.slice sa n cap))(K8:hb=.pointer (some ⟨hbI,0,none⟩))
  (az:∀T:Array Value,nD au pa T->T[2]?=some hb->T[3]?=some pb->T[5]?=some (e6 C)->T[6]?=some (e6 Wg)->T[14]?=some (.int .i64 (n:Int))->T[15]?=some (.int .i64 ((0:Nat):Int))->(dn Tryz.prog Tryz.link.tWg Wg C 4 oR (ku Wg C bit) (wX Wg C n au pa us oi hG)) F .anch 0 0 0 bM R A (wG T us)) {T:Array Value}
  (ek:nD au pa T) (t2:T[2]?=some hb) (t3:T[3]?=some pb) (t5:T[5]?=some (e6 C)) (t6:T[6]?=some (e6 Wg)):(dn Tryz.prog Tryz.link.tWg Wg C 4 oR (ku Wg C bit) (wX Wg C n au pa us oi hG)) f .anch 0 0 0 bM R A (wW T us):=by
 obtain⟨v0,v1,v2,v3,v4,v5,v6,so,sq,v9,v10,v11,v12,rS,tB,tC,vs,rT,rU,rV,v20,v21,v22,rY,v24,r1,r3,r4,v28,r6,v30,v31,r8,r9,rfl⟩:=Ej T ek.sz;simp only[List.getElem?_toArray,List.getElem?_cons_succ,List.getElem?_cons_zero,Option.some.injEq]at t2 t3 t5 t6;subst K8;subst t2 t3 t5 t6;simp only[wW,Bz,xd,sb,Tryz.f58,Option.getD_some];refine fE aW (by omega) rfl (λw=>stepG_region_end) ?_;refine fE aW (by omega) rfl (λw=>stepG_seq) ?_;refine fE aW (by omega) rfl (λw=>stepG_seq) ?_;refine fE aW (by omega) rfl (λw=>stepG_region) ?_;simp only[List.size_toArray,List.length_cons,List.length_nil,Nat.reduceAdd,Nat.zero_add,List.range,List.range.loop];refine qU aW (.pointer (some ⟨hbI,0,none⟩)) (by omega) rfl rfl (by decide) (λw=>by go_simp) (λw=>by simp[go_sem, *]) ?_
 walk_nrm
 refine qU aW (.pointer (some ⟨hbI,1,none⟩)) (by omega) rfl rfl (by decide) (λw=>by go_simp) (λw=>by simp[go_sem, *]) ?_
 walk_nrm
 refine XF aW (by omega) rfl rfl (by decide) rfl rfl rfl eP ai ?_
 walk_nrm
 refine qU aW (.int .i64 (n:Int)) (by omega) rfl rfl (by decide) (λw=>by go_simp) (λw=>by simp[go_sem, *]) ?_
 walk_nrm
 refine qU aW (.int .i64 0) (by omega) rfl rfl (by decide) (λw=>by go_simp) (λw=>by simp[go_sem, *]) ?_
 walk_nrm
 refine fE aW (by omega) rfl (λw=>stepG_region_end) ?_;refine fE aW (by omega) rfl (λw=>stepG_block) ?_;refine fE aW (by omega) rfl (λw=>stepG_loop) ?_;exact dn.le _ _ _ _ _ _ _ _ (by omega) (az _ (by exact((((ek.set 11 (by decide) (.inr sL)).set 12 (by decide) (.inr sL)).set 13 (by decide) (.inr Su)).set 14 (by decide) (.inr A4)).set 15 (by decide) (.inr A4)) rfl rfl rfl rfl rfl rfl)
end
end
section
open Go Go.Conc
open Go.ConcN (sumTo WgLive)
open Go.ConcR (DC0)
structure l3(P:Program)(S:Nat->Prop)(Wb:World)(g:Goroutine)(gs:Array Goroutine)(w:World)(t:Trace)(q:Nat->Nat):Prop where
 g0:gs[0]?=some g
 ey:Leavers P t gs q
 pa:kM S w.heap.size t
 k4:∀op∈t,op.g<gs.size
 shl:∀b,S b->b<w.heap.size
 db:e7 Wb w
section
variable{P:Program}{S:Nat->Prop}{Wb:World}{g g':Goroutine}{gs:Array Goroutine}{w w':World}{t:Trace}{q:Nat->Nat}{Q:Machine->Outcome->World->Trace->Prop}
theorem l3.step(h:l3 P S Wb g gs w t q){es:Array Event}{B RO:Nat->Prop}(sl:Option (Nat×Nat))(hgo:stepG P true g w=.go g' w' es)(ao:w.heap.size<=w'.heap.size)(fR:∀e∈es,EvB B RO e)(dH:∀b,B b\/RO b->b<w'.heap.size/\¬S b)(vy:e7 Wb w'):
  ∃ed,runT P (crowd gs w sl) 0=(.next (crowd ed w' sl),MemOp.ofEvents 0 g.frame.fn g.frame.place es)/\l3 P S Wb g' ed w' (t++MemOp.ofEvents 0 g.frame.fn g.frame.place es) q:=by
 have aU:0<gs.size:=(Array.getElem?_eq_some_iff.1 h.g0).1;have ej:∀e∈es,ja (⟨λa b=>B b\/RO b,λ_=>False⟩:bA) (λb=>¬B b) e:=λe he=>by
  have aj:=fR e he;cases aj with
  |rd h=>exact .rd (b:=0) h
  |wr h=>exact .wr (b:=0) (.inl h) (λx=>x h)
  |get h=>exact .get (b:=0) h
  |set h=>exact .set (b:=0) (.inl h) (λx=>x h)
  |ext=>exact .ext
  |room=>exact .room
 refine⟨_,runT_crowd_go h.g0 (show stepG P (0==0) g w=_ from hgo),by simp[aU],Leavers.step0 h.ey h.g0,(h.pa.mono ao).own ej (λb hb a bL=>(dH b bL).2 hb) (λa b bL=>(dH b bL).1),λop aE=>?_,λb hb=>Nat.lt_of_lt_of_le (h.shl b hb) ao,vy⟩;simp only[Array.size_setIfInBounds,Array.size_map];rcases Array.mem_append.1 aE with ab|ab
 ·exact h.k4 op ab
 ·obtain⟨e,_,rfl⟩:=Go.Conc.mem_ofEvents ab;exact aU
theorem l3.at(h:l3 P S Wb g gs w t q)(d:Nat):l3 P S Wb g gs (w.at d) t q:=⟨h.g0,h.ey,h.pa,h.k4,h.shl,⟨h.db.size,h.db.os,h.db.out,h.db.blk⟩⟩
theorem Dx(ad:g.status=.running)(A:World->Prop)(aW:∀w d,A w->A (w.at d))(aq:∀gs w sl t q,l3 P S Wb g gs w t q->A w->∃g' w' es ed,stepG P true g w=.go g' w' es/\runT P (crowd gs w sl) 0=(.next (crowd ed w' sl),MemOp.ofEvents 0 g.frame.fn g.frame.place es)/\Ends P Q (crowd ed w' sl) (t++MemOp.ofEvents 0 g.frame.fn g.frame.place es)):
  ∀(M:Nat)(gs:Array Goroutine)(w:World)(sl:Option (Nat×Nat))(t:Trace)(q:Nat->Nat),sumTo gs.size q=M->l3 P S Wb g gs w t q->A w->Ends P Q (crowd gs w sl) t:=by
 intro M;induction M using Nat.strongRecOn with
 |_ M az=>
  intro gs w sl t q e3 h au;rcases Ka (sl:=sl) h.g0 ad h.ey h.pa with⟨d,fT,oD⟩|⟨ed,d,fT,ops,dF,oD,bX,rP,ak,BZ,tz,aU⟩
  ·obtain⟨g',w',es,ed,U,ab,al⟩:=aq gs (w.at d) fT t q (h.at d) (aW w d au);exact Ends.next (oD.trans ab) al
  ·refine Ends.next oD (az _ (by rw[bX,←e3];exact aU) ed (w.at d) fT _ dF rfl ⟨rP,ak,tz,λop aE=>?_,h.shl,⟨h.db.size,h.db.os,h.db.out,h.db.blk⟩⟩ (aW w d au));rw[bX];exact(Array.mem_append.1 aE).elim (h.k4 op) (BZ op)
def tJ(P:Program)(T:(Nat->Prop)->(World->Prop)->Goroutine->Prop)(R:Nat):Nat->(Nat->Prop)->(World->Prop)->Goroutine->Prop
 |0,bM,A,g=>fL bM A/\T bM A g
 |n+1,bM,A,g=>g.status=.running/\fL bM A/\∀w,A w->(∀b,bM b->b<w.heap.size)->R<=w.heap.size->∃g' w' es iQ,stepG P true g w=.go g' w' es/\B9 bM R w w' es/\iQ w'/\tJ P T R n (λb=>bM b\/(w.heap.size<=b/\b<w'.heap.size)) iQ g'
theorem aao{T:(Nat->Prop)->(World->Prop)->Goroutine->Prop}{R:Nat}(cn:Wb.heap.size<=R)
  (iJ:∀bM A g gs w sl t q,T bM A g->fL bM A->A w->(∀b,bM b->b<w.heap.size/\¬S b)->l3 P S Wb g gs w t q->Ends P Q (crowd gs w sl) t):
  ∀(n:Nat)(bM:Nat->Prop)(A:World->Prop)(g:Goroutine),tJ P T R n bM A g->∀(gs:Array Goroutine)(w:World)(sl:Option (Nat×Nat))(t:Trace)(q:Nat->Nat),l3 P S Wb g gs w t q->A w->(∀b,bM b->b<w.heap.size/\¬S b)->R<=w.heap.size->Ends P Q (crowd gs w sl) t:=by
 intro n;induction n with
 |zero=>exact λbM A g h gs w sl t q ak au aq _=>iJ bM A g gs w sl t q h.2 h.1 au aq ak
 |succ n az=>
  intro bM A g ⟨ad,bh,h⟩ gs w sl t q ak au h8 FW;refine Dx (A:=λw=>A w/\(∀b,bM b->b<w.heap.size/\¬S b)/\R<=w.heap.size) ad (λw d aj=>⟨bh w _ aj.1 (Nat.le_refl _) (λ_ _=>rfl),aj.2.1,aj.2.2⟩) (λgs w sl t q ak aj=>?_) _ gs w sl t q rfl ak ⟨au,h8,FW⟩;obtain⟨au,h8,FW⟩:=aj;obtain⟨g',w',es,iQ,k1,k2,bP,cX⟩:=h w au (λb hb=>(h8 b hb).1) FW;have dH:∀b,((bM b/\R<=b)\/(w.heap.size<=b/\b<w'.heap.size))\/bM b->b<w'.heap.size/\¬S b:=λb hb=>by
   rcases hb with(hb|hb)|hb
   ·exact⟨Nat.lt_of_lt_of_le (h8 b hb.1).1 k2.size,(h8 b hb.1).2⟩
   ·exact⟨hb.2,λx=>by have:=ak.shl b x;omega⟩
   ·exact⟨Nat.lt_of_lt_of_le (h8 b hb).1 k2.size,(h8 b hb).2⟩
  obtain⟨ed,nq,bQ⟩:=ak.step sl k1 k2.size k2.ay dH ⟨Nat.le_trans ak.db.size k2.size,k2.os.trans ak.db.os,k2.out.trans ak.db.out,λb hb=>(k2.blk b (Nat.lt_of_lt_of_le hb ak.db.size) (λx=>by omega)).trans (ak.db.blk b hb)⟩;refine⟨g',w',es,ed,k1,nq,az _ iQ g' cX ed w' sl _ q bQ bP (λb hb=>?_) (Nat.le_trans FW k2.size)⟩;rcases hb with hb|hb
  ·exact⟨Nat.lt_of_lt_of_le (h8 b hb).1 k2.size,(h8 b hb).2⟩
  ·exact⟨hb.2,λx=>by have:=ak.shl b x;omega⟩
theorem aap{ty:TypeId}{Wg:Nat}{g1:Goroutine}(iJ:∀gs w sl t q,WgLive ty Wg w->l3 P S Wb g1 gs w t q->(∀b,b<Wb.heap.size->w.heap[b]?=Wb.heap[b]?)->w.heap.size=Wb.heap.size->Ends P Q (crowd gs w sl) t):
  ∀(m:Nat)(g:Goroutine),(∀w,WgLive ty Wg w->Goes P true (KX ty Wg) DC0 (λg _=>g=g1) m g w)->∀(gs:Array Goroutine)(w:World)(sl:Option (Nat×Nat))(t:Trace)(q:Nat->Nat),l3 P S Wb g gs w t q->WgLive ty Wg w->w.heap.size=Wb.heap.size->Ends P Q (crowd gs w sl) t:=by
 intro m;induction m with
 |zero=>
  intro g h gs w sl t q ak hw bX;have e:g=g1:=h w hw w hw;subst e;exact iJ gs w sl t q hw ak ak.db.blk bX
 |succ m az=>
  intro g h gs w sl t q ak hw bX;rcases h w hw with aT|⟨ad,aT⟩
  ·have e:g=g1:=aT w hw;subst e;exact iJ gs w sl t q hw ak ak.db.blk bX
  ·refine Dx (A:=λw=>WgLive ty Wg w/\w.heap.size=Wb.heap.size) ad (λw d aj=>aj) (λgs w2 sl t q ak aj=>?_) _ gs w sl t q rfl ak ⟨hw,bX⟩;obtain⟨g',w',es,aN,⟨rfl,rfl⟩,aI⟩:=goes_elim (aT w2 aj.1);obtain⟨ed,nq,bQ⟩:=ak.step (B:=λ_=>False) (RO:=λ_=>False) sl aN (Nat.le_refl _) (λe he=>by simp at he) (λb hb=>by rcases hb with h|h<;>exact h.elim) ak.db;exact⟨g',_,_,ed,aN,nq,az g' (λw3 qo=>Goes.rely (λ_ _ _ _ x=>x) aI qo) ed _ sl _ q bQ aj.1 aj.2⟩
end
end
section
open Go Go.Conc Go.ConcN Go.RowKit Go.Conc.Lib Go.ConcR.Gen Go.ConcN.Gen
open Go.ConcR (KK wgBlock WgAt stA smA rd wr mk DC0 Payload)
section
variable{P:Program}{T:(Nat->Prop)->(World->Prop)->Goroutine->Prop}{R n:Nat}{bM:Nat->Prop}{A:World->Prop}{g g1:Goroutine}
theorem sT(ad:g.status=.running)(aW:fL bM A)(ao:∀w,stepG P true g w=.go g1 w #[])(k:tJ P T R n bM A g1):tJ P T R (n+1) bM A g:=
 ⟨ad,aW,λw hw _ _=>⟨g1,w,#[],A,ao w,⟨rfl,rfl,Nat.le_refl _,λ_ _ _=>rfl,λe he=>by simp at he⟩,hw,by
  have e:(λb=>bM b\/(w.heap.size<=b/\b<w.heap.size))=bM:=funext λb=>propext ⟨λh=>h.resolve_right (by omega),.inl⟩;rw[e];exact k⟩⟩
variable{ops:Array Oper}{i:Nat}{rest:List Nat}{o:Oper}{b:Frame}{a:Act}{k:List Item}{cs:List Frame}
theorem abV(v:Value)(aW:fL bM A)(ar:ops[i]?=some o)(hw:Region.wanted o (yielded ops a.tmps)=true)(aq:b.kind≠.early)
  (ad:∀w,(execOp a.eval o).run P w=.ok (.value v) w) (he:∀w,(execOp a.eval o).events P w #[]=#[]) (h:tJ P T R n bM A (G (b.at (a.put o.dst v) (.inRegion ops rest::k)) cs)):tJ P T R (n+1) bM A (G (b.at a (.inRegion ops (i::rest)::k)) cs):=
 sT rfl aW (λw=>by rw[stepG_value ar hw aq (ad w)];unfold listed;rw[he w,seen_none]) h
theorem IF(ob:Obj)(aW:fL bM A)(ar:ops[i]?=some o)(hw:Region.wanted o (yielded ops a.tmps)=true)(aq:b.kind≠.early)
  (ad:∀w,(execOp a.eval o).run P w=.ok (.value (.pointer (some ⟨w.heap.size,0,none⟩))) (w.alloc ob)) (he:∀w,(execOp a.eval o).events P w #[]=#[])
  (h:∀dw,¬bM dw->R<=dw->tJ P T R n (λb=>bM b\/b=dw) (λw=>A w/\w.heap[dw]?=some ob) (G (b.at (a.put o.dst (.pointer (some ⟨dw,0,none⟩))) (.inRegion ops rest::k)) cs)):tJ P T R (n+1) bM A (G (b.at a (.inRegion ops (i::rest)::k)) cs):=by
 refine⟨rfl,aW,λw gl h8 cn=>?_⟩;have ao:(w.alloc ob).heap.size=w.heap.size+1:=by simp
 refine⟨G (b.at (a.put o.dst (.pointer (some ⟨w.heap.size,0,none⟩))) (.inRegion ops rest::k)) cs,w.alloc ob,#[],λw1=>A w1/\w1.heap[w.heap.size]?=some ob,by rw[stepG_value ar hw aq (ad w)];unfold listed;rw[he w,Go.Conc.seen_none],⟨rfl,rfl,by omega,λb hb _=>Below.heap_alloc _ _ _ hb,λe he=>by simp at he⟩,⟨aW w _ gl (by omega) λb hb=>Below.heap_alloc _ _ _ (h8 b hb),heap_alloc_new w _⟩,?_⟩;have e:(λb=>bM b\/(w.heap.size<=b/\b<(w.alloc ob).heap.size))=λb=>bM b\/b=w.heap.size:=funext λb=>propext (or_congr Iff.rfl (by rw[ao];omega));rw[e];exact h _ (λx=>Nat.lt_irrefl _ (h8 _ x)) cn
end
noncomputable def yF(T:Array Value)(us:List Frame):Goroutine:=G ((base 58).at ⟨T,[]⟩ (.inRegion xd [0]::[.code Bz])) us
theorem adB:Tryz.f58.body=some sb:=by kernel_rfl
theorem Sv(h p:Value):(#[h,p]++Array.replicate 32 undef:Array Value)=#[h,p,undef,undef,undef,undef,undef,undef,undef,undef,undef,undef,undef,undef,undef,undef,undef,undef,undef,undef,undef,undef,undef,undef,undef,undef,undef,undef,undef,undef,undef,undef,undef,undef]:=by kernel_rfl
theorem ntmps58:Tryz.f58.ntmps=34:=by kernel_rfl
theorem abW(h p:Value):Frame.enter Tryz.prog 58 #[h,p] .normal=(base 58).at ⟨#[h,p,undef,undef,undef,undef,undef,undef,undef,undef,undef,undef,undef,undef,undef,undef,undef,undef,undef,undef,undef,undef,undef,undef,undef,undef,undef,undef,undef,undef,undef,undef,undef,undef],[]⟩ [.code sb]:=by
 rw[enter_at _ Tryz.func58 adB,ntmps58];show(base 58).at ⟨(#[h,p]++Array.replicate 32 undef:Array Value),[]⟩ _=_;rw[Sv]
theorem ahS(h p:Value):nD h p #[h,p,undef,undef,undef,undef,undef,undef,undef,undef,undef,undef,undef,undef,undef,undef,undef,undef,undef,undef,undef,undef,undef,undef,undef,undef,undef,undef,undef,undef,undef,undef,undef,undef]:=by
 rw[←Sv];refine⟨by simp,by simp,by simp,λk v aq ab _=>?_⟩;rw[Array.getElem?_append_right (by simpa using ab),Array.getElem?_replicate]at aq;split at aq
 ·cases aq;exact .inr rfl
 ·cases aq
section
variable{KSw:Nat->Prop}{W:World}{R:Nat}{hcs pcs:Array Value}{us:List Frame}
def ajn(KSw:Nat->Prop)(W:World)(R:Nat)(hcs pcs:Array Value)(us:List Frame)(bM:Nat->Prop)(A:World->Prop)(g:Goroutine):Prop:=
 ∃hbI pbI C T,¬KSw hbI/\¬KSw pbI/\¬KSw C/\C≠hbI/\C≠pbI/\R<=hbI/\R<=pbI/\R<=C/\(∀b,bM b↔KSw b\/b=hbI\/b=pbI\/b=C) /\
  (∀w,A w->(∀b,KSw b->w.heap[b]?=W.heap[b]?)/\w.heap[hbI]?=some (.cells hcs 92)/\w.heap[pbI]?=some (.cells pcs 30)/\w.heap[C]?=some (.cells #[.bool false,.bool false,.bool false,.bool false] 142)) /\
  g=yF T us/\nD (.agg hcs) (.agg pcs) T/\T[2]?=some (.pointer (some ⟨hbI,0,none⟩))/\T[3]?=some (.pointer (some ⟨pbI,0,none⟩))/\T[5]?=some (e6 C)
set_option maxRecDepth 100000 in
set_option maxHeartbeats 4000000 in
theorem abX:tJ Tryz.prog (ajn KSw W R hcs pcs us) R 12 KSw (λw=>∀b,KSw b->w.heap[b]?=W.heap[b]?) (G (Frame.enter Tryz.prog 58 #[.agg hcs,.agg pcs] .normal) us):=by
 have qq:fL KSw (λw=>∀b,KSw b->w.heap[b]?=W.heap[b]?):=λw w1 h ao hb b aq=>(hb b aq).trans (h b aq);have tU:=ahS (.agg hcs) (.agg pcs);rw[abW];simp only[yF,Bz,xd,sb,Tryz.f58,Option.getD_some];refine sT rfl qq (λw=>stepG_seq) ?_;refine sT rfl qq (λw=>stepG_region) ?_;simp only[List.size_toArray,List.length_cons,List.length_nil,Nat.reduceAdd,Nat.zero_add,List.range,List.range.loop];refine IF (.cells hcs 92) qq rfl rfl (by decide) (λw=>by simp[go_sem,Act.eval];try rfl) (λw=>by simp[go_sem,Act.eval]) λhbI U ahT=>?_
 walk_nrm
 have qm:=AB qq hbI (.cells hcs 92);refine IF (.cells pcs 30) qm rfl rfl (by decide) (λw=>by simp[go_sem,Act.eval];try rfl) (λw=>by simp[go_sem,Act.eval]) λpbI ab ahU=>?_
 walk_nrm
 have vq:=AB qm pbI (.cells pcs 30);refine abV (.slice none 0 0) vq rfl rfl (by decide) (λw=>by go_simp) (λw=>by simp[go_sem, *]) ?_
 walk_nrm
 refine sT rfl vq (λw=>stepG_region_end) ?_;refine sT rfl vq (λw=>stepG_seq) ?_;refine sT rfl vq (λw=>stepG_region) ?_;simp only[List.size_toArray,List.length_cons,List.length_nil,Nat.reduceAdd,Nat.zero_add,List.range,List.range.loop];refine IF (.cells #[.bool false,.bool false,.bool false,.bool false] 142) vq rfl rfl (by decide) (λw=>by simp[go_sem];try rfl) (λw=>by simp[go_sem]) λC al ahV=>?_
 walk_nrm
 have FX:=AB vq C (.cells #[.bool false,.bool false,.bool false,.bool false] 142);refine sT rfl FX (λw=>stepG_region_end) ?_;refine sT rfl FX (λw=>stepG_seq) ?_;refine sT rfl FX (λw=>stepG_region) ?_;simp only[List.size_toArray,List.length_cons,List.length_nil,Nat.reduceAdd,Nat.zero_add,List.range,List.range.loop];refine⟨FX,hbI,pbI,C,_,U,λx=>ab (.inl x),λx=>al (.inl (.inl x)),λe=>al (.inl (.inr e)),λe=>al (.inr e),ahT,ahU,ahV,λb=>⟨?_,?_⟩,λw hw=>⟨hw.1.1.1,hw.1.1.2,hw.1.2,hw.2⟩,rfl,?_,rfl,rfl,rfl⟩
 ·rintro(((x|x)|x)|x)
  ·exact .inl x
  ·exact .inr (.inl x)
  ·exact .inr (.inr (.inl x))
  ·exact .inr (.inr (.inr x))
 ·rintro(x|x|x|x)
  ·exact .inl (.inl (.inl x))
  ·exact .inl (.inl (.inr x))
  ·exact .inl (.inr x)
  ·exact .inr x
 ·exact(((tU.set 2 (by decide) (.inr sL)).set 3 (by decide) (.inr sL)).set 4 (by decide) (.inr Su)).set 5 (by decide) (.inr sL)
end
end
section
open Go Go.Conc Go.RowKit
open Go.ConcN (PayAt Has WgLive)
abbrev n2:bo:=⟨λ_=>none,λ_=>none⟩
def Jd(ah eg:List aa)(i:Nat)(b:Bool):Prop:=∀(V:World)(ae ip pp:Value),aY n2 V (.bJ none 0 ah) ae->aY n2 V (.bJ none 0 [.int .i64 (i:Int)]) ip->aY n2 V (.bJ none 0 eg) pp ->
 @lb jx cl 103 #[.pointer none,ae,ip,pp,.pointer none] V λe _=>e=.returned (zg b i)
def Ke(q:aa)(n:Nat):Prop:=(q=.bC/\n=0)\/∃sz off cs,q=.sl none sz off n cs
def rN(n:Nat)(bit:Nat->Bool):List Nat:=(List.range 4).filter λi=>decide (i<n)&&bit i
def JI(l:List Nat)(w:World)(v:Value)(w1:World):Prop:=(l=[]/\v=.slice none 0 0/\w1=w) \/
 (l≠[]/\∃c e f cap,l.length<=cap/\v=.slice (some ⟨w.heap.size,0,none⟩) l.length cap/\w1={ w with heap:=w.heap.push (.cells c e f) }/\∀(k i:Nat),l[k]?=some i->c[k]?=some (Value.int .i64 ((i:Nat):Int)))
def adC:Spec:=λf args w Post=>f=58/\args.size=2/\∃(φ:bo)(ah eg:List aa)(cy:aa)(n:Nat)(bit:Nat->Bool),
 bl φ w [.agg ah,.agg eg] args.toList/\hv ah=true/\hv eg=true/\bG ah=true/\bG eg=true/\ah[1]?=some cy/\Ke cy n/\n<=4/\(∀i,i<n->Jd ah eg i (bit i))/\∀v w1,JI (rN n bit) w v w1->Post v w1
def Je(l:List Nat)(V w:World)(v:Value):Prop:=(l=[]/\v=.slice none 0 0) \/
 (l≠[]/\∃b cap c e f,V.heap.size<=b/\l.length<=cap/\v=.slice (some ⟨b,0,none⟩) l.length cap/\w.heap[b]?=some (.cells c e f)/\∀(k i:Nat),l[k]?=some i->c[k]?=some (Value.int .i64 ((i:Nat):Int)))
def EG:Prop:=∀(ah eg:List aa)(bs:Nat->Bool)(V:World)(x1 mN mp:Value),bG ah=true->bG eg=true->aY n2 V (.agg ah) x1->aY n2 V (.agg eg) mN->aY n2 V (.bJ none 0 [.bool (bs 0),.bool (bs 1),.bool (bs 2),.bool (bs 3)]) mp ->
 @lb jx cl 58 #[x1,mN,.pointer none,.pointer none,.pointer none,mp] V λe w'=>∃v,e=.returned v/\Je ((List.range 4).filter bs) V w' v
theorem Sw:(bH cl fc).G=(bH Tryz.prog iC).G:=by
 unfold bH cl;dsimp only
section
variable{ρ:bA}{ro S KSw:Nat->Prop}{CP W w:World}{φ:bo}{ah eg:List aa}{hcs pcs:Array Value}{tT:List Value}
theorem Pg{V:World}{b:Nat}{e:TypeId}{f:Nat×Nat}(hb:w.heap[b]?=some (.cells hcs e f)){C:ee}{M:Nat->Prop}(e3:M b)(ew:∀b o v,M b->w.cell? ⟨b,o,none⟩=some v->aZ C (ef M) v v->V.cell? ⟨b,o,none⟩=some v)(ao:df (aZ C (ef M)) hcs.toList hcs.toList){ah:List aa}(ad:bl n2 V ah hcs.toList):b7 n2 V b ah 0:=by
 refine sA λj p aC=>?_;obtain⟨v,ai,ae⟩:=o1 ad aC;have iw:hcs[j]?=some v:=by simpa using ai
 refine⟨v,ew _ _ _ e3 ?_ (@Ie jx _ _ _ _ _ ao j v v ai ai),ae⟩;simp[World.cell?,hb,iw]
theorem Rq(hw:dN (bH Tryz.prog iC) ρ ro CP W)(mb:∀a b,ρ a b->KSw b)(xF:bl φ CP [.agg ah,.agg eg] tT)(gE:hv ah=true)(jY:hv eg=true)(rz:df (aZ (bH Tryz.prog iC) ρ) tT [.agg hcs,.agg pcs])(aW:∀b,KSw b->w.heap[b]?=W.heap[b]?)(bX:W.heap.size<=w.heap.size){M:Nat->Prop}(ahW:∀b,M b->∃c e f,w.heap[b]?=some (.cells c e f))(ahX:∀b,KSw b->(∃c e f,w.heap[b]?=some (.cells c e f))->M b):
  ∃V,dN (bH cl fc) (ef M) M V w/\V.heap.size=w.heap.size/\(∀b o v,M b->w.cell? ⟨b,o,none⟩=some v->aZ (bH cl fc) (ef M) v v->V.cell? ⟨b,o,none⟩=some v)/\aZ (bH cl fc) (ef M) (.agg hcs) (.agg hcs)/\aZ (bH cl fc) (ef M) (.agg pcs) (.agg pcs)/\bl n2 V ah hcs.toList/\bl n2 V eg pcs.toList:=by
 have ql:dN (bH Tryz.prog iC) ρ ro CP w:=hw.keep bX λa b bL=>aW b (mb a b bL);obtain⟨V,k1,k2,_,_,_,_,_,bP,_⟩:=Nr (bH cl fc) M w (Nat.le_trans (by rw[Sw];exact hw.ru) bX) ahW;have e3:∀b a6,ρ b a6->(∃o,w.heap[a6]?=some o/\n3 o)->M a6:=λb a6 h ⟨o,U,ab⟩=>ahX _ (mb b a6 h) (by
  cases o with
  |cells c e f=>exact⟨c,e,f,U⟩
  |_=>exact ab.elim)
 have ad:=Hf (C2:=bH cl fc) (M:=M) ql e3 k2 bP [.agg ah,.agg eg] (by simp[hv,aa.l1,gE,jY]) xF rz;obtain⟨eh,r2⟩:=ad;obtain⟨s1,s2⟩:aZ (bH cl fc) (ef M) (.agg hcs) (.agg hcs)/\aZ (bH cl fc) (ef M) (.agg pcs) (.agg pcs):=by
  cases eh with
  |cons a b=>cases b with
   |cons b _=>exact⟨a,b⟩
 obtain⟨mN,fI,cy,⟨BL,dM,gC⟩,qD,ei,jF,⟨xp,kB,kC⟩,qH⟩:=r2;injection cy with cy FY;subst FY;injection jF with jF _;subst cy jF;injection dM with dM;injection kB with kB;subst dM kB;exact⟨V,k1,k2,bP,s1,s2,gC,kC⟩
theorem abY(hw:dN (bH Tryz.prog iC) ρ ro CP W)(mb:∀a b,ρ a b->KSw b)(xF:bl φ CP [.agg ah,.agg eg] tT)(gE:hv ah=true)(jY:hv eg=true)(rz:df (aZ (bH Tryz.prog iC) ρ) tT [.agg hcs,.agg pcs]){n:Nat}{bit:Nat->Bool}(Kf:∀i,i<n->Jd ah eg i (bit i))
  {Wg C hbI pbI:Nat} {bM:Nat->Prop} {j dw:Nat} (aC:j<n) (Cb:(∀b,KSw b->w.heap[b]?=W.heap[b]?)/\w.heap[hbI]?=some (.cells hcs 92)/\w.heap[pbI]?=some (.cells pcs 30)) (bX:W.heap.size<=w.heap.size) (eP:∀b,KSw b\/b=hbI\/b=pbI->bM b) (vx:bM dw) (aU:∀b,bM b->b<w.heap.size) (mX:w.heap[dw]?=some (.cells #[.int .i64 (j:Int)] 3)):
  ∃s,ku Wg C bit j s (λ_=>False) bM (born Tryz.prog (call103 Wg C (.pointer (some ⟨hbI,0,none⟩)) (.pointer (some ⟨dw,0,none⟩)) (.pointer (some ⟨pbI,0,none⟩)))) w/\Acc oR s:=by
 let M:Nat->Prop:=λb=>bM b/\∃c e f,w.heap[b]?=some (.cells c e f);obtain⟨V,k1,k2,bP,s1,s2,gC,kC⟩:=Rq hw mb xF gE jY rz Cb.1 bX (M:=M) (λb hb=>hb.2) λb hb ad=>⟨eP _ (.inl hb),ad⟩;have LR:M hbI:=⟨eP _ (.inr (.inl rfl)),_,_,_,Cb.2.1⟩;have mp:M pbI:=⟨eP _ (.inr (.inr rfl)),_,_,_,Cb.2.2⟩;have LS:M dw:=⟨vx,_,_,_,mX⟩;have aK:df (aZ (bH cl fc) (ef M)) hcs.toList hcs.toList:=by
  cases s1 with
  |agg U ab=>exact bE.toList ⟨U,ab⟩
 have aO:df (aZ (bH cl fc) (ef M)) pcs.toList pcs.toList:=by
  cases s2 with
  |agg U ab=>exact bE.toList ⟨U,ab⟩
 have xh:∀b,M b->b<V.heap.size:=λb hb=>by rw[k2];exact aU b hb.1
 have ay:∀b,M b->aZ (bH cl fc) (ef M) (.pointer (some ⟨b,0,none⟩)) (.pointer (some ⟨b,0,none⟩)):=λb hb=>.ptr ⟨⟨rfl,hb⟩,rfl,rfl⟩;have s8:=Kf j aC V (.pointer (some ⟨hbI,0,none⟩)) (.pointer (some ⟨dw,0,none⟩)) (.pointer (some ⟨pbI,0,none⟩))
  ⟨hbI,rfl,yh (xh _ LR),Pg Cb.2.1 LR bP aK gC⟩
  ⟨dw,rfl,yh (xh _ LS),⟨⟨_,bP _ _ _ LS (by simp[World.cell?,mX]) .int,rfl⟩,trivial⟩⟩
  ⟨pbI,rfl,yh (xh _ mp),Pg Cb.2.2 mp bP aO kC⟩
  (mM λv _=>v=zg (bit j) j) dv [] (.inl rfl) λv w' ai=>@Way.done jx _ _ _ _ _ λτ d=>⟨rfl,v,rfl,by injection ai⟩
 have EV:=YQ (λf w x=>by cases x.1) s8;refine⟨_,.pre (m:=5) (abN Wg C _ _ _) EV k1 ?_ (λb hb=>hb.1) λb hb=>aU b hb.1,abR (XD EV) _⟩;have fN:∀{v:Value},tY v->aZ (bH cl fc) (ef M) undef v:=λh=>by
  rcases h with⟨U,ab,al,aJ,bm⟩|h
  ·exact .bT U ab ⟨al,aJ,bm⟩
  ·subst h;exact .tuple rfl (by simp[undef])
 unfold LP xX;refine bE.ofList ?_;have ou:=fN Ic;exact .cons (fN sL) (.cons (ay _ LR) (.cons (ay _ LS) (.cons (ay _ mp) (.cons (fN sL) (.cons ou (.cons ou (.cons ou (.cons ou (.cons ou (.cons ou (.cons ou (.cons ou (.cons ou (.cons ou (.cons ou (.cons ou (.cons ou (.cons ou .nil))))))))))))))))))
end
end
section
open Go Go.Conc Go.RowKit
open Go.ConcN (PayAt Has WgLive)
def Ft(a0 eD mp:Value):Array Value:=#[a0,eD,undef,undef,undef,mp,undef,undef,undef,undef,undef,undef,undef,undef,undef,undef,.bool false,undef,undef,undef,undef,undef,undef,undef,undef,undef,undef,undef,undef,undef,undef,undef,undef,undef]
theorem abZ:ta.body=some (.seq (.region 90 rv false) l2):=by kernel_rfl
theorem aaq:ta.ntmps=34:=by kernel_rfl
theorem aeA(a0 eD z mp:Value):(#[a0,eD,z,z,z,mp]++Array.replicate 28 undef:Array Value)=#[a0,eD,z,z,z,mp,undef,undef,undef,undef,undef,undef,undef,undef,undef,undef,undef,undef,undef,undef,undef,undef,undef,undef,undef,undef,undef,undef,undef,undef,undef,undef,undef,undef]:=by kernel_rfl
theorem aar(a0 eD z mp:Value):Frame.enter cl 58 #[a0,eD,z,z,z,mp] .normal=⟨58,#[a0,eD,z,z,z,mp,undef,undef,undef,undef,undef,undef,undef,undef,undef,undef,undef,undef,undef,undef,undef,undef,undef,undef,undef,undef,undef,undef,undef,undef,undef,undef,undef,undef],[.code (.seq (.region 90 rv false) l2)],[],.run,.normal,none⟩:=by
 rw[←aeA];rw[enter_at _ ID abZ,aaq];rfl
theorem aas{T:Frame->List Frame->World->Prop}(ek:∀f w,¬T f [dv] w){a0 eD z mp:Value}{V:World}(h:m7 cl T (Frame.enter cl 58 #[a0,eD,z,z,z,mp] .normal) [dv] V):
  m7 cl T ⟨58,Ft a0 eD mp,[.code l2],[],.run,.normal,none⟩ [dv] V:=by
 rw[aar]at h;have iP:∀(f:Frame)(w:World),¬∀τ d,T f [dv] (a8 w τ d):=λf w x=>ek _ _ (x default 0);have k1:=kF (f1:=⟨58,#[a0,eD,z,z,z,mp,undef,undef,undef,undef,undef,undef,undef,undef,undef,undef,undef,undef,undef,undef,undef,undef,undef,undef,undef,undef,undef,undef,undef,undef,undef,undef,undef,undef],[.code (.region 90 rv false),.code l2],[],.run,.normal,none⟩) (cs1:=[dv]) (w1:=λτ d=>a8 V τ d) h (iP _ _) λτ d=>⟨#[],rfl⟩;have k2:=kF (f1:=⟨58,#[a0,eD,z,z,z,mp,undef,undef,undef,undef,undef,undef,undef,undef,undef,undef,undef,undef,undef,undef,undef,undef,undef,undef,undef,undef,undef,undef,undef,undef,undef,undef,undef,undef],[.inRegion rv [0,1,2,3,4],.code l2],[],.run,.normal,none⟩) (cs1:=[dv]) (w1:=λτ d=>a8 V τ d) (k1 default 0) (iP _ _) λτ d=>⟨_,rfl⟩;have bP:=kF (f1:=⟨58,#[a0,eD,z,z,z,mp,undef,undef,undef,undef,undef,undef,undef,undef,undef,undef,.bool true,undef,undef,undef,undef,undef,undef,undef,undef,undef,undef,undef,undef,undef,undef,undef,undef,undef],[.inRegion rv [1,2,3,4],.code l2],[],.run,.normal,none⟩) (cs1:=[dv]) (w1:=λτ d=>a8 V τ d) (k2 default 0) (iP _ _) λτ d=>⟨_,rfl⟩;have cX:=kF (f1:=⟨58,#[a0,eD,undef,z,z,mp,undef,undef,undef,undef,undef,undef,undef,undef,undef,undef,.bool true,undef,undef,undef,undef,undef,undef,undef,undef,undef,undef,undef,undef,undef,undef,undef,undef,undef],[.inRegion rv [2,3,4],.code l2],[],.run,.normal,none⟩) (cs1:=[dv]) (w1:=λτ d=>a8 V τ d) (bP default 0) (iP _ _) λτ d=>⟨_,rfl⟩;have fi:=kF (f1:=⟨58,#[a0,eD,undef,undef,z,mp,undef,undef,undef,undef,undef,undef,undef,undef,undef,undef,.bool true,undef,undef,undef,undef,undef,undef,undef,undef,undef,undef,undef,undef,undef,undef,undef,undef,undef],[.inRegion rv [3,4],.code l2],[],.run,.normal,none⟩) (cs1:=[dv]) (w1:=λτ d=>a8 V τ d) (cX default 0) (iP _ _) λτ d=>⟨_,rfl⟩;have tW:=kF (f1:=⟨58,#[a0,eD,undef,undef,undef,mp,undef,undef,undef,undef,undef,undef,undef,undef,undef,undef,.bool true,undef,undef,undef,undef,undef,undef,undef,undef,undef,undef,undef,undef,undef,undef,undef,undef,undef],[.inRegion rv [4],.code l2],[],.run,.normal,none⟩) (cs1:=[dv]) (w1:=λτ d=>a8 V τ d) (fi default 0) (iP _ _) λτ d=>⟨_,rfl⟩;have LQ:=kF (f1:=⟨58,Ft a0 eD mp,[.inRegion rv [],.code l2],[],.run,.normal,none⟩) (cs1:=[dv]) (w1:=λτ d=>a8 V τ d) (tW default 0) (iP _ _) λτ d=>⟨_,rfl⟩;have ajo:=kF (f1:=⟨58,Ft a0 eD mp,[.code l2],[],.run,.normal,none⟩) (cs1:=[dv]) (w1:=λτ d=>a8 V τ d) (LQ default 0) (iP _ _) λτ d=>⟨_,rfl⟩;exact ajo V.tape V.drawn
theorem ab0:codeOk cl fc l2=true:=by kernel_rfl
theorem aeB:(Tryz.prog.funcs[58]?).map (·.results)=(cl.funcs[58]?).map (·.results):=by
 rw[Tryz.func58,ID];rfl
theorem akG:((Fs[0]?).bind (·.dst))=some 21:=by kernel_rfl
section
variable{C:Nat}{M:Nat->Prop}{au pa x1 mN:Value}{T:Array Value}
theorem aeC(xG:aZ (bH cl fc) (ef M) x1 au)(lv:aZ (bH cl fc) (ef M) mN pa)(e3:M C)(aq:nD au pa T)(t5:T[5]?=some (e6 C))(t16:T[16]?=some (.bool false)):cv (bH cl fc) (ef M) (Ft x1 mN (e6 C)) T:=by
 have fN:∀{v:Value},tY v->aZ (bH cl fc) (ef M) undef v:=λh=>by
  rcases h with⟨U,ab,al,aJ,bm⟩|h
  ·exact .bT U ab ⟨al,aJ,bm⟩
  ·subst h;exact .tuple rfl (by simp)
 have hm:aZ (bH cl fc) (ef M) (e6 C) (e6 C):=.ptr ⟨⟨rfl,e3⟩,rfl,rfl⟩;obtain⟨v0,v1,v2,v3,v4,v5,v6,so,sq,v9,v10,v11,v12,rS,tB,tC,vs,rT,rU,rV,v20,v21,v22,rY,v24,r1,r3,r4,v28,r6,v30,v31,r8,r9,rfl⟩:=Ej T aq.sz;have t0:=aq.t0;have t1:=aq.t1;simp  at t0 t1 t5 t16;subst t0 t1 t5 t16;refine bE.ofList ?_;exact .cons xG (.cons lv (.cons (fN (aq.gU 2 v2 rfl (by decide) (by decide))) (.cons (fN (aq.gU 3 v3 rfl (by decide) (by decide))) (.cons (fN (aq.gU 4 v4 rfl (by decide) (by decide))) (.cons hm (.cons (fN (aq.gU 6 v6 rfl (by decide) (by decide))) (.cons (fN (aq.gU 7 so rfl (by decide) (by decide))) (.cons (fN (aq.gU 8 sq rfl (by decide) (by decide))) (.cons (fN (aq.gU 9 v9 rfl (by decide) (by decide))) (.cons (fN (aq.gU 10 v10 rfl (by decide) (by decide))) (.cons (fN (aq.gU 11 v11 rfl (by decide) (by decide))) (.cons (fN (aq.gU 12 v12 rfl (by decide) (by decide))) (.cons (fN (aq.gU 13 rS rfl (by decide) (by decide))) (.cons (fN (aq.gU 14 tB rfl (by decide) (by decide))) (.cons (fN (aq.gU 15 tC rfl (by decide) (by decide))) (.cons .bool (.cons (fN (aq.gU 17 rT rfl (by decide) (by decide))) (.cons (fN (aq.gU 18 rU rfl (by decide) (by decide))) (.cons (fN (aq.gU 19 rV rfl (by decide) (by decide))) (.cons (fN (aq.gU 20 v20 rfl (by decide) (by decide))) (.cons (fN (aq.gU 21 v21 rfl (by decide) (by decide))) (.cons (fN (aq.gU 22 v22 rfl (by decide) (by decide))) (.cons (fN (aq.gU 23 rY rfl (by decide) (by decide))) (.cons (fN (aq.gU 24 v24 rfl (by decide) (by decide))) (.cons (fN (aq.gU 25 r1 rfl (by decide) (by decide))) (.cons (fN (aq.gU 26 r3 rfl (by decide) (by decide))) (.cons (fN (aq.gU 27 r4 rfl (by decide) (by decide))) (.cons (fN (aq.gU 28 v28 rfl (by decide) (by decide))) (.cons (fN (aq.gU 29 r6 rfl (by decide) (by decide))) (.cons (fN (aq.gU 30 v30 rfl (by decide) (by decide))) (.cons (fN (aq.gU 31 v31 rfl (by decide) (by decide))) (.cons (fN (aq.gU 32 r8 rfl (by decide) (by decide))) (.cons (fN (aq.gU 33 r9 rfl (by decide) (by decide))) (.nil))))))))))))))))))))))))))))))))))
end
section
variable{Q:Machine->Outcome->World->Trace->Prop}{u':Frame}{us':List Frame}{S:Nat->Prop}{C:Nat}{bs:Nat->Bool}{au pa:Value}
def Bf(S:Nat->Prop)(C:Nat)(l:List Nat)(w bF:World)(bg:Value):Prop:=(l=[]/\bg=.slice none 0 0) \/
 (l≠[]/\∃b c e f cap,l.length<=cap/\bg=.slice (some ⟨b,0,none⟩) l.length cap/\bF.heap[b]?=some (.cells c e f)/\(b=C\/w.heap.size<=b)/\¬S b/\∀(k i:Nat),l[k]?=some i->c[k]?=some (Value.int .i64 ((i:Nat):Int)))
theorem adD{K:ee}{σ:bA}{ro:Nat->Prop}{lE V W:World}{l:List Nat}{v bg:Value}(hw:dN K σ ro V W)(ad:Je l lE V v)(ai:aZ K σ v bg):(l=[]/\bg=.slice none 0 0) \/
  (l≠[]/\∃b c e f cap,l.length<=cap/\bg=.slice (some ⟨b,0,none⟩) l.length cap/\W.heap[b]?=some (.cells c e f)/\(∃a,lE.heap.size<=a/\σ a b)/\∀(k i:Nat),l[k]?=some i->c[k]?=some (Value.int .i64 ((i:Nat):Int))):=by
 rcases ad with⟨U,rfl⟩|⟨U,b,cap,cO,gH,f0,ab,al,rfl,aJ,bm⟩
 ·cases ai;grind
 ·refine .inr ⟨U,?_⟩;have eb:0<l.length:=List.length_pos_iff.2 U;generalize aI:l.length=n at ai eb;cases ai with
  |@sl _ a' _ _ ai=>
   obtain⟨⟨g1,g2,g3⟩,ah⟩:=ai;obtain⟨a6,o',s'⟩:=a';subst g2 g3;have mX:∀(k i:Nat),l[k]?=some i->W.cell? ⟨a6,k,none⟩=some (Value.int .i64 ((i:Nat):Int)):=λk i aq=>by
    have KW:V.cell? ⟨b,k,none⟩=some (Value.int .i64 ((i:Nat):Int)):=by grind [World.cell?]
    rcases hw.cell (a:=⟨b,k,none⟩) (a':=⟨a6,k,none⟩) ⟨g1,rfl,rfl⟩with⟨x,_⟩|⟨x,bk,k1,k2,bP⟩
    ·grind
    ·rw[KW]at k1;cases k1;cases bP;exact k2
   obtain⟨i0,jX⟩:∃i0,l[0]?=some i0:=⟨l[0]'(by omega),by grind⟩;obtain⟨c,e,f,du⟩:∃c e f,W.heap[a6]?=some (.cells c e f):=by grind [World.cell?]
   refine⟨a6,c,e,f,cap,by omega,rfl,du,⟨b,ab,g1⟩,λk i aq=>?_⟩;grind [World.cell?]
  |jc=>grind
theorem YV(ek:EG){ajp:World}{T:Array Value}(aq:nD au pa T)(t5:T[5]?=some (e6 C))(t16:T[16]?=some (.bool false))
  {gs:Array Goroutine} {w:World} {sl:Option (Nat×Nat)} {t:Trace} {q:Nat->Nat} (h:l3 Tryz.prog S ajp (A3 T (u'::us')) gs w t q) {M:Nat->Prop} (Ug:M C) (ahY:∀b,M b->b<w.heap.size/\¬S b) {hcs pcs:Array Value} {ah eg:List aa} (K9:au=.agg hcs) (tz:pa=.agg pcs) (oM:bG ah=true) (lZ:bG eg=true)
  (aeD:∀w1:World,w1.heap=w.heap->∃V,dN (bH cl fc) (ef M) M V w1/\V.heap.size=w1.heap.size/\(∀b o v,M b->w1.cell? ⟨b,o,none⟩=some v->aZ (bH cl fc) (ef M) v v->V.cell? ⟨b,o,none⟩=some v)/\aZ (bH cl fc) (ef M) (.agg hcs) (.agg hcs)/\aZ (bH cl fc) (ef M) (.agg pcs) (.agg pcs)/\bl n2 V ah hcs.toList/\bl n2 V eg pcs.toList)
  {c:Array Value} {e:TypeId} {f:Nat×Nat} (hC:w.heap[C]?=some (.cells c e f)) (al2:∀i,i<4->c[i]?=some (.bool (bs i)))
  (re:∀(bg:Value)(bF:World)(hQ:Array Goroutine)(lr:Option (Nat×Nat))(t1:Trace)(cy:Nat->Nat),Bf S C ((List.range 4).filter bs) w bF bg->l3 Tryz.prog S w (G (u'.finish bg) us') hQ bF t1 cy->Ends Tryz.prog Q (crowd hQ bF lr) t1):Ends Tryz.prog Q (crowd gs w sl) t:=by
 refine Dx (Wb:=w) (S:=S) (g:=A3 T (u'::us')) rfl (A:=λw'=>w'.heap=w.heap) (λw' d h=>h) (λgs w1 sl t q ak fg=>?_) _ gs w sl t q rfl ⟨h.g0,h.ey,h.pa,h.k4,h.shl,e7.refl w⟩ rfl;have mG:=aq.set 21 (by decide) (.inr Ic);have t52:(T.setIfInBounds 21 (.tuple #[]))[5]?=some (e6 C):=by grind
 have t162:(T.setIfInBounds 21 (.tuple #[]))[16]?=some (.bool false):=by grind
 have eo:stepG Tryz.prog true (A3 T (u'::us')) w1=.go (G ((base 58).at ⟨T.setIfInBounds 21 (.tuple #[]),[]⟩ [.code l2]) (u'::us')) w1 #[]:=by rfl
 obtain⟨ed,nq,bQ⟩:=ak.step (B:=λ_=>False) (RO:=λ_=>False) sl eo (Nat.le_refl _) (λe he=>by simp at he) (λb hb=>by grind) ak.db;obtain⟨lE,k1,k2,bP,s1,s2,eh,r2⟩:=aeD w1 fg;subst K9 tz;have mX:∀i,i<4->lE.cell? ⟨C,i,none⟩=some (.bool (bs i)):=λi aX=>bP _ _ _ Ug (by grind [World.cell?]) .bool;have s8:=ek ah eg bs lE (.agg hcs) (.agg pcs) (e6 C) oM lZ ⟨hcs.toList,rfl,eh⟩ ⟨pcs.toList,rfl,r2⟩ ⟨C,rfl,yh (by grind),⟨⟨_,mX 0 (by decide),rfl⟩,⟨_,mX 1 (by decide),rfl⟩,⟨_,mX 2 (by decide),rfl⟩,⟨_,mX 3 (by decide),rfl⟩,trivial⟩⟩
  (mM λv w'=>Je ((List.range 4).filter bs) lE w' v) dv [] (.inl rfl) λv w' ⟨v2,aO,ai⟩=>@Way.done jx _ _ _ _ _ λτ d=>⟨rfl,v,rfl,by
   injection aO with aO;subst aO;exact ai⟩
 have EV:=aas (λf w x=>by cases x.1) s8;refine⟨_,_,_,ed,eo,nq,YL (fn0:=58) (ro:=M) (W0:=w1) Ti Sn aeB (u':=u') (us':=us') EV ((base 58).at ⟨T.setIfInBounds 21 (.tuple #[]),[]⟩ [.code l2]) (u'::us') S (ef M) w1 ed sl _ q (.inl (.bot ⟨rfl,aeC s1 s2 Ug mG t52 t162,.cons (.code ab0) .nil,⟨[],.nil,rfl⟩,.run,rfl,λe=>(by cases e),.none,λ_=>rfl,λe=>(by cases e),λ_=>rfl,λx e=>(by cases e;rfl),λe=>(by cases e),λx e h=>(by rfl)⟩))
  ⟨bQ.g0,bQ.ey,bQ.pa,bQ.k4,λb hb a bL=>(ahY a bL.2).2 (bL.1▸hb),bQ.shl,k1,λb hb al3=>by grind,λa b bL _=>bL.1▸bL.2,e7.refl w1⟩ λσ v bg k3 bF hQ lr t1 cy cn hle ai hm=>?_⟩
 obtain⟨τ,d,cn⟩:=cn;refine re bg bF hQ lr t1 cy ?_ ⟨hm.g0,hm.ey,hm.pa,hm.k4,hm.shl,⟨by rw[←fg];exact hm.db.size,hm.db.os.trans ak.db.os,hm.db.out.trans ak.db.out,λb hb=>by rw[←fg]at hb⊢;exact hm.db.blk b hb⟩⟩;rcases adD (hm.wr.a8 τ d) cn ai with h|⟨U,b,c',e',bj,cap,ab,al,aJ,⟨a,al4,bm⟩,bI⟩
 ·exact .inl h
 ·refine .inr ⟨U,b,c',e',bj,cap,ab,al,aJ,?_,λiB=>hm.ma b iB a bm,bI⟩;rcases Nat.lt_or_ge b w1.heap.size with hb|hb
  ·have FZ:=hm.old a b bm hb;have:=hm.wr.ok.inj bm (hle b b ⟨rfl,FZ⟩);omega
  ·exact .inr (by rw[←fg];exact hb)
end
end
end Go.Proofs.YtlminnpaeaganaaGreat
