/- Part of the proof of RuleBeside. No condition. -/
import Derived.Test.YtlminnpaeaganaaGreatMBesideAL
import Derived.Test.YtlminnpaeaganaaGreatMBesideAN
namespace Go.Proofs.YtlminnpaeaganaaGreat
set_option maxRecDepth 100000
set_option linter.all false
section
open Go Go.Conc Go.RowKit
open Go.ConcN (PayAt Has WgLive AtR0 RW)
open Go.ConcN.Gen (doneN)
open Go.ConcR.Gen (body_done)
open Go.Conc.Lib (doneFn)
open Go.ConcR (stA Payload DC0)
instance:Payload:=⟨142⟩
noncomputable def bot:Frame:={ (default:Frame)with fn:=Tryz.prog.funcs.size,defers:=[],mode:=.panicking [goexitEntry] }
def e6(Wg:Nat):Value:=.pointer (some ⟨Wg,0,none⟩)
def xX(Wg C:Nat)(ae ip pp:Value):Array Value:=#[e6 Wg,ae,ip,pp,e6 C,undef,undef,undef,undef,undef,undef,undef,undef,undef,undef,undef,undef,undef,undef]
def LP(ae ip pp:Value):Array Value:=#[undef,ae,ip,pp,undef,undef,undef,undef,undef,undef,undef,undef,undef,undef,undef,undef,undef,undef,undef]
def call103(Wg C:Nat)(ae ip pp:Value):Deferred:={ target:=.fn (.func 103) #[e6 Wg,ae,ip,pp,e6 C],args:=#[] }
def ko(Wg:Nat):List Deferred:=[dcall 104 #[e6 Wg]]
noncomputable def CN(Wg C:Nat)(ae ip pp:Value):Goroutine:=G ⟨103,xX Wg C ae ip pp,[.code (.region 1 iT true)],ko Wg,.run,.deferred,none⟩ [bot]
def xg(P:Program):Nat->Goroutine->Goroutine->Prop
 |0,g,g'=>g=g'
 |n+1,g,g'=>g.status=.running/\∃g1,(∀w,stepG P false g w=.go g1 w #[])/\xg P n g1 g'
theorem xg.step{P:Program}{n:Nat}{g g1 g':Goroutine}(h:g.status=.running)(ao:∀w,stepG P false g w=.go g1 w #[])(k:xg P n g1 g'):xg P (n+1) g g':=⟨h,g1,ao,k⟩
noncomputable def Kc:Array Oper:=match Tryz.f103.body with
 |some (.seq (.region _ ops _) _)=>ops
 |_=>#[]
theorem abM:Tryz.f103.body=some (.seq (.region 0 Kc false) (.region 1 iT true)):=by kernel_rfl
theorem abN(Wg C:Nat)(ae ip pp:Value):xg Tryz.prog 5 (born Tryz.prog (call103 Wg C ae ip pp)) (CN Wg C ae ip pp):=by
 refine .step (g1:=G ((baseD 103).at ⟨xX Wg C ae ip pp,[]⟩ [.code (.seq (.region 0 Kc false) (.region 1 iT true))]) [bot]) rfl (λw=>?_) ?_
 ·have hb:=abM;have aQ:=Tryz.func103;have aI:Tryz.f103.name ≠ "runtime.NumGoroutine" := by
   have:(Tryz.f103.name == "runtime.NumGoroutine")=false:=by kernel_rfl
   simpa using this
  have a1:Tryz.f103.ntmps=19:=by kernel_rfl
  simp[born,call103,stepG,unwind,callDeferred,invoke,callFunc,aQ,hb,aI,a1,seen,GStep.after,G,Frame.enter,Frame.at,baseD,bot,xX]
 refine .step rfl (λw=>stepG_seq) ?_;refine .step rfl (λw=>stepG_region) ?_;refine .step rfl (λw=>stepG_defer (ops:=Kc) (i:=0) (rest:=[]) (o:={ dst:=none,op:=.defer { callee:=.value (.func 104),args:=#[.tmp 0],argTypes:=#[151] },type:=0,pos := "ask.go:18",after:=#[],guard:=none }) rfl rfl (by decide) rfl) ?_;refine .step rfl (λw=>stepG_region_end) ?_;show _=CN Wg C ae ip pp;simp[Act.put,CN,ko,dcall,Act.eval,xX,Frame.at,baseD,G]
theorem abO:(opsV.toList.all λo=>mx cl fc o.op)=true:=by kernel_rfl
theorem abP:(iT.toList.all λo=>mx cl fc o.op)=true:=by kernel_rfl
theorem YR{p:Program}{F:FuncId->Bool}{ops:Array Oper}(h:(ops.toList.all λo=>mx p F o.op)=true):px p F ops ops:=⟨λ_=>rfl,λ_ _ h _=>h,λ_ _=>rfl,rfl,h⟩
theorem aex:px cl fc opsV iT:=
 MR (MR (YR abP) (opsA:=iT.modify 13 B2) rfl (λ_=>rfl) (λ_=>rfl) (λ_=>rfl)) rfl (λ_=>rfl) (λ_=>rfl) (λ_=>rfl)
noncomputable def Sp(i:Nat):Bool:=match opsV[i]? with
 |some o=>i==13||i==14||!q1 o
 |none=>true
theorem aaf:(List.range 15).all Sp=true:=by kernel_rfl
theorem YS:opsV.size=15:=by kernel_rfl
theorem aey(i:Nat)(o:Oper)(h:opsV[i]?=some o)(hi:i∉[13,14]):q1 o=false:=by
 have aU:i<15:=by have:=(Array.getElem?_eq_some_iff.1 h).1;rw[YS]at this;exact this
 have:=List.all_eq_true.1 aaf i (List.mem_range.2 aU);unfold Sp at this;rw[h]at this;simp only[List.mem_cons,List.not_mem_nil,or_false,not_or]at hi;simpa[hi.1,hi.2]using this
noncomputable def To(i:Nat):Bool:=match iT[i]? with
 |some o=>match o.dst with
  |some d=>decide (5<=d)
  |none=>true
 |none=>true
theorem aag:(List.range 15).all To=true:=by kernel_rfl
theorem afV(i:Nat)(o:Oper)(d:Tmp)(h:iT[i]?=some o)(aV:o.dst=some d):5<=d:=by
 have aU:i<15:=by have:=(Array.getElem?_eq_some_iff.1 h).1;rw[YO]at this;exact this
 have:=List.all_eq_true.1 aag i (List.mem_range.2 aU);unfold To at this;rw[h]at this;dsimp only at this;rw[aV]at this;simpa using this
noncomputable def tH:Oper:=(iT[13]?).getD default
noncomputable def tI:Oper:=(iT[14]?).getD default
theorem Sq:iT[13]?=some tH:=by kernel_rfl
theorem Sr:iT[14]?=some tI:=by kernel_rfl
theorem Fo:tH.op=.indexAddr 142 (.tmp 4) (.tmp 5)/\tH.dst=some 18/\tH.guard=none:=⟨by kernel_rfl,by kernel_rfl,by kernel_rfl⟩
theorem Fp:tI.op=.store 4 (.tmp 18) (.tmp 17)/\tI.dst=none/\tI.guard=none:=⟨by kernel_rfl,by kernel_rfl,by kernel_rfl⟩
theorem afW:∀i∈[13,14],∃o,opsV[i]?=some o/\(∃c,o.op=.assign (.const c))/\o.guard=none/\o.dst≠some 17/\o.dst≠some 5:=by
 intro i hi;simp only[List.mem_cons,List.not_mem_nil,or_false]at hi;rcases hi with rfl|rfl
 ·refine⟨B2 tH,?_,⟨_,rfl⟩,Fo.2.2,by show tH.dst≠_;rw[Fo.2.1];simp,by show tH.dst≠_;rw[Fo.2.1];simp⟩;simp[opsV,Array.getElem?_modify,Sq]
 ·refine⟨B2 tI,?_,⟨_,rfl⟩,Fp.2.2,by show tI.dst≠_;rw[Fp.2.1];simp,by show tI.dst≠_;rw[Fp.2.1];simp⟩;simp[opsV,Array.getElem?_modify,Sr]
theorem Tp:cl.follows .mixedOrders=true:=by kernel_rfl
theorem afX:Tryz.prog.follows .mixedOrders=true:=by kernel_rfl
theorem abQ:(Tryz.prog.funcs[103]?).any (·.norace)=false:=by kernel_rfl
section
variable{Wg C:Nat}{T:Array Value}{b:Bool}{i:Nat}{w:World}
noncomputable def xY(Wg:Nat)(T:Array Value)(todo:List Item):Goroutine:=G ⟨103,T,todo,ko Wg,.run,.deferred,none⟩ [bot]
theorem adv(aJ:T[4]?=some (e6 C))(bm:T[5]?=some (.int .i64 (i:Int)))(hi:i<4):stepG Tryz.prog false (xY Wg T [.inRegion iT [13,14]]) w=.go (xY Wg (T.setIfInBounds 18 (.pointer (some ⟨C,i,none⟩))) [.inRegion iT [14]]) w #[]:=by
 have aE:=Fo;have b8:(⟨T,ko Wg⟩:Act).eval (.tmp 4)=e6 C:=by simp[Act.eval,Array.getD_eq_getD_getElem?,aJ]
 have en:(⟨T,ko Wg⟩:Act).eval (.tmp 5)=.int .i64 (i:Int):=by simp[Act.eval,Array.getD_eq_getD_getElem?,bm]
 have ad:(execOp (⟨T,ko Wg⟩:Act).eval tH).run Tryz.prog w=.ok (.value (.pointer (some ⟨C,i,none⟩))) w:=by
  unfold execOp;simp only[aE.1,b8,en];have hu:=Tryz.underlying142;have aT:(0:Int)<=(i:Int):=by omega
  have U:(i:Int)<4:=by omega
  simp[e6,Instr.indexAt,run_underlying hu,asIntOf,Instr.sureAddr,aT,hi,Addr.add];exact λh=>h.symm
 have he:(execOp (⟨T,ko Wg⟩:Act).eval tH).events Tryz.prog w #[]=#[]:=by
  unfold execOp;simp only[aE.1,b8,en];have hu:=Tryz.underlying142;have aT:(0:Int)<=(i:Int):=by omega
  simp[e6,Instr.indexAt,go_sem,hu,asIntOf,Instr.sureAddr,aT,hi,Addr.add]
 have:=stepG_value (P:=Tryz.prog) (main:=false) (b:=baseD 103) (a:=⟨T,ko Wg⟩) (k:=[]) (cs:=[bot]) (rest:=[14]) Sq (by simp[Region.wanted,aE.2.2]) (by decide) ad;unfold listed at this;rw[he,seen_none]at this;refine Eq.trans this ?_;rw[aE.2.1];rfl
theorem adw(K5:T[18]?=some (.pointer (some ⟨C,i,none⟩)))(K6:T[17]?=some (.bool b)){u:Value}(ah:w.cell? ⟨C,i,none⟩=some u)(bO:w.frozen? ⟨C,i,none⟩=false):
  stepG Tryz.prog false (xY Wg T [.inRegion iT [14]]) w=.go (xY Wg T [.inRegion iT []]) (w.setCell ⟨C,i,none⟩ (.bool b)) #[⟨.cell ⟨C,i,none⟩,true,false⟩]:=by
 have aE:=Fp;have b8:(⟨T,ko Wg⟩:Act).eval (.tmp 18)=.pointer (some ⟨C,i,none⟩):=by simp[Act.eval,Array.getD_eq_getD_getElem?,K5]
 have en:(⟨T,ko Wg⟩:Act).eval (.tmp 17)=.bool b:=by simp[Act.eval,Array.getD_eq_getD_getElem?,K6]
 have hu:=Tryz.underlying4;have ad:(execOp (⟨T,ko Wg⟩:Act).eval tI).run Tryz.prog w=.ok .skip (w.setCell ⟨C,i,none⟩ (.bool b)):=by
  unfold execOp;simp only[aE.1,b8,en];simp[go_sem,stored,ah,bO]
 have he:(execOp (⟨T,ko Wg⟩:Act).eval tI).events Tryz.prog w #[]=#[⟨.cell ⟨C,i,none⟩,true,false⟩]:=by
  unfold execOp;simp only[aE.1,b8,en];simp[go_sem];rw[events_store _ _ _ _ _ _ rfl];simp[storedEv,ah,bO]
 have:=stepG_none (P:=Tryz.prog) (main:=false) (b:=baseD 103) (a:=⟨T,ko Wg⟩) (k:=[]) (cs:=[bot]) (rest:=[]) Sr (by simp[Region.wanted,aE.2.2]) (by decide) ad;unfold listed at this;rw[he,seen_eq (by exact abQ) (by simp)]at this;refine Eq.trans this ?_;rw[aE.2.1];rfl
end
end
section
open Go Go.Conc Go.RowKit
open Go.ConcN (PayAt Has WgLive AtR0 RW cell_of_block)
open Go.ConcN.Gen (doneN)
open Go.ConcR.Gen (body_done)
open Go.ConcR (stA Payload DC0)
abbrev qG:=Frame×List Frame×World
def FV(y x:qG):Prop:=x.2.1≠[]/\∃τ d es,stepG cl true (G x.1 x.2.1) (a8 x.2.2 τ d)=.go (G y.1 y.2.1) y.2.2 es
def oR(a b:Nat×qG):Prop:=(a.1<b.1/\a.1<5)\/(a.1<b.1/\5<=a.1/\(a.2=b.2\/FV a.2 b.2))\/(a.1=b.1/\a.1=5/\FV a.2 b.2)
theorem aah:∀(n:Nat),n<5->∀x:qG,Acc oR (n,x):=by
 intro n;induction n using Nat.strongRecOn with
 |_ n az=>
  intro aI x;refine⟨_,λy aF=>?_⟩;rcases aF with⟨U,ab⟩|⟨U,ab,_⟩|⟨U,ab,_⟩<;>dsimp only at U ab;all_goals grind
theorem abR{x:qG}(h:Acc FV x):∀n,Acc oR (n,x):=by
 induction h with
 |intro x _ T9=>
  intro n;induction n using Nat.strongRecOn with
  |_ n az=>
   refine⟨_,λy aF=>?_⟩;rcases aF with⟨U,ab⟩|⟨U,ab,al⟩|⟨U,ab,al⟩<;>dsimp only at U ab;all_goals grind [aah]
theorem XD{R:Value->World->Prop}{fr:Frame}{cs:List Frame}{w:World}(h:m7 cl (mM R) fr cs w):Acc FV (fr,cs,w):=by
 have:=abH h;generalize(fr,cs,w)=x at this;induction this with
 |intro x _ az=>exact⟨_,λy aF=>az y ⟨λe=>aF.1 (e default 0).1,aF.2⟩⟩
def zg(b:Bool)(i:Nat):Value:=.tuple #[.bool b,.int .i64 (i:Int)]
def Kd(Wg C:Nat)(ae ip pp:Value):Array Value:=#[e6 Wg,ae,ip,pp,e6 C]
noncomputable def Vb(ae ip pp:Value):Frame:=⟨103,LP ae ip pp,[.code (.region 1 opsV true)],[],.run,.normal,none⟩
inductive ku(Wg C:Nat)(bit:Nat->Bool)(i:Nat):Nat×qG->(Nat->Prop)->(Nat->Prop)->Goroutine->World->Prop
 |pre {m:Nat} {B RO M:Nat->Prop} {g:Goroutine} {w V:World} {ae ip pp:Value}:xg Tryz.prog m g (CN Wg C ae ip pp)->m7 cl (mM λv _=>v=zg (bit i) i) (Vb ae ip pp) [dv] V->dN (bH cl fc) (ef M) M V w->cv (bH cl fc) (ef M) (LP ae ip pp) (xX Wg C ae ip pp) ->
   (∀b,M b->RO b)->(∀b,M b->b<w.heap.size)->ku Wg C bit i (6+m,(Vb ae ip pp,[dv],V)) B RO g w
 |walk {B RO ro:Nat->Prop} {ρ:bA} {x:qG} {fr:Frame} {cs:List Frame} {w:World} {ae ip pp:Value}:rO cl Tryz.prog fc ro opsV [13,14] (ko Wg,103,true) bot iT (Kd Wg C ae ip pp) (zg (bit i) i) ρ x (fr,cs) w ->
   (∀a b,ρ a b->B b\/ro b)->(∀b,ro b->RO b)->ku Wg C bit i (5,x) B RO (G fr cs) w
 |p3 {B RO:Nat->Prop} {T:Array Value} {w:World} {x:qG}:T[18]?=some (.pointer (some ⟨C,i,none⟩))->T[17]?=some (.bool (bit i))->ku Wg C bit i (3,x) B RO (xY Wg T [.inRegion iT [14]]) w
 |p2 {B RO:Nat->Prop} {T:Array Value} {w:World} {x:qG}:Has C i (.bool (bit i)) w->ku Wg C bit i (2,x) B RO (xY Wg T [.inRegion iT []]) w
 |gr {B RO:Nat->Prop} {T:Array Value} {w:World} {x:qG}:Has C i (.bool (bit i)) w->ku Wg C bit i (1,x) B RO (xY Wg T []) w
 |qB {B RO:Nat->Prop} {T:Array Value} {w:World} {x:qG}:Has C i (.bool (bit i)) w->ku Wg C bit i (0,x) B RO (G { (⟨103,T,[],ko Wg,.run,.deferred,none⟩:Frame)with mode:=.returning } [bot]) w
section
variable{Wg C:Nat}{bit:Nat->Bool}{i:Nat}
theorem WQ{P:Program}{n:Nat}{g g':Goroutine}(h:xg P n g g')(ad:g'.status=.running):g.status=.running:=by
 cases n with
 |zero=>have:g=g':=h;grind
 |succ n=>exact h.1
theorem ku.keep{s:Nat×qG}{B RO:Nat->Prop}{g:Goroutine}{w fB:World}(h:ku Wg C bit i s B RO g w)(ao:w.heap.size<=fB.heap.size)(hb:∀b,B b\/RO b->fB.heap[b]?=w.heap[b]?)(ah:fB.cell? ⟨C,i,none⟩=w.cell? ⟨C,i,none⟩):ku Wg C bit i s B RO g fB:=by
 cases h with
 |pre U ab al aJ bm bI=>exact .pre U ab (al.keep ao λa b bL=>hb b (.inr (bm b (bL.1▸bL.2)))) aJ bm λb hm=>Nat.lt_of_lt_of_le (bI b hm) ao
 |walk U ab al=>exact .walk (U.keep ao λa b bL=>hb b ((ab a b bL).imp id (al b))) ab al
 |p3 U ab=>exact .p3 U ab
 |p2 h=>exact .p2 (ah.trans h)
 |gr h=>exact .gr (ah.trans h)
 |qB h=>exact .qB (ah.trans h)
theorem Ao{B RO:Nat->Prop}{w:World}:Qm C 4 i B RO w w #[]:=⟨rfl,rfl,Nat.le_refl _,λ_ _ _ _=>rfl,id,λ_ _=>rfl,by simp⟩
theorem adx{σ:bA}{ro B RO:Nat->Prop}{w w':World}{e:Event}(h:ja σ ro e)(xZ:∀a b,σ a b->(B b\/(w.heap.size<=b/\b<w'.heap.size))\/ro b)(dY:∀b,ro b->RO b):EvB (λb=>B b\/(w.heap.size<=b/\b<w'.heap.size)) RO e:=by
 cases h with
 |rd h=>exact .rd ((xZ _ _ h).imp id (dY _))
 |wr h ab=>exact .wr ((xZ _ _ h).resolve_right ab)
 |get h=>exact .get ((xZ _ _ h).imp id (dY _))
 |set h ab=>exact .set ((xZ _ _ h).resolve_right ab)
 |ext=>exact .ext
 |room=>exact .room
theorem abS{p p':Program}{F:FuncId->Bool}{K:ee}{ρ:bA}{Y:List Deferred×FuncId×Bool}{cb:Frame}{f bj:Frame}{cs cs':List Frame}(h:h5 p F p' K ρ Y dv [cb] (f::cs) (bj::cs'))(e:cs'=[cb]):cs=[dv]:=by
 cases h with
 |bot _=>rfl
 |cons _ ab=>
  rw[e]at ab;trivial
theorem WgLive.of_eq{ty:TypeId}{w w':World}(h:WgLive ty Wg w)(e:w'.heap[Wg]?=w.heap[Wg]?):WgLive ty Wg w':=let⟨a,b,c⟩:=h;⟨a,b,e.trans c⟩
theorem aai(T:Array Value):QuitsD Tryz.prog 2 0 (G { (⟨103,T,[],[],.run,.deferred,none⟩:Frame)with mode:=.returning } [bot]):=by
 have aQ:=Tryz.func103;have ad:Tryz.f103.results=#[]:=by kernel_rfl
 refine QuitsD.ctl (g':=G bot []) rfl (λw=>?_) ?_
 ·simp[G,stepG,unwind,doReturn,results,bot,aQ,seen,GStep.after,goexitEntry]
 refine QuitsD.ctl (g':={ G bot []with status:=.finished }) rfl (λw=>?_) ⟨rfl,rfl⟩;simp[G,stepG,unwind,bot,goexitEntry,Frame.catches];rfl
theorem ady(hCW:C≠Wg):lM Tryz.prog Tryz.link.tWg Wg C 4 (λi=>.bool (bit i)) oR (ku Wg C bit):=by
 refine⟨λh=>?_,λh a b c=>h.keep a b c,λ{i s B RO g w} h hi ry qd ahN al1=>?_⟩
 ·cases h with
  |pre U _ _ _ _ _=>exact WQ U rfl
  |_=>rfl
 cases h with
 |@pre m B RO M g w V ae ip pp U ab al aJ bm bI=>
  cases m with
  |zero=>
   have e:g=CN Wg C ae ip pp:=U;subst e;obtain⟨s,g2,d,k1,bf,τ,e,es,bP⟩:=Xx (p:=cl) (p':=Tryz.prog) (F:=fc) (ro:=M) (ops:=opsV) (ops':=iT) (k:=13) (Y:=(ko Wg,103,true)) (cb:=bot) (A:=Kd Wg C ae ip pp) (v0:=zg (bit i) i) (afX.trans Tp.symm) Tp abJ abO aex rfl (tr:=xX Wg C ae ip pp) (λr ad=>by
    have:r<5:=ad
    match r,this with
    |0,_=>rfl
    |1,_=>rfl
    |2,_=>rfl
    |3,_=>rfl
    |4,_=>rfl) (by show 19<=19;omega) ab al (λb hb e3=>absurd (bI b e3) (by omega)) aJ
   exact⟨_,_,_,k1,⟨rfl,rfl,Nat.le_refl _,λ_ _ _ _=>rfl,id,λ_ _=>rfl,by simp⟩,.inl ⟨(5,s),.inr (.inl ⟨by simp,Nat.le_refl _,.inr ⟨by simp,τ,e,es,bP⟩⟩),.walk bf (λa b bL=>.inr (bL.1▸bL.2)) bm⟩⟩
  |succ m=>
   obtain⟨ad,g1,ao,k⟩:=U;refine⟨g1,w,#[],ao w,Ao,.inl ⟨(6+m,_),.inr (.inl ⟨by grind,by grind,.inl rfl⟩),.pre k ab al aJ bm bI⟩⟩
 |@walk B RO ro ρ x fr cs w ae ip pp U ab al=>
  by_cases Ss:x.2.1=[dv]/\¬uU vr opsV [13,14] x.1
  ·obtain⟨ao,KU⟩:=Ss;obtain⟨k1,⟨CO,hF,⟨Gz,Va,ajj,ajk⟩,_⟩,bP,cX,fi,tW⟩:=YM U ao KU O9 (r:=17) (r2:=5) rfl afW;obtain⟨fn,T,todo,defers,mode,kind,round⟩:=fr;subst k1 CO hF Gz Va bP cX;have t4:T[4]?=some (e6 C):=ajk 4 (by show 4<5;omega);have bX:19<=T.size:=ajj;have get:∀r v,x.1.tmps.getD r undef=v->v≠undef->x.1.tmps[r]?=some v:=λr v e ai=>by
    rw[Array.getD_eq_getD_getElem?]at e;cases aj:x.1.tmps[r]? with
    |none=>grind
    |some y=>grind
   have Ue:x.1.tmps.getD 17 undef=.bool (bit i)/\x.1.tmps.getD 5 undef=.int .i64 (i:Int):=by grind [zg]
   have t17:T[17]?=some (.bool (bit i)):=by
    rcases tW.get 17 with⟨jh,_⟩|⟨a,b,jh,vK,mP⟩
    ·grind
    ·rw[get 17 _ Ue.1 (by simp[undef])]at jh;cases jh;rw[vK];cases mP;rfl
   have t5:T[5]?=some (.int .i64 (i:Int)):=by
    rcases tW.get 5 with⟨jh,_⟩|⟨a,b,jh,vK,mP⟩
    ·grind
    ·rw[get 5 _ Ue.2 (by simp[undef])]at jh;cases jh;rw[vK];cases mP;rfl
   refine⟨_,w,#[],adv t4 t5 hi,Ao,.inl ⟨(3,x),.inl ⟨by simp,by simp⟩,.p3 ?_ ?_⟩⟩;all_goals grind
  ·have fg:x.2.1=[dv]->uU vr opsV [13,14] x.1:=λe=>Classical.byContradiction λaI=>Ss ⟨e,aI⟩;have kW:cs=[bot]->uU (xx (ko Wg) (Kd Wg C ae ip pp)) iT [13,14] fr:=λe=>by
    have aj:=abS U.st e;obtain⟨_,_,bP,_,_,_,LQ⟩:=U.same aj;obtain⟨_,a,l,ak,aI⟩:=fg aj;exact⟨bP,a,l,LQ _ ak,aI⟩
   obtain⟨s',σ,g',bF,es,k1,bf,bP,cX,fi,_⟩:=YJ Ti Sn aey U (λa o d h aV=>afV a o d h aV) fg kW;have gX:∀a b,σ a b->b<bF.heap.size:=λa b bL=>by
    obtain⟨_,_,_,k,_⟩:=bP.wr.obj _ _ bL;exact(Array.getElem?_eq_some_iff.1 k).1
   have xZ:∀a b,σ a b->(B b\/(w.heap.size<=b/\b<bF.heap.size))\/ro b:=λa b bL=>by
    rcases cX.new a b bL with h|h
    ·exact(ab a b h).imp .inl id
    ·exact .inl (.inr ⟨h,gX a b bL⟩)
   have lV:∀b,b<w.heap.size->¬B b->bF.heap[b]?=w.heap[b]?:=λb hb dH=>by
    refine cX.keep b hb ?_;by_cases hex:∃a,ρ a b
    ·obtain⟨a,au⟩:=hex;exact .inr ((ab a b au).resolve_left dH)
    ·exact .inl λa au=>hex ⟨a,au⟩
   have FQ:C<w.heap.size:=by obtain⟨_,y,_⟩:=ry;exact(Array.getElem?_eq_some_iff.1 y).1
   have hC:=lV C FQ ahN;refine⟨_,bF,es,k1,⟨cX.os,cX.out,cX.size,λb hb dH _=>lV b hb dH,λ⟨c,y,z⟩=>⟨c,hC.trans y,z⟩,λcm _=>cell_of_block hC cm,λe he=>.inl (adx (fi e he) xZ al)⟩,.inl ⟨(5,s'),.inr (.inr ⟨rfl,rfl,?_,bf.2⟩),.walk bP xZ al⟩⟩;intro e;have hb:=U.bi;dsimp only at hb e;rw[e]at hb;exact hb
 |@p3 B RO T w x K5 K6=>
  obtain⟨c,ah,aI⟩:=ry;have mX:w.cell? ⟨C,i,none⟩=some (c[i]'(by omega)):=by
   have:i<c.size:=by omega
   simp[World.cell?,ah,this]
  have bO:w.frozen? ⟨C,i,none⟩=false:=by simp[World.frozen?,ah]
  have hb:(w.setCell ⟨C,i,none⟩ (.bool (bit i))).heap[C]?=some (.cells (c.setIfInBounds i (.bool (bit i))) Payload.ety):=by simp[World.setCell,Array.getElem?_modify,ah]
  have aW:=aside_setCell w ⟨C,i,none⟩ (.bool (bit i));refine⟨_,_,_,adw K5 K6 mX bO,⟨aW.os,aW.output,Nat.le_of_eq aW.size.symm,λb _ _ hb=>aW.block b hb,λ_=>⟨_,hb,by simpa using aI⟩,λcm e1=>?_,λe he=>.inr ⟨true,by simpa using he⟩⟩,.inl ⟨(2,x),.inl ⟨by simp,by simp⟩,.p2 ?_⟩⟩
  ·simp[World.cell?,hb,ah,Array.getElem?_setIfInBounds_ne (Ne.symm e1)]
  ·have:i<c.size:=by omega
   simp[Has,World.cell?,hb,this]
 |@p2 B RO T w x bq=>exact⟨_,w,#[],stepG_region_end (b:=baseD 103) (a:=⟨T,ko Wg⟩) (k:=[]),Ao,.inl ⟨(1,x),.inl ⟨by simp,by simp⟩,.gr bq⟩⟩
 |@gr B RO T w x bq=>exact⟨_,w,#[],stepG_end (b:=baseD 103) (a:=⟨T,ko Wg⟩),Ao,.inl ⟨(0,x),.inl ⟨by simp,by simp⟩,.qB bq⟩⟩
 |@qB B RO T w x bq=>
  have H:=Tryz.JG;have ao:=stepG_unwind_enter (P:=Tryz.prog) (main:=false) (w:=w) (b:=baseD 103) (a:=⟨T,ko Wg⟩) (todo:=[]) (ds:=[]) (cs:=[bot]) (f:=Tryz.link.done) (args:=#[e6 Wg]) rfl H.f_done (Go.ConcR.Gen.nm_done Tryz.link) (c:=body_done Tryz.link) rfl;have aV:=@doneN _ Tryz.link Tryz.prog H Go.Proofs.YtlminnpaeaganaaGreat.u7 Go.Proofs.YtlminnpaeaganaaGreat.u7 Wg C 4 0 (i+1) (.bool (bit i)) { (⟨103,T,[],[],.run,.deferred,none⟩:Frame)with mode:=.returning } [bot] 2 rfl (aai T) w ⟨qd,bq⟩;obtain⟨hF,hw⟩:=YN (c:={ (⟨103,T,[],[],.run,.deferred,none⟩:Frame)with mode:=.returning }) (cs:=[bot]) (Wg:=Wg) H;exact⟨_,w,#[],ao,Ao,.inr ⟨_,.r0 (XA aV qd hF hw)⟩⟩
end
end
section
open Go Go.Conc Go.ConcN Go.RowKit Go.Conc.Lib Go.ConcR.Gen Go.ConcN.Gen
open Go.ConcR (KK wgBlock WgAt stA smA rd wr mk DC0 Payload)
section
variable[Payload]{P:Program}{ty:TypeId}{Wg C n:Nat}{σ:Type}{lt:σ->σ->Prop}{b5:Nat->σ->(Nat->Prop)->(Nat->Prop)->Goroutine->World->Prop}{Fin:Nat->(Nat->Prop)->(World->Prop)->Goroutine->Prop}
 {tag:CTag} {c j d R:Nat} {bM:Nat->Prop} {A:World->Prop} {g g1:Goroutine} {Stop:Goroutine->World->Prop}
theorem uV(ty:TypeId)(Wg:Nat):∃w:World,WgLive ty Wg w:=
 ⟨{ (default:World)with heap:=Array.replicate (Wg+1) (wgBlock ty 0 0) },0,0,by show(Array.replicate (Wg+1) (wgBlock ty 0 0))[Wg]?=_;simp⟩
theorem aaj(aW:fL bM A){f:Nat}(aq:∀g1,(∀w,WgLive ty Wg w->Stop g1 w)->(dn P ty Wg C n lt b5 Fin) f tag c j d bM R A g1):∀(m:Nat)(g:Goroutine),(∀w,WgLive ty Wg w->Goes P true (KX ty Wg) DC0 Stop m g w)->(dn P ty Wg C n lt b5 Fin) (f+m) tag c j d bM R A g:=by
 intro m;induction m with
 |zero=>exact λg h=>aq g λw hw=>h w hw w hw
 |succ m az=>
  intro g h;obtain⟨c9,gl⟩:=uV ty Wg;rcases h c9 gl with aT|⟨ad,aT⟩
  ·exact dn.le _ _ _ _ _ _ _ _ (by omega) (aq g aT)
  ·refine⟨ad,aW,.inr (.inl λw hw=>?_)⟩;have U:=aT w hw;obtain⟨g',w',es,aN,⟨rfl,rfl⟩,aI⟩:=goes_elim U;exact⟨g',aN,az g' λw2 kW=>Goes.rely (λ_ _ _ _ x=>x) aI kW⟩
theorem mn(aW:fL bM A){f bj:Nat}(hle:f+200<=bj)(h:jb P ty Wg Stop g)(aq:∀g1,(∀w,WgLive ty Wg w->Stop g1 w)->(dn P ty Wg C n lt b5 Fin) f tag c j d bM R A g1):(dn P ty Wg C n lt b5 Fin) bj tag c j d bM R A g:=dn.le _ _ _ _ _ _ _ _ hle (aaj aW aq 200 g h)
theorem adz(aW:fL bM A)(h:jb P ty Wg (λg _=>g=g1) g){f bj:Nat}(hle:f+200<=bj)(aq:(dn P ty Wg C n lt b5 Fin) f tag c j d bM R A g1):(dn P ty Wg C n lt b5 Fin) bj tag c j d bM R A g:=by
 obtain⟨c9,gl⟩:=uV ty Wg;exact mn aW hle h λg2 ab=>(ab c9 gl)▸aq
theorem yw(aW:fL bM A){e:Mark}(he:e=.disable\/e=.enable\/e=.read (smA Wg)\/e=.write (smA Wg)){f bj:Nat}(hle:f+1<=bj)(h:∀w,WgLive ty Wg w->wT P ty Wg e Stop g w)(aq:∀g1,jb P ty Wg Stop g1->(dn P ty Wg C n lt b5 Fin) f tag c j (deafBehind d #[mk e]) bM R A g1):(dn P ty Wg C n lt b5 Fin) bj tag c j d bM R A g:=by
 obtain⟨c9,gl⟩:=uV ty Wg;refine dn.le _ _ _ _ _ _ _ _ hle (f:=f+1) ⟨(h c9 gl).1,aW,.inr (.inr (.inl ⟨e,he,λw hw=>?_⟩))⟩;obtain⟨_,g',aN,aI⟩:=h w hw;exact⟨g',aN,aq g' aI⟩
section
variable{L:WgLink}{nz:Frame}{nA:Act}{jV:Array Oper}{nB:Nat}{m1:List Nat}{nC:List Item}{cs:List Frame}
theorem Pe(aW:fL bM A){f bj:Nat}(hle:f+401<=bj){tag:CTag}{g:Goroutine}(aq:(dn P L.tWg Wg C n lt b5 Fin) f tag c j 0 bM R A g1)(h:jb P L.tWg Wg (wT P L.tWg Wg .enable λg _=>g=g1) g):(dn P L.tWg Wg C n lt b5 Fin) bj tag c j 1 bM R A g:=
 mn aW (f:=f+201) (by omega) h λg2 ab=>yw aW (f:=f+200) (.inr (.inl rfl)) (by omega) ab λg3 al=>adz aW al (by omega) aq
theorem abT(H:WgLib P L)(aW:fL bM A)(ah:c<2147483646){f bj:Nat}(hle:f+1010<=bj)(aq:(dn P L.tWg Wg C n lt b5 Fin) f (.sp 0 3) (c+1) j 0 bM R A (G (nz.at (nA.put ((jV[nB]?).bind (·.dst)) (.tuple #[])) (.inRegion jV m1::nC)) cs)){g:Goroutine}
  (h:jb P L.tWg Wg (wT P L.tWg Wg .disable (Tg P L.tWg Wg λg _=>g=G (nz.at (nA.put ((jV[nB]?).bind (·.dst)) (.tuple #[])) (.inRegion jV m1::nC)) cs)) g):(dn P L.tWg Wg C n lt b5 Fin) bj .anch c j 0 bM R A g:=by
 obtain⟨f1,aK⟩:∃f1,f1=f+602:=⟨_,rfl⟩;refine mn (f:=f1+1+200+1) aW (by omega) h λg2 ab=>yw (f:=f1+1+200) aW (.inl rfl) (by omega) ab λg3 al=>mn (f:=f1+1) aW (by omega) al λg4 aJ=>?_;obtain⟨c9,gl⟩:=uV L.tWg Wg;refine⟨(aJ c9 gl).1,aW,.inr (.inr (.inr (.inl ⟨rfl,ah,λw v ai hw=>?_⟩)))⟩;obtain⟨g',aN,ms,Ca,aI⟩:=(aJ w ⟨_,_,hw⟩).2 v (by omega) hw;refine⟨g',aN,?_⟩;rcases Ca with rfl|rfl
 ·exact Pe aW (by omega) aq aI
 ·exact mn (f:=f+402) aW (by omega) aI λg5 bm=>yw (f:=f+401) aW (.inr (.inr (.inl rfl))) (by omega) bm λg6 bI=>Pe aW (by omega) aq bI
theorem Qo(aW:fL bM A){iO:Goroutine->World->Prop}(iJ:∀g,jb P L.tWg Wg iO g->Fin j bM A g){c bj:Nat}(hle:402<=bj){g:Goroutine}(h:jb P L.tWg Wg (yS P L.tWg Wg [.enable,.acquire (stA Wg)] iO) g):(dn P L.tWg Wg C n lt b5 Fin) bj .w4 c j 1 bM R A g:=by
 refine mn (f:=202) aW hle h λg2 ab=>yw (f:=201) aW (.inr (.inl rfl)) (by omega) ab λg3 al=>mn (f:=1) aW (by omega) al λg4 aJ=>?_;obtain⟨c9,gl⟩:=uV L.tWg Wg;refine⟨(aJ c9 gl).1,aW,.inr (.inr (.inr (.inr (.inr (.inr (.inr (.inr (.inr ⟨rfl,rfl,λw hw=>?_⟩))))))))⟩;obtain⟨_,g',aN,aI⟩:=aJ w hw;exact⟨g',aN,iJ g' aI⟩
theorem Qp(aW:fL bM A){iO:Goroutine->World->Prop}(iJ:∀g,jb P L.tWg Wg iO g->Fin j bM A g){c bj:Nat}(hle:604<=bj){g:Goroutine}(aJ:∀w,WgLive L.tWg Wg w->T6 P L.tWg Wg iO g w):(dn P L.tWg Wg C n lt b5 Fin) bj .w3 c j 1 bM R A g:=by
 obtain⟨c9,gl⟩:=uV L.tWg Wg;obtain⟨f1,rfl⟩:∃f1,bj=f1+1:=⟨bj-1,by omega⟩;refine⟨(aJ c9 gl).1,aW,.inr (.inr (.inr (.inr (.inr (.inr (.inr (.inl ⟨rfl,(aJ c9 gl).2.1,λw=>⟨λ⟨st,hw⟩=>(aJ w ⟨_,_,hw⟩).2.2.1 ⟨st,hw⟩,λhw=>?_⟩⟩)))))))⟩;obtain⟨g',aN,aI⟩:=(aJ w ⟨_,_,hw⟩).2.2.2 hw;obtain⟨f2,aO⟩:∃f2,f2=402:=⟨_,rfl⟩;refine⟨g',aN,mn (f:=f2+1) aW (by omega) aI λg5 bm=>⟨(bm c9 gl).1,aW,.inr (.inr (.inr (.inr (.inr (.inr (.inr (.inr (.inl ⟨rfl,λw2 kW=>?_⟩))))))))⟩⟩;obtain⟨g6,ahO,ahP⟩:=(bm w2 ⟨_,_,kW⟩).2 kW;exact⟨g6,ahO,Qo aW iJ (by omega) ahP⟩
theorem aak(H:WgLib P L)(aW:fL bM A)(iJ:∀g,jb P L.tWg Wg (λg _=>g=G (nz.at (nA.put ((jV[nB]?).bind (·.dst)) (.tuple #[])) (.inRegion jV m1::nC)) cs) g->Fin j bM A g):∀(c:Nat),c<2147483646->∀(bj:Nat),(c+1)*2000<=bj->∀g w,Be L Wg (nz.at nA (.inRegion jV (nB::m1)::nC)) cs g w->(dn P L.tWg Wg C n lt b5 Fin) bj .anch c j 1 bM R A g:=by
 intro c;induction c using Nat.strongRecOn with
 |_ c az=>
  intro ah bj aQ g w au;obtain⟨c9,gl⟩:=uV L.tWg Wg;obtain⟨f1,aK⟩:∃f1,f1=c*2000+1700:=⟨_,rfl⟩;refine mn (f:=f1+1) aW (by omega) (Xz H au) λg2 ab=>?_;refine⟨(ab c9 gl).1,aW,.inr (.inr (.inr (.inr (.inr (.inl ⟨rfl,λw v ai hw=>?_⟩)))))⟩;obtain⟨g',aN,k1,bf⟩:=(ab w ⟨_,_,hw⟩).2 v (by omega) hw;refine⟨g',aN,λe=>Qo aW iJ (by omega) (k1 e),λe=>?_⟩;obtain⟨f2,aO⟩:∃f2,f2=c*2000+1400:=⟨_,rfl⟩;refine mn (f:=f2+1) aW (by omega) (bf e) λg3 al=>?_;refine⟨(al c9 gl).1,aW,.inr (.inr (.inr (.inr (.inr (.inr (.inl ⟨v,e,rfl,λw2 v2 gm kW=>?_⟩))))))⟩;obtain⟨CO,hF⟩:=(al w2 ⟨_,_,kW⟩).2 v2 (by omega) kW;refine⟨λaO=>?_,λaO=>?_⟩
  ·obtain⟨g4,K7,ms,Ca,aI⟩:=CO aO;refine⟨g4,K7,?_⟩;rcases Ca with rfl|rfl
   ·exact mn (f:=604) aW (by omega) aI λg5 bm=>Qp aW iJ (by omega) bm
   ·exact mn (f:=805) aW (by omega) aI λg5 bm=>yw (f:=804) aW (.inr (.inr (.inr rfl))) (by omega) bm λg6 bI=>mn (f:=604) aW (by omega) bI λg7 cS=>Qp aW iJ (by omega) cS
  ·obtain⟨g4,K7,aI⟩:=hF aO;have aU:v2<c:=by omega
   obtain⟨f3,bS⟩:∃f3,f3=(v2+1)*2000:=⟨_,rfl⟩;exact⟨g4,K7,mn (f:=f3) aW (by omega) aI λg5 bm=>az v2 aU (by omega) f3 (Nat.le_of_eq bS.symm) g5 c9 (bm c9 gl)⟩
theorem aal(H:WgLib P L)(aW:fL bM A)(iJ:∀g,jb P L.tWg Wg (λg _=>g=G (nz.at (nA.put ((jV[nB]?).bind (·.dst)) (.tuple #[])) (.inRegion jV m1::nC)) cs) g->Fin j bM A g)(ah:c<2147483646){bj:Nat}(hle:(c+1)*2000+401<=bj){g:Goroutine}
  (h:jb P L.tWg Wg (wT P L.tWg Wg .disable (Be L Wg (nz.at nA (.inRegion jV (nB::m1)::nC)) cs)) g):(dn P L.tWg Wg C n lt b5 Fin) bj .anch c j 0 bM R A g:=by
 obtain⟨c9,gl⟩:=uV L.tWg Wg;obtain⟨f1,aK⟩:∃f1,f1=(c+1)*2000:=⟨_,rfl⟩;exact mn (f:=f1+201) aW (by omega) h λg2 ab=>yw (f:=f1+200) aW (.inl rfl) (by omega) ab λg3 al=>mn (f:=f1) aW (by omega) al λg4 aJ=>aak H aW iJ c ah f1 (Nat.le_of_eq aK.symm) g4 c9 (aJ c9 gl)
end
end
end
section
open Go Go.Conc Go.ConcN Go.RowKit Go.Conc.Lib Go.ConcR.Gen Go.ConcN.Gen
open Go.ConcR (KK wgBlock WgAt stA smA rd wr mk DC0 Payload)
section
variable[Payload]{P:Program}{ty:TypeId}{Wg C n:Nat}{σ:Type}{lt:σ->σ->Prop}{b5:Nat->σ->(Nat->Prop)->(Nat->Prop)->Goroutine->World->Prop}{Fin:Nat->(Nat->Prop)->(World->Prop)->Goroutine->Prop}
 {tag:CTag} {c j d R:Nat} {bM:Nat->Prop} {A:World->Prop} {g g1:Goroutine}
theorem fE(aW:fL bM A){f:Nat}(aQ:0<f)(ad:g.status=.running)(ao:∀w,stepG P true g w=.go g1 w #[])(aq:(dn P ty Wg C n lt b5 Fin) (f-1) tag c j d bM R A g1):(dn P ty Wg C n lt b5 Fin) f tag c j d bM R A g:=by
 obtain⟨f,rfl⟩:∃f1,f=f1+1:=⟨f-1,by omega⟩;exact⟨ad,aW,.inr (.inl λw _=>⟨g1,ao w,aq⟩)⟩
theorem qU(aW:fL bM A){f:Nat}(v:Value){ops:Array Oper}{i:Nat}{rest:List Nat}{o:Oper}{b:Frame}{a:Act}{k:List Item}{cs:List Frame}(aQ:0<f)(ar:ops[i]?=some o)(hw:Region.wanted o (yielded ops a.tmps)=true)(aq:b.kind≠.early)
  (ad:∀w,(execOp a.eval o).run P w=.ok (.value v) w) (he:∀w,(execOp a.eval o).events P w #[]=#[]) (h:(dn P ty Wg C n lt b5 Fin) (f-1) tag c j d bM R A (G (b.at (a.put o.dst v) (.inRegion ops rest::k)) cs)):(dn P ty Wg C n lt b5 Fin) f tag c j d bM R A (G (b.at a (.inRegion ops (i::rest)::k)) cs):=
 fE aW aQ rfl (λw=>by rw[stepG_value ar hw aq (ad w)];unfold listed;rw[he w,seen_none]) h
theorem Qq(aW:fL bM A){f:Nat}(aQ:0<f)(ad:g.status=.running)(h:∀w,A w->(∀b,bM b->b<w.heap.size)->R<=w.heap.size->∃g' w' es iQ,stepG P true g w=.go g' w' es/\B9 bM R w w' es/\iQ w'/\(dn P ty Wg C n lt b5 Fin) (f-1) .anch c j 0 (λb=>bM b\/(w.heap.size<=b/\b<w'.heap.size)) R iQ g'):(dn P ty Wg C n lt b5 Fin) f .anch c j 0 bM R A g:=by
 obtain⟨f,rfl⟩:∃f1,f=f1+1:=⟨f-1,by omega⟩;exact⟨ad,aW,.inl ⟨rfl,h⟩⟩
theorem YT(aW:fL bM A){f:Nat}(d:Deferred){ahQ:Fn}{ajl:Array Value}{ops:Array Oper}{i:Nat}{rest:List Nat}{o:Oper}{b:Frame}{a:Act}{k:List Item}{cs:List Frame}(aQ:0<f)(ar:ops[i]?=some o)(hw:Region.wanted o (yielded ops a.tmps)=true)(aq:b.kind≠.early)
  (ad:∀w,(execOp a.eval o).run P w=.ok (.spawn d) w) (he:∀w,(execOp a.eval o).events P w #[]=#[]) (aV:d.target=.fn ahQ ajl) (aC:j<n)
  (fM:∀w,A w->PayAt C n w->WgLive ty Wg w->(∀b,bM b->b<w.heap.size)->∃s,b5 j s (λ_=>False) bM (born P d) w/\Acc lt s)
  (h:∀R,(dn P ty Wg C n lt b5 Fin) (f-1) .anch c (j+1) 0 bM R A (G (b.at (a.put o.dst undef) (.inRegion ops rest::k)) cs)):(dn P ty Wg C n lt b5 Fin) f (.sp 0 3) c j 0 bM R A (G (b.at a (.inRegion ops (i::rest)::k)) cs):=by
 obtain⟨f,rfl⟩:∃f1,f=f1+1:=⟨f-1,by omega⟩;refine⟨rfl,aW,.inr (.inr (.inr (.inr (.inl ⟨rfl,rfl,aC,λw qq ry qd h8=>?_⟩))))⟩;obtain⟨s,U,ab⟩:=fM w qq ry qd h8;exact⟨_,_,s,by rw[stepG_spawn ar hw aq (ad w) aV];unfold listed;rw[he w,Go.Conc.seen_none],U,ab,h _⟩
theorem Pf(aW:fL bM A){f:Nat}(aQ:0<f)(ad:g.status=.running)(h:∀w,A w->(∀b,bM b->b<w.heap.size)->R<=w.heap.size->∃g' w' es iQ,stepG P true g w=.go g' w' es/\w'.heap.size=w.heap.size/\B9 bM R w w' es/\iQ w'/\(dn P ty Wg C n lt b5 Fin) (f-1) .anch c j 0 bM R iQ g'):(dn P ty Wg C n lt b5 Fin) f .anch c j 0 bM R A g:=
 Qq aW aQ ad λw U ab al=>by
  obtain⟨g',w',es,iQ,k1,bf,bP,cX,fi⟩:=h w U ab al;refine⟨g',w',es,iQ,k1,bP,cX,?_⟩;have e:(λb=>bM b\/(w.heap.size<=b/\b<w'.heap.size))=bM:=funext λb=>propext ⟨λh=>h.resolve_right (by omega),.inl⟩;rw[e];exact fi
theorem MS{P:Program}{main:Bool}{b:Frame}{a:Act}{k:List Item}{cs:List Frame}{w:World}{ops:Array Oper}{i:Nat}{rest:List Nat}{o:Oper}{f:FuncId}{fn:Func}{c:Code}{args:Array Operand}{ahR:Array TypeId}
  (ar:ops[i]?=some o) (hw:Region.wanted o (yielded ops a.tmps)=true) (aq:b.kind≠.early) (aE:o.op=.call { callee:=.value (.func f),args,argTypes:=ahR })
  (aQ:P.funcs[f]?=some fn) (hs:(fn.name == "runtime.NumGoroutine")=false) (hb:fn.body=some c):
  stepG P main (G (b.at a (.inRegion ops (i::rest)::k)) cs) w=.go (G ((base f).at { tmps:=args.map a.eval++Array.replicate (fn.ntmps-(args.map a.eval).size) undef,defers:=[] } [.code c]) (b.at a (.inRegion ops (i::rest)::k)::cs)) w #[]:=by
 have dB:fn.body.isNone=false:=by rw[hb];rfl
 rw[stepG_enter ar hw aq (run_call_body aE aQ hs dB),enter_at _ aQ hb];have:listed P b.fn a o w=#[]:=by unfold listed;rw[events_call_body aE aQ hs dB];exact Go.Conc.seen_none P _
 rw[this]
end
theorem Ej(T:Array Value)(h:T.size=34):∃v0 v1 v2 v3 v4 v5 v6 so sq v9 v10 v11 v12 rS tB tC vs rT rU rV v20 v21 v22 rY v24 r1 r3 r4 v28 r6 v30 v31 r8 r9:Value,T=#[v0,v1,v2,v3,v4,v5,v6,so,sq,v9,v10,v11,v12,rS,tB,tC,vs,rT,rU,rV,v20,v21,v22,rY,v24,r1,r3,r4,v28,r6,v30,v31,r8,r9]:=by
 obtain⟨l⟩:=T;simp only[List.size_toArray]at h;rcases l with _|⟨v0,l⟩
 ·simp at h
 rcases l with _|⟨v1,l⟩
 ·simp at h
 rcases l with _|⟨v2,l⟩
 ·simp at h
 rcases l with _|⟨v3,l⟩
 ·simp at h
 rcases l with _|⟨v4,l⟩
 ·simp at h
 rcases l with _|⟨v5,l⟩
 ·simp at h
 rcases l with _|⟨v6,l⟩
 ·simp at h
 rcases l with _|⟨so,l⟩
 ·simp at h
 rcases l with _|⟨sq,l⟩
 ·simp at h
 rcases l with _|⟨v9,l⟩
 ·simp at h
 rcases l with _|⟨v10,l⟩
 ·simp at h
 rcases l with _|⟨v11,l⟩
 ·simp at h
 rcases l with _|⟨v12,l⟩
 ·simp at h
 rcases l with _|⟨rS,l⟩
 ·simp at h
 rcases l with _|⟨tB,l⟩
 ·simp at h
 rcases l with _|⟨tC,l⟩
 ·simp at h
 rcases l with _|⟨vs,l⟩
 ·simp at h
 rcases l with _|⟨rT,l⟩
 ·simp at h
 rcases l with _|⟨rU,l⟩
 ·simp at h
 rcases l with _|⟨rV,l⟩
 ·simp at h
 rcases l with _|⟨v20,l⟩
 ·simp at h
 rcases l with _|⟨v21,l⟩
 ·simp at h
 rcases l with _|⟨v22,l⟩
 ·simp at h
 rcases l with _|⟨rY,l⟩
 ·simp at h
 rcases l with _|⟨v24,l⟩
 ·simp at h
 rcases l with _|⟨r1,l⟩
 ·simp at h
 rcases l with _|⟨r3,l⟩
 ·simp at h
 rcases l with _|⟨r4,l⟩
 ·simp at h
 rcases l with _|⟨v28,l⟩
 ·simp at h
 rcases l with _|⟨r6,l⟩
 ·simp at h
 rcases l with _|⟨v30,l⟩
 ·simp at h
 rcases l with _|⟨v31,l⟩
 ·simp at h
 rcases l with _|⟨r8,l⟩
 ·simp at h
 rcases l with _|⟨r9,l⟩
 ·simp at h
 rcases l with _|⟨x,l⟩
 ·exact⟨v0,v1,v2,v3,v4,v5,v6,so,sq,v9,v10,v11,v12,rS,tB,tC,vs,rT,rU,rV,v20,v21,v22,rY,v24,r1,r3,r4,v28,r6,v30,v31,r8,r9,rfl⟩
 ·simp at h
noncomputable def Fq:Code:=match sb with | .seq _ (.seq _ (.seq _ (.seq (.seq _ (.block _ (.loop c))) _)))=>c|_=>.skip
noncomputable def Bz:Code:=match sb with | .seq _ (.seq _ (.seq _ c))=>c|_=>.skip
noncomputable def xd:Array Oper:=match sb with | .seq _ (.seq _ (.seq (.region _ ops _) _))=>ops|_=>#[]
noncomputable def Fs:Array Oper:=match B3 with | .seq (.region _ ops _) _=>ops|_=>#[]
noncomputable def wG(T:Array Value)(us:List Frame):Goroutine:=G ((base 58).at ⟨T,[]⟩ [.code Fq,.inLoop Fq,.inBlock 0,.code B3]) us
noncomputable def wW(T:Array Value)(us:List Frame):Goroutine:=G ((base 58).at ⟨T,[]⟩ (.inRegion xd []::[.code Bz])) us
noncomputable def A3(T:Array Value)(us:List Frame):Goroutine:=G ((base 58).at ((⟨T,[]⟩:Act).put ((Fs[0]?).bind (·.dst)) (.tuple #[])) (.inRegion Fs []::[.code l2])) us
theorem adA:(Tryz.prog.funcs[58]?).any (·.norace)=false:=by kernel_rfl
theorem St{b:Frame}(h:b.fn=58):(Tryz.prog.funcs[b.fn]?).any (·.norace)=false:=by rw[h];exact adA
section
variable{Wg C n:Nat}{ty:TypeId}{σ:Type}{lt:σ->σ->Prop}{b5:Nat->σ->(Nat->Prop)->(Nat->Prop)->Goroutine->World->Prop}{Fin:Nat->(Nat->Prop)->(World->Prop)->Goroutine->Prop}
 {c j R f:Nat} {bM:Nat->Prop} {A:World->Prop} {ops:Array Oper} {i:Nat} {rest:List Nat} {o:Oper} {b:Frame} {a:Act} {k:List Item} {cs:List Frame}
theorem XE(aW:fL bM A)(aQ:0<f)(ar:ops[i]?=some o)(hw:Region.wanted o (yielded ops a.tmps)=true)(aq:b.kind≠.early)(aE:o.op=.alloc 3)
  (h:∀dw,¬bM dw->R<=dw->(dn Tryz.prog ty Wg C n lt b5 Fin) (f-1) .anch c j 0 (λb=>bM b\/b=dw) R (λw=>A w/\w.heap[dw]?=some (.cells #[.int .i64 0] 3)) (G (b.at (a.put o.dst (.pointer (some ⟨dw,0,none⟩))) (.inRegion ops rest::k)) cs)):(dn Tryz.prog ty Wg C n lt b5 Fin) f .anch c j 0 bM R A (G (b.at a (.inRegion ops (i::rest)::k)) cs):=by
 refine Qq aW aQ rfl λw gl h8 cn=>?_;have ad:(execOp a.eval o).run Tryz.prog w=.ok (.value (.pointer (some ⟨w.heap.size,0,none⟩))) (w.alloc (.cells #[.int .i64 0] 3)):=by
  unfold execOp;simp only[aE];simp[go_sem]
 have he:(execOp a.eval o).events Tryz.prog w #[]=#[]:=by
  unfold execOp;simp only[aE];simp[go_sem]
 have ao:(w.alloc (.cells #[.int .i64 0] 3)).heap.size=w.heap.size+1:=by simp
 refine⟨G (b.at (a.put o.dst (.pointer (some ⟨w.heap.size,0,none⟩))) (.inRegion ops rest::k)) cs,w.alloc (.cells #[.int .i64 0] 3),#[],λw1=>A w1/\w1.heap[w.heap.size]?=some (.cells #[.int .i64 0] 3),by rw[stepG_value ar hw aq ad];unfold listed;rw[he,Go.Conc.seen_none],⟨rfl,rfl,by omega,λb hb _=>Below.heap_alloc _ _ _ hb,λe he=>by simp at he⟩,⟨aW w _ gl (by omega) λb hb=>Below.heap_alloc _ _ _ (h8 b hb),heap_alloc_new w _⟩,?_⟩;have e:(λb=>bM b\/(w.heap.size<=b/\b<(w.alloc (.cells #[.int .i64 0] 3)).heap.size))=λb=>bM b\/b=w.heap.size:=funext λb=>propext (or_congr Iff.rfl (by rw[ao];omega));rw[e];exact h _ (λx=>Nat.lt_irrefl _ (h8 _ x)) cn
theorem XF(aW:fL bM A)(aQ:0<f)(ar:ops[i]?=some o)(hw:Region.wanted o (yielded ops a.tmps)=true)(aq:b.kind≠.early)(dX:b.fn=58){x:Operand}(aE:o.op=.load 25 x){hb:Nat}{v:Value}(aj:a.eval x=.pointer (some ⟨hb,1,none⟩))(eP:bM hb)(ai:∀w,A w->w.cell? ⟨hb,1,none⟩=some v)
  (h:(dn Tryz.prog ty Wg C n lt b5 Fin) (f-1) .anch c j 0 bM R A (G (b.at (a.put o.dst v) (.inRegion ops rest::k)) cs)):(dn Tryz.prog ty Wg C n lt b5 Fin) f .anch c j 0 bM R A (G (b.at a (.inRegion ops (i::rest)::k)) cs):=by
 refine Pf aW aQ rfl λw gl h8 _=>?_;have ah:=ai w gl;have ad:(execOp a.eval o).run Tryz.prog w=.ok (.value v) w:=by
  unfold execOp;simp only[aE,aj];simp[go_sem,ah]
 have he:(execOp a.eval o).events Tryz.prog w #[]=#[⟨.cell ⟨hb,1,none⟩,false,false⟩]:=by
  unfold execOp;simp only[aE,aj];simp[go_sem,ah]
 refine⟨G (b.at (a.put o.dst v) (.inRegion ops rest::k)) cs,w,#[⟨.cell ⟨hb,1,none⟩,false,false⟩],A,by rw[stepG_value ar hw aq ad];unfold listed;rw[he,seen_eq (St dX) (by simp)],rfl,⟨rfl,rfl,Nat.le_refl _,λ_ _ _=>rfl,λe he=>?_⟩,gl,h⟩;rw[Array.mem_singleton]at he;subst he;exact .rd (.inr eP)
theorem AB{bM:Nat->Prop}{A:World->Prop}(aW:fL bM A)(dw:Nat)(x:Obj):fL (λb=>bM b\/b=dw) (λw=>A w/\w.heap[dw]?=some x):=λw w1 h ao hb=>⟨aW w w1 h.1 ao λb aq=>hb b (.inl aq),(hb dw (.inr rfl)).trans h.2⟩
theorem XG(aW:fL bM A)(aQ:0<f)(ar:ops[i]?=some o)(hw:Region.wanted o (yielded ops a.tmps)=true)(aq:b.kind≠.early)(dX:b.fn=58){x y:Operand}(aE:o.op=.store 3 x y){dw:Nat}{v:Int}{u:Value}(aj:a.eval x=.pointer (some ⟨dw,0,none⟩))(aF:a.eval y=.int .i64 v)(aI:¬bM dw)(cn:R<=dw)
  (h:(dn Tryz.prog ty Wg C n lt b5 Fin) (f-1) .anch c j 0 (λb=>bM b\/b=dw) R (λw=>A w/\w.heap[dw]?=some (.cells #[.int .i64 v] 3)) (G (b.at (a.put o.dst undef) (.inRegion ops rest::k)) cs)):(dn Tryz.prog ty Wg C n lt b5 Fin) f .anch c j 0 (λb=>bM b\/b=dw) R (λw=>A w/\w.heap[dw]?=some (.cells #[u] 3)) (G (b.at a (.inRegion ops (i::rest)::k)) cs):=by
 refine Pf (AB aW dw _) aQ rfl λw gl h8 _=>?_;have ah:w.cell? ⟨dw,0,none⟩=some u:=by simp[World.cell?,gl.2]
 have bO:w.frozen? ⟨dw,0,none⟩=false:=by simp[World.frozen?,gl.2]
 have ad:(execOp a.eval o).run Tryz.prog w=.ok .skip (w.setCell ⟨dw,0,none⟩ (.int .i64 v)):=by
  unfold execOp;simp only[aE,aj,aF];simp[go_sem,stored,ah,bO]
 have he:(execOp a.eval o).events Tryz.prog w #[]=#[⟨.cell ⟨dw,0,none⟩,true,false⟩]:=by
  unfold execOp;simp only[aE,aj,aF];simp[go_sem,storedEv,ah,bO]
 have xE:=aside_setCell w ⟨dw,0,none⟩ (.int .i64 v);refine⟨G (b.at (a.put o.dst undef) (.inRegion ops rest::k)) cs,w.setCell ⟨dw,0,none⟩ (.int .i64 v),#[⟨.cell ⟨dw,0,none⟩,true,false⟩],λw1=>A w1/\w1.heap[dw]?=some (.cells #[.int .i64 v] 3),by rw[stepG_none ar hw aq ad];unfold listed;rw[he,seen_eq (St dX) (by simp)],xE.size,⟨xE.os,xE.output,Nat.le_of_eq xE.size.symm,λb _ hb=>xE.block b (λe=>hb (by subst e;exact⟨.inr rfl,cn⟩)),λe he=>?_⟩,⟨aW w _ gl.1 (Nat.le_of_eq xE.size.symm) λb hb=>xE.block b (λe=>aI (by have e':b=dw:=e;rw[←e'];exact hb)),?_⟩,h⟩
 ·rw[Array.mem_singleton]at he;subst he;exact .wr (.inl ⟨.inr rfl,cn⟩)
 ·simp[World.setCell,Array.getElem?_modify,gl.2]
end
section
variable{Wg C n:Nat}{bit:Nat->Bool}{hb pb au pa:Value}{us:List Frame}{oi:Nat->Prop}{hG:World->Prop}
def tY(v:Value):Prop:=((∀c,v≠.agg c)/\(∀c,v≠.tuple c)/\(v≠.pointer none/\v≠.nilIface/\v≠.nilFunc)/\(∀n a b,v≠.func (.method n) a b)/\(∀b,v≠.bool b))\/v=undef
theorem A4{k:IntKind}{i:Int}:tY (.int k i):=.inl (by simp)
theorem sL{a:Addr}:tY (.pointer (some a)):=.inl (by simp)
theorem aez{f:FuncId}{a b:Array Value}:tY (.func (.func f) a b):=.inl (by simp)
theorem Su{a:Option Addr}{n m:Nat}:tY (.slice a n m):=.inl (by simp)
theorem Ic:tY (.tuple #[]):=.inr rfl
structure nD(au pa:Value)(T:Array Value):Prop where
 sz:T.size=34
 t0:T[0]?=some au
 t1:T[1]?=some pa
 gU:∀k v,T[k]?=some v->2<=k->k≠16->tY v
theorem nD.set{au pa:Value}{T:Array Value}(h:nD au pa T)(k:Nat)(aq:2<=k){v:Value}(ai:k=16\/tY v):nD au pa (T.setIfInBounds k v):=by
 refine⟨by simpa using h.sz,by rw[Array.getElem?_setIfInBounds_ne (by omega)];exact h.t0,by rw[Array.getElem?_setIfInBounds_ne (by omega)];exact h.t1,λi x hi ab Uf=>?_⟩;by_cases e:k=i
 ·subst e;rw[Array.getElem?_setIfInBounds]at hi;simp only[if_true]at hi;split at hi
  ·cases hi;exact ai.resolve_left Uf
  ·cases hi
 ·rw[Array.getElem?_setIfInBounds_ne e]at hi;exact h.gU i x hi ab Uf
def wX(Wg C n:Nat)(au pa:Value)(us:List Frame)(oi:Nat->Prop)(hG:World->Prop)(j:Nat)(bM:Nat->Prop)(A:World->Prop)(g:Goroutine):Prop:=
 j=n/\(∀b,oi b->bM b)/\(∀w,A w->hG w)/\∃T:Array Value,nD au pa T/\T[5]?=some (e6 C)/\T[16]?=some (.bool false)/\jb Tryz.prog Tryz.link.tWg Wg (λg _=>g=A3 T us) g
set_option maxRecDepth 100000 in
set_option maxHeartbeats 4000000 in
theorem aam{c:Nat}(ah:c<2147483646){bM:Nat->Prop}{R:Nat}{A:World->Prop}(aW:fL bM A)(qq:∀w,A w->hG w)(eP:∀b,oi b->bM b){f:Nat}(aQ:(c+1)*2000+1000<=f)(aI:n<=4){T:Array Value}
  (ek:nD au pa T) (t5:T[5]?=some (e6 C)) (t6:T[6]?=some (e6 Wg)) (t14:T[14]?=some (.int .i64 (n:Int))) (t15:T[15]?=some (.int .i64 (n:Int))):(dn Tryz.prog Tryz.link.tWg Wg C 4 oR (ku Wg C bit) (wX Wg C n au pa us oi hG)) f .anch c n 0 bM R A (wG T us):=by
 obtain⟨v0,v1,v2,v3,v4,v5,v6,so,sq,v9,v10,v11,v12,rS,tB,tC,vs,rT,rU,rV,v20,v21,v22,rY,v24,r1,r3,r4,v28,r6,v30,v31,r8,r9,rfl⟩:=Ej T ek.sz;simp only[List.getElem?_toArray,List.getElem?_cons_succ,List.getElem?_cons_zero,Option.some.injEq]at t5 t6 t14 t15;subst t5 t6 t14 t15;simp only[wG,Fq,B3,sb,Tryz.f58,Option.getD_some];have aU:¬(n:Int)<(n:Int):=by omega
 have aK:decide ((n:Int)<(n:Int))=false:=decide_eq_false aU;refine fE aW (by omega) rfl (λw=>stepG_seq) ?_;refine fE aW (by omega) rfl (λw=>stepG_region) ?_;simp only[List.size_toArray,List.length_cons,List.length_nil,Nat.reduceAdd,Nat.zero_add,List.range,List.range.loop];refine qU aW (.bool false) (by omega) rfl rfl (by decide) (λw=>by go_simp) (λw=>by simp[go_sem, *]) ?_
 walk_nrm
 refine fE aW (by omega) rfl (λw=>stepG_region_end) ?_;refine fE aW (by omega) rfl (λw=>stepG_seq) ?_;refine fE aW (by omega) rfl (λw=>stepG_cond (t:=false) rfl) ?_;simp only[Bool.false_eq_true,if_false];refine fE aW (by omega) rfl (λw=>stepG_exit rfl) ?_;refine fE aW (by omega) rfl (λw=>stepG_seq) ?_;refine fE aW (by omega) rfl (λw=>stepG_region) ?_;simp only[List.size_toArray,List.length_cons,List.length_nil,Nat.reduceAdd,Nat.zero_add,List.range,List.range.loop];have H:=Tryz.JG;refine fE aW (by omega) rfl (λw=>MS rfl rfl (by decide) rfl H.f_wait (nm_wait Tryz.link) (c:=body_wait Tryz.link) rfl) ?_
 walk_nrmf waitFn
 exact aal (nz:=base 58) (nA:=⟨#[v0,v1,v2,v3,v4,e6 C,e6 Wg,so,sq,v9,v10,v11,v12,rS,.int .i64 (n:Int),.int .i64 (n:Int),.bool false,rT,rU,rV,v20,v21,v22,rY,v24,r1,r3,r4,v28,r6,v30,v31,r8,r9],[]⟩) (jV:=Fs) (nB:=0) (m1:=[]) (nC:=[.code l2]) (cs:=us) H aW (λg aN=>⟨rfl,eP,qq,_,by exact ek.set 16 (by decide) (.inl rfl),rfl,rfl,aN⟩) ah (by omega) (Xy H)
set_option maxRecDepth 100000 in
set_option maxHeartbeats 4000000 in
theorem YU(aI:n<=4)(fM:∀(bM:Nat->Prop) (j dw:Nat) (w:World),j<n->hG w->(∀b,oi b->bM b)->bM dw->(∀b,bM b->b<w.heap.size)->w.heap[dw]?=some (.cells #[.int .i64 (j:Int)] 3) ->
   ∃s,ku Wg C bit j s (λ_=>False) bM (born Tryz.prog (call103 Wg C hb (.pointer (some ⟨dw,0,none⟩)) pb)) w/\Acc oR s){j:Nat}(aC:j<n){F f:Nat}(aQ:F+2000<=f)
  (az:∀(bM:Nat->Prop)(R:Nat)(A:World->Prop)(T:Array Value),fL bM A->(∀w,A w->hG w)->(∀b,oi b->bM b)->nD au pa T->T[2]?=some hb->T[3]?=some pb->T[5]?=some (e6 C)->T[6]?=some (e6 Wg)->T[14]?=some (.int .i64 (n:Int))->T[15]?=some (.int .i64 ((j+1:Nat):Int))->(dn Tryz.prog Tryz.link.tWg Wg C 4 oR (ku Wg C bit) (wX Wg C n au pa us oi hG)) F .anch (j+1) (j+1) 0 bM R A (wG T us))
  {bM:Nat->Prop} {R:Nat} {A:World->Prop} (aW:fL bM A) (qq:∀w,A w->hG w) (eP:∀b,oi b->bM b) {T:Array Value}
  (ek:nD au pa T) (t2:T[2]?=some hb) (t3:T[3]?=some pb) (t5:T[5]?=some (e6 C)) (t6:T[6]?=some (e6 Wg)) (t14:T[14]?=some (.int .i64 (n:Int))) (t15:T[15]?=some (.int .i64 (j:Int))):(dn Tryz.prog Tryz.link.tWg Wg C 4 oR (ku Wg C bit) (wX Wg C n au pa us oi hG)) f .anch j j 0 bM R A (wG T us):=by
 obtain⟨v0,v1,v2,v3,v4,v5,v6,so,sq,v9,v10,v11,v12,rS,tB,tC,vs,rT,rU,rV,v20,v21,v22,rY,v24,r1,r3,r4,v28,r6,v30,v31,r8,r9,rfl⟩:=Ej T ek.sz;simp only[List.getElem?_toArray,List.getElem?_cons_succ,List.getElem?_cons_zero,Option.some.injEq]at t2 t3 t5 t6 t14 t15;subst t2 t3 t5 t6 t14 t15;simp only[wG,Fq,B3,sb,Tryz.f58,Option.getD_some];have aU:(j:Int)<(n:Int):=by omega
 have ajm:IntKind.wrap .i64 ((j:Int)+1)=((j+1:Nat):Int):=by rw[IntKind.wrap_i64];omega
 refine fE aW (by omega) rfl (λw=>stepG_seq) ?_;refine fE aW (by omega) rfl (λw=>stepG_region) ?_;simp only[List.size_toArray,List.length_cons,List.length_nil,Nat.reduceAdd,Nat.zero_add,List.range,List.range.loop];refine qU aW (.bool true) (by omega) rfl rfl (by decide) (λw=>by go_simp) (λw=>by simp[go_sem, *]) ?_
 walk_nrm
 refine fE aW (by omega) rfl (λw=>stepG_region_end) ?_;refine fE aW (by omega) rfl (λw=>stepG_seq) ?_;refine fE aW (by omega) rfl (λw=>stepG_cond (t:=true) rfl) ?_;simp only[if_true];refine fE aW (by omega) rfl (λw=>stepG_skip) ?_;refine fE aW (by omega) rfl (λw=>stepG_seq) ?_;refine fE aW (by omega) rfl (λw=>stepG_block) ?_;refine fE aW (by omega) rfl (λw=>stepG_seq) ?_;refine fE aW (by omega) rfl (λw=>stepG_region) ?_;simp only[List.size_toArray,List.length_cons,List.length_nil,Nat.reduceAdd,Nat.zero_add,List.range,List.range.loop];refine qU aW (.int .i64 (j:Int)) (by omega) rfl rfl (by decide) (λw=>by go_simp) (λw=>by simp[go_sem, *]) ?_
 walk_nrm
 refine XE aW (by omega) rfl rfl (by decide) rfl λdw vx cn=>?_
 walk_nrm
 refine XG (v:=(j:Int)) aW (by omega) rfl rfl (by decide) rfl rfl rfl rfl vx cn ?_
 walk_nrm
 replace aW:=AB aW dw (.cells #[.int .i64 (j:Int)] 3);refine fE aW (by omega) rfl (λw=>stepG_region_end) ?_;refine fE aW (by omega) rfl (λw=>stepG_seq) ?_;refine fE aW (by omega) rfl (λw=>stepG_region) ?_;simp only[List.size_toArray,List.length_cons,List.length_nil,Nat.reduceAdd,Nat.zero_add,List.range,List.range.loop];have H:=Tryz.JG;refine fE aW (by omega) rfl (λw=>MS rfl rfl (by decide) rfl H.f_add (nm_add Tryz.link) (c:=body_add Tryz.link) rfl) ?_
 walk_nrmf addFn
 refine abT (f:=F+100) H aW (by omega) (by omega) ?_ (aac H)
 walk_nrm
 refine fE aW (by omega) rfl (λw=>stepG_region_end) ?_;refine fE aW (by omega) rfl (λw=>stepG_region) ?_;simp only[List.size_toArray,List.length_cons,List.length_nil,Nat.reduceAdd,Nat.zero_add,List.range,List.range.loop];refine qU aW (.func (.func 103) #[] #[e6 Wg,v2,.pointer (some ⟨dw,0,none⟩),v3,e6 C]) (by omega) rfl rfl (by decide) (λw=>by go_simp) (λw=>by simp[go_sem, *]) ?_
 walk_nrm
 refine YT aW (call103 Wg C v2 (.pointer (some ⟨dw,0,none⟩)) v3) (by omega) rfl rfl (by decide) (λw=>by simp[go_sem,call103,Deferred.ofValue]) (λw=>by simp[go_sem,call103,Deferred.ofValue]) rfl (by omega) (λw hw ry qd h8=>fM _ j dw w aC (qq w hw.1) (λb hb=>.inl (eP b hb)) (.inr rfl) h8 hw.2) λR=>?_
 walk_nrm
 refine fE aW (by omega) rfl (λw=>stepG_region_end) ?_;refine fE aW (by omega) rfl (λw=>stepG_inBlock) ?_;refine fE aW (by omega) rfl (λw=>stepG_region) ?_;simp only[List.size_toArray,List.length_cons,List.length_nil,Nat.reduceAdd,Nat.zero_add,List.range,List.range.loop];refine qU aW (.int .i64 (IntKind.wrap .i64 ((j:Int)+1))) (by omega) rfl rfl (by decide) (λw=>by go_simp) (λw=>by simp[go_sem, *]) ?_
 walk_nrm
 simp only[ajm];refine qU aW (.int .i64 ((j+1:Nat):Int)) (by omega) rfl rfl (by decide) (λw=>by go_simp) (λw=>by simp[go_sem, *]) ?_
 walk_nrm
 refine fE aW (by omega) rfl (λw=>stepG_region_end) ?_;refine fE aW (by omega) rfl (λw=>stepG_inLoop) ?_;exact dn.le _ _ _ _ _ _ _ _ (by omega) (az _ _ _ _ aW (λw hw=>qq w hw.1) (λb hb=>.inl (eP b hb)) (by exact((((((ek.set 16 (by decide) (.inl rfl)).set 17 (by decide) (.inr A4)).set 7 (by decide) (.inr sL)).set 18 (by decide) (.inr Ic)).set 19 (by decide) (.inr aez)).set 20 (by decide) (.inr A4)).set 15 (by decide) (.inr A4)) rfl rfl rfl rfl rfl rfl)
theorem aan(aI:n<=4)(fM:∀(bM:Nat->Prop) (j dw:Nat) (w:World),j<n->hG w->(∀b,oi b->bM b)->bM dw->(∀b,bM b->b<w.heap.size)->w.heap[dw]?=some (.cells #[.int .i64 (j:Int)] 3) ->
   ∃s,ku Wg C bit j s (λ_=>False) bM (born Tryz.prog (call103 Wg C hb (.pointer (some ⟨dw,0,none⟩)) pb)) w/\Acc oR s):∀(r j:Nat),j+r=n->∀(bM:Nat->Prop)(R:Nat)(A:World->Prop)(T:Array Value),fL bM A->(∀w,A w->hG w)->(∀b,oi b->bM b)->nD au pa T->T[2]?=some hb->T[3]?=some pb->T[5]?=some (e6 C)->T[6]?=some (e6 Wg)->T[14]?=some (.int .i64 (n:Int))->T[15]?=some (.int .i64 (j:Int)) ->
   (dn Tryz.prog Tryz.link.tWg Wg C 4 oR (ku Wg C bit) (wX Wg C n au pa us oi hG)) (r*2000+11000) .anch j j 0 bM R A (wG T us):=by
 intro r;induction r with
 |zero=>
  intro j aC bM R A T U ab al aJ bm bI cS et gp h7;obtain rfl:j=n:=by omega
  exact aam (by omega) U ab al (by omega) aI aJ cS et gp h7
 |succ r az=>
  intro j aC bM R A T U ab al aJ bm bI cS et gp h7;obtain⟨F,aw⟩:∃F,F=r*2000+11000:=⟨_,rfl⟩;exact YU aI fM (F:=F) (by omega) (by omega) (λbM R A T a b c d e f g h i k=>aw▸az (j+1) (by omega) bM R A T a b c d e f g h i k) U ab al aJ bm bI cS et gp h7
set_option maxRecDepth 100000 in
set_option maxHeartbeats 4000000 in
theorem abU{bM:Nat->Prop}{R:Nat}{A:World->Prop}(aW:fL bM A){hbI F f:Nat}(aQ:F+50<=f)(eP:bM hbI){sa:Option Addr}{cap:Nat}(ai:∀w,A w->w.cell? ⟨hbI,1,none⟩=some (.slice sa n cap))(K8:hb=.pointer (some ⟨hbI,0,none⟩))
  (az:∀T:Array Value,nD au pa T->T[2]?=some hb->T[3]?=some pb->T[5]?=some (e6 C)->T[6]?=some (e6 Wg)->T[14]?=some (.int .i64 (n:Int))->T[15]?=some (.int .i64 ((0:Nat):Int))->(dn Tryz.prog Tryz.link.tWg Wg C 4 oR (ku Wg C bit) (wX Wg C n au pa us oi hG)) F .anch 0 0 0 bM R A (wG T us)) {T:Array Value}
  (ek:nD au pa T) (t2:T[2]?=some hb) (t3:T[3]?=some pb) (t5:T[5]?=some (e6 C)) (t6:T[6]?=some (e6 Wg)):(dn Tryz.prog Tryz.link.tWg Wg C 4 oR (ku Wg C bit) (wX Wg C n au pa us oi hG)) f .anch 0 0 0 bM R A (wW T us):=by
 obtain⟨v0,v1,v2,v3,v4,v5,v6,so,sq,v9,v10,v11,v12,rS,tB,tC,vs,rT,rU,rV,v20,v21,v22,rY,v24,r1,r3,r4,v28,r6,v30,v31,r8,r9,rfl⟩:=Ej T ek.sz;simp only[List.getElem?_toArray,List.getElem?_cons_succ,List.getElem?_cons_zero,Option.some.injEq]at t2 t3 t5 t6;subst K8;subst t2 t3 t5 t6;simp only[wW,Bz,xd,sb,Tryz.f58,Option.getD_some];refine fE aW (by omega) rfl (λw=>stepG_region_end) ?_;refine fE aW (by omega) rfl (λw=>stepG_seq) ?_;refine fE aW (by omega) rfl (λw=>stepG_seq) ?_;refine fE aW (by omega) rfl (λw=>stepG_region) ?_;simp only[List.size_toArray,List.length_cons,List.length_nil,Nat.reduceAdd,Nat.zero_add,List.range,List.range.loop];refine qU aW (.pointer (some ⟨hbI,0,none⟩)) (by omega) rfl rfl (by decide) (λw=>by go_simp) (λw=>by simp[go_sem, *]) ?_
 walk_nrm
 refine qU aW (.pointer (some ⟨hbI,1,none⟩)) (by omega) rfl rfl (by decide) (λw=>by go_simp) (λw=>by simp[go_sem, *]) ?_
 walk_nrm
 refine XF aW (by omega) rfl rfl (by decide) rfl rfl rfl eP ai ?_
 walk_nrm
 refine qU aW (.int .i64 (n:Int)) (by omega) rfl rfl (by decide) (λw=>by go_simp) (λw=>by simp[go_sem, *]) ?_
 walk_nrm
 refine qU aW (.int .i64 0) (by omega) rfl rfl (by decide) (λw=>by go_simp) (λw=>by simp[go_sem, *]) ?_
 walk_nrm
 refine fE aW (by omega) rfl (λw=>stepG_region_end) ?_;refine fE aW (by omega) rfl (λw=>stepG_block) ?_;refine fE aW (by omega) rfl (λw=>stepG_loop) ?_;exact dn.le _ _ _ _ _ _ _ _ (by omega) (az _ (by exact((((ek.set 11 (by decide) (.inr sL)).set 12 (by decide) (.inr sL)).set 13 (by decide) (.inr Su)).set 14 (by decide) (.inr A4)).set 15 (by decide) (.inr A4)) rfl rfl rfl rfl rfl rfl)
end
end
section
open Go Go.Conc
open Go.ConcN (sumTo WgLive)
open Go.ConcR (DC0)
structure l3(P:Program)(S:Nat->Prop)(Wb:World)(g:Goroutine)(gs:Array Goroutine)(w:World)(t:Trace)(q:Nat->Nat):Prop where
 g0:gs[0]?=some g
 ey:Leavers P t gs q
 pa:kM S w.heap.size t
 k4:∀op∈t,op.g<gs.size
 shl:∀b,S b->b<w.heap.size
 db:e7 Wb w
section
variable{P:Program}{S:Nat->Prop}{Wb:World}{g g':Goroutine}{gs:Array Goroutine}{w w':World}{t:Trace}{q:Nat->Nat}{Q:Machine->Outcome->World->Trace->Prop}
theorem l3.step(h:l3 P S Wb g gs w t q){es:Array Event}{B RO:Nat->Prop}(sl:Option (Nat×Nat))(hgo:stepG P true g w=.go g' w' es)(ao:w.heap.size<=w'.heap.size)(fR:∀e∈es,EvB B RO e)(dH:∀b,B b\/RO b->b<w'.heap.size/\¬S b)(vy:e7 Wb w'):
  ∃ed,runT P (crowd gs w sl) 0=(.next (crowd ed w' sl),MemOp.ofEvents 0 g.frame.fn g.frame.place es)/\l3 P S Wb g' ed w' (t++MemOp.ofEvents 0 g.frame.fn g.frame.place es) q:=by
 have aU:0<gs.size:=(Array.getElem?_eq_some_iff.1 h.g0).1;have ej:∀e∈es,ja (⟨λa b=>B b\/RO b,λ_=>False⟩:bA) (λb=>¬B b) e:=λe he=>by
  have aj:=fR e he;cases aj with
  |rd h=>exact .rd (b:=0) h
  |wr h=>exact .wr (b:=0) (.inl h) (λx=>x h)
  |get h=>exact .get (b:=0) h
  |set h=>exact .set (b:=0) (.inl h) (λx=>x h)
  |ext=>exact .ext
  |room=>exact .room
 refine⟨_,runT_crowd_go h.g0 (show stepG P (0==0) g w=_ from hgo),by simp[aU],Leavers.step0 h.ey h.g0,(h.pa.mono ao).own ej (λb hb a bL=>(dH b bL).2 hb) (λa b bL=>(dH b bL).1),λop aE=>?_,λb hb=>Nat.lt_of_lt_of_le (h.shl b hb) ao,vy⟩;simp only[Array.size_setIfInBounds,Array.size_map];rcases Array.mem_append.1 aE with ab|ab
 ·exact h.k4 op ab
 ·obtain⟨e,_,rfl⟩:=Go.Conc.mem_ofEvents ab;exact aU
theorem l3.at(h:l3 P S Wb g gs w t q)(d:Nat):l3 P S Wb g gs (w.at d) t q:=⟨h.g0,h.ey,h.pa,h.k4,h.shl,⟨h.db.size,h.db.os,h.db.out,h.db.blk⟩⟩
theorem Dx(ad:g.status=.running)(A:World->Prop)(aW:∀w d,A w->A (w.at d))(aq:∀gs w sl t q,l3 P S Wb g gs w t q->A w->∃g' w' es ed,stepG P true g w=.go g' w' es/\runT P (crowd gs w sl) 0=(.next (crowd ed w' sl),MemOp.ofEvents 0 g.frame.fn g.frame.place es)/\Ends P Q (crowd ed w' sl) (t++MemOp.ofEvents 0 g.frame.fn g.frame.place es)):
  ∀(M:Nat)(gs:Array Goroutine)(w:World)(sl:Option (Nat×Nat))(t:Trace)(q:Nat->Nat),sumTo gs.size q=M->l3 P S Wb g gs w t q->A w->Ends P Q (crowd gs w sl) t:=by
 intro M;induction M using Nat.strongRecOn with
 |_ M az=>
  intro gs w sl t q e3 h au;rcases Ka (sl:=sl) h.g0 ad h.ey h.pa with⟨d,fT,oD⟩|⟨ed,d,fT,ops,dF,oD,bX,rP,ak,BZ,tz,aU⟩
  ·obtain⟨g',w',es,ed,U,ab,al⟩:=aq gs (w.at d) fT t q (h.at d) (aW w d au);exact Ends.next (oD.trans ab) al
  ·refine Ends.next oD (az _ (by rw[bX,←e3];exact aU) ed (w.at d) fT _ dF rfl ⟨rP,ak,tz,λop aE=>?_,h.shl,⟨h.db.size,h.db.os,h.db.out,h.db.blk⟩⟩ (aW w d au));rw[bX];exact(Array.mem_append.1 aE).elim (h.k4 op) (BZ op)
def tJ(P:Program)(T:(Nat->Prop)->(World->Prop)->Goroutine->Prop)(R:Nat):Nat->(Nat->Prop)->(World->Prop)->Goroutine->Prop
 |0,bM,A,g=>fL bM A/\T bM A g
 |n+1,bM,A,g=>g.status=.running/\fL bM A/\∀w,A w->(∀b,bM b->b<w.heap.size)->R<=w.heap.size->∃g' w' es iQ,stepG P true g w=.go g' w' es/\B9 bM R w w' es/\iQ w'/\tJ P T R n (λb=>bM b\/(w.heap.size<=b/\b<w'.heap.size)) iQ g'
theorem aao{T:(Nat->Prop)->(World->Prop)->Goroutine->Prop}{R:Nat}(cn:Wb.heap.size<=R)
  (iJ:∀bM A g gs w sl t q,T bM A g->fL bM A->A w->(∀b,bM b->b<w.heap.size/\¬S b)->l3 P S Wb g gs w t q->Ends P Q (crowd gs w sl) t):
  ∀(n:Nat)(bM:Nat->Prop)(A:World->Prop)(g:Goroutine),tJ P T R n bM A g->∀(gs:Array Goroutine)(w:World)(sl:Option (Nat×Nat))(t:Trace)(q:Nat->Nat),l3 P S Wb g gs w t q->A w->(∀b,bM b->b<w.heap.size/\¬S b)->R<=w.heap.size->Ends P Q (crowd gs w sl) t:=by
 intro n;induction n with
 |zero=>exact λbM A g h gs w sl t q ak au aq _=>iJ bM A g gs w sl t q h.2 h.1 au aq ak
 |succ n az=>
  intro bM A g ⟨ad,bh,h⟩ gs w sl t q ak au h8 FW;refine Dx (A:=λw=>A w/\(∀b,bM b->b<w.heap.size/\¬S b)/\R<=w.heap.size) ad (λw d aj=>⟨bh w _ aj.1 (Nat.le_refl _) (λ_ _=>rfl),aj.2.1,aj.2.2⟩) (λgs w sl t q ak aj=>?_) _ gs w sl t q rfl ak ⟨au,h8,FW⟩;obtain⟨au,h8,FW⟩:=aj;obtain⟨g',w',es,iQ,k1,bf,bP,cX⟩:=h w au (λb hb=>(h8 b hb).1) FW;have dH:∀b,((bM b/\R<=b)\/(w.heap.size<=b/\b<w'.heap.size))\/bM b->b<w'.heap.size/\¬S b:=λb hb=>by
   rcases hb with(hb|hb)|hb
   ·exact⟨Nat.lt_of_lt_of_le (h8 b hb.1).1 bf.size,(h8 b hb.1).2⟩
   ·exact⟨hb.2,λx=>by have:=ak.shl b x;omega⟩
   ·exact⟨Nat.lt_of_lt_of_le (h8 b hb).1 bf.size,(h8 b hb).2⟩
  obtain⟨ed,nq,bQ⟩:=ak.step sl k1 bf.size bf.ay dH ⟨Nat.le_trans ak.db.size bf.size,bf.os.trans ak.db.os,bf.out.trans ak.db.out,λb hb=>(bf.blk b (Nat.lt_of_lt_of_le hb ak.db.size) (λx=>by omega)).trans (ak.db.blk b hb)⟩;refine⟨g',w',es,ed,k1,nq,az _ iQ g' cX ed w' sl _ q bQ bP (λb hb=>?_) (Nat.le_trans FW bf.size)⟩;rcases hb with hb|hb
  ·exact⟨Nat.lt_of_lt_of_le (h8 b hb).1 bf.size,(h8 b hb).2⟩
  ·exact⟨hb.2,λx=>by have:=ak.shl b x;omega⟩
theorem aap{ty:TypeId}{Wg:Nat}{g1:Goroutine}(iJ:∀gs w sl t q,WgLive ty Wg w->l3 P S Wb g1 gs w t q->(∀b,b<Wb.heap.size->w.heap[b]?=Wb.heap[b]?)->w.heap.size=Wb.heap.size->Ends P Q (crowd gs w sl) t):
  ∀(m:Nat)(g:Goroutine),(∀w,WgLive ty Wg w->Goes P true (KX ty Wg) DC0 (λg _=>g=g1) m g w)->∀(gs:Array Goroutine)(w:World)(sl:Option (Nat×Nat))(t:Trace)(q:Nat->Nat),l3 P S Wb g gs w t q->WgLive ty Wg w->w.heap.size=Wb.heap.size->Ends P Q (crowd gs w sl) t:=by
 intro m;induction m with
 |zero=>
  intro g h gs w sl t q ak hw bX;have e:g=g1:=h w hw w hw;subst e;exact iJ gs w sl t q hw ak ak.db.blk bX
 |succ m az=>
  intro g h gs w sl t q ak hw bX;rcases h w hw with aT|⟨ad,aT⟩
  ·have e:g=g1:=aT w hw;subst e;exact iJ gs w sl t q hw ak ak.db.blk bX
  ·refine Dx (A:=λw=>WgLive ty Wg w/\w.heap.size=Wb.heap.size) ad (λw d aj=>aj) (λgs w2 sl t q ak aj=>?_) _ gs w sl t q rfl ak ⟨hw,bX⟩;obtain⟨g',w',es,aN,⟨rfl,rfl⟩,aI⟩:=goes_elim (aT w2 aj.1);obtain⟨ed,nq,bQ⟩:=ak.step (B:=λ_=>False) (RO:=λ_=>False) sl aN (Nat.le_refl _) (λe he=>by simp at he) (λb hb=>by rcases hb with h|h<;>exact h.elim) ak.db;exact⟨g',_,_,ed,aN,nq,az g' (λw3 qo=>Goes.rely (λ_ _ _ _ x=>x) aI qo) ed _ sl _ q bQ aj.1 aj.2⟩
end
end
end Go.Proofs.YtlminnpaeaganaaGreat
