/- Part of the proof of RuleBeside. No condition. -/
import Derived.Test.YtlminnpaeaganaaGreatMBesideAG
import Derived.Test.YtlminnpaeaganaaGreatMBesideAJ
namespace Go.Proofs.YtlminnpaeaganaaGreat
set_option maxRecDepth 100000
set_option linter.all false
section
open Go Go.Conc
open Go.ConcN (sumTo upd sumTo_upd upd_ne upd_same)
def dv:Frame:={ fn:=0,tmps:=#[undef],todo:=[.inRegion #[{ dst:=some 0,op:=.assign (.const (.bool true)),type:=0,pos := "",after:=#[],guard:=none }] [0],.code (.refuse "")],defers:=[],mode:=.run,kind:=.normal }
def mM(R:Value->World->Prop):Frame->List Frame->World->Prop:=λfr cs w=>cs=[]/\∃v,fr=dv.finish v/\R v w
theorem QW(v:Value):dv.finish v={ dv with tmps:=#[v],todo:=[.inRegion #[{ dst:=some 0,op:=.assign (.const (.bool true)),type:=0,pos := "",after:=#[],guard:=none }] [],.code (.refuse "")] }:=rfl
section
variable[cQ]{P:Program}{R:Value->World->Prop}
theorem IB{T:Frame->List Frame->World->Prop}{fr:Frame}{cs:List Frame}{w:World}(h:Way P T fr cs w):
  (∀τ d,T fr cs (a8 w τ d)) \/
  (∃(hz:Tape->Nat->Frame)(cs':Tape->Nat->List Frame)(w':Tape->Nat->World)(es:Tape->Nat->Array Event),qT P fr/\(∀τ d,stepG P true (G fr cs) (a8 w τ d)=.go (G (hz τ d) (cs' τ d)) (w' τ d) (es τ d))/\(∀τ d,calm (hz τ d))/\∀τ d,Way P T (hz τ d) (cs' τ d) (w' τ d)) \/
  ∃(c:Frame)(gD:List Frame),cs=c::gD/\((∃f args nE,∀τ d,cQ.spec f args (a8 w τ d) nE)\/∃f L,cQ.libs f L):=by
 cases h with
 |done h=>exact .inl h
 |step a b c d U ab al aJ=>exact .inr (.inl ⟨a,b,c,d,U,ab,al,aJ⟩)
 |spec U ab al=>exact .inr (.inr ⟨_,_,rfl,.inl ⟨_,_,_,ab⟩⟩)
 |lu h _ _ _ _ _=>exact .inr (.inr ⟨_,_,rfl,.inr ⟨_,_,h⟩⟩)
theorem IC{v:Value}{w:World}(h:Way P (mM R) (dv.finish v) [] w):∃τ d,R v (a8 w τ d):=by
 rcases IB h with h|⟨hz,cs',w',es,he,h,hm,k⟩|⟨_,_,e,_⟩
 ·obtain⟨_,bg,e,ad⟩:=h w.tape 0;rw[QW,QW]at e;have:v=bg:=by
   have:=congrArg Frame.tmps e;simpa using this
  exact⟨_,_,this▸ad⟩
 ·exfalso;have U:=h w.tape 0;rw[QW]at U;simp only[G,stepG,stepG.exec,dv]at U;injection U with aK aO bS;injection aK with b8 en;have k1:=k w.tape 0;rw[←b8,←en]at k1;rcases IB k1 with h|⟨ams,nm,w2,es2,amt,ab,kU,bf⟩|⟨_,_,e,_⟩
  ·obtain⟨_,bg,e,_⟩:=h w.tape 0;have:=congrArg (λf:Frame=>f.todo.length) e;simp[QW]at this
  ·have al:=ab w.tape 0;simp only[G,stepG,stepG.exec]at al;cases al
  ·cases e
 ·cases e
end
structure e7(W0 W:World):Prop where
 size:W0.heap.size<=W.heap.size
 os:W.os=W0.os
 out:W.output=W0.output
 blk:∀b,b<W0.heap.size->W.heap[b]?=W0.heap[b]?
theorem e7.refl(W:World):e7 W W:=⟨Nat.le_refl _,rfl,rfl,λ_ _=>rfl⟩
theorem e7.trans{W0 bF iA:World}(h:e7 W0 bF)(k:e7 bF iA):e7 W0 iA:=⟨Nat.le_trans h.size k.size,k.os.trans h.os,k.out.trans h.out,λb hb=>(k.blk b (Nat.lt_of_lt_of_le hb h.size)).trans (h.blk b hb)⟩
section
variable{p p':Program}{F:FuncId->Bool}{fn0:FuncId}{ro:Nat->Prop}{W0:World}{Post:Value->World->Prop}
structure oP(p p':Program)(F:FuncId->Bool)(ro:Nat->Prop)(W0:World)(S:Nat->Prop)(ρ:bA)(V W:World)(g0:Goroutine)(gs:Array Goroutine)(t:Trace)(q:Nat->Nat):Prop where
 g0:gs[0]?=some g0
 ey:Leavers p' t gs q
 pa:kM S W.heap.size t
 k4:∀op∈t,op.g<gs.size
 ma:∀b,S b->∀a,¬ρ a b
 shl:∀b,S b->b<W.heap.size
 wr:dN (bH p F) ρ ro V W
 og:∀b,W.heap.size<=b->¬ro b
 old:∀a b,ρ a b->b<W0.heap.size->ro b
 db:e7 W0 W
def IG[cQ](p p':Program)(F:FuncId->Bool)(ro:Nat->Prop)(W0:World)(Q:Machine->Outcome->World->Trace->Prop):Prop:=
 ∀(f:FuncId)(a a':Array Value)(u':Frame)(us':List Frame)(S:Nat->Prop)(ρ:bA)(V W:World)(gs:Array Goroutine)(sl:Option (Nat×Nat))(t:Trace)(q:Nat->Nat)(nE:Value->World->Prop),
  nO p f->a.size=arity p f->(∀τ d,cQ.spec f a (a8 V τ d) nE)->cv (bH p F) ρ a a'->calm u' ->
  oP p p' F ro W0 S ρ V W (G (Frame.enter p' f a' .normal) (u'::us')) gs t q ->
  (∀(σ:bA)(v bg:Value)(k3 bF:World)(ba:Nat->Prop)(hQ:Array Goroutine)(lr:Option (Nat×Nat))(t1:Trace)(cy:Nat->Nat),nE v k3->cN ρ σ->aZ (bH p F) σ v bg->oP p p' F ro W0 ba σ k3 bF (G (u'.finish bg) us') hQ t1 cy->Ends p' Q (crowd hQ bF lr) t1) ->
  Ends p' Q (crowd gs W sl) t
theorem oP.at{S:Nat->Prop}{ρ:bA}{V W:World}{g0:Goroutine}{gs:Array Goroutine}{t:Trace}{q:Nat->Nat}(h:oP p p' F ro W0 S ρ V W g0 gs t q)(d:Nat):oP p p' F ro W0 S ρ V (W.at d) g0 gs t q:=
 ⟨h.g0,h.ey,h.pa,h.k4,h.ma,h.shl,h.wr.B0 _ d,h.og,h.old,⟨h.db.size,h.db.os,h.db.out,h.db.blk⟩⟩
theorem Ri[cQ]{Y:List Deferred×FuncId×Bool}{dV:List Frame}{ρ:bA}{f bj:Frame}{cs cs':List Frame}(h:CK p p' F Y dv dV ρ (f,cs) (bj,cs'))(he:qT p f):h5 p F p' (bH p F) ρ Y dv dV (f::cs) (bj::cs'):=by
 rcases h with h|⟨g,a,a',us,us',aK,aO,ao,aN,au,bh⟩
 ·exact h
 ·injection aK with bS b8;exact absurd ao (he g a bS)
theorem RX(dH:pk p p' F){o:Op}(h:mx p F o=true):Ty p o=false:=by
 unfold mx at h;rw[Bool.or_eq_true]at h;rcases h with h|h
 ·unfold E3 at h;split at h
  ·rename_i f args fl;simp only[Bool.and_eq_true,beq_iff_eq]at h;obtain⟨fn,c,aK,aO,_⟩:=Hj h.1.2;show yT p f=false;unfold yT;rw[aK];simp[aO]
  ·cases h
 rw[Bool.and_eq_true]at h;obtain⟨U,ab⟩:=h;have key:∀f,F f=true->yT p f=false:=λf aQ=>by
  unfold yT;obtain⟨fn,_,c,aK,_,aO,_⟩:=dH.fns f aQ;rw[aK];simp[aO]
 cases o with
 |call c=>
  obtain⟨ajy,args,fl⟩:=c;cases ajy with
  |value x=>
   have aj:ij F x=true:=by
    have fG:=Array.all_eq_true_iff_forall_mem.1 U;exact fG x (by simp[Op.operands,Call.operands])
   cases x with
   |func f=>exact key f aj
   |const v=>
    cases v with
    |func fn a b=>
     cases fn with
     |func f=>
      obtain⟨a⟩:=a;obtain⟨b⟩:=b;simp only[ij,w0,Bool.and_eq_true]at aj;exact key f aj.1.1
     |_=>rfl
    |_=>rfl
   |_=>rfl
  |_=>rfl
 |_=>first|rfl|cases ab
theorem qP(dH:pk p p' F):∀{c:Code},codeOk p F c=true->jU p c=false
 |.region _ ops _,h=>by
  simp only[codeOk,List.all_eq_true,Bool.and_eq_true]at h;simp only[jU,List.any_eq_false];intro o ar;simp[RX dH (h o ar).1]
 |.seq a b,h=>by
  simp only[codeOk,Bool.and_eq_true]at h;simp[jU,qP dH h.1,qP dH h.2]
 |.cond _ a b,h=>by
  simp only[codeOk,Bool.and_eq_true]at h;simp[jU,qP dH h.1.2,qP dH h.2]
 |.block _ c,h=>by
  simp only[codeOk]at h;simp[jU,qP dH h]
 |.loop c,h=>by
  simp only[codeOk]at h;simp[jU,qP dH h]
 |.scope c,h=>by
  simp only[codeOk]at h;simp[jU,qP dH h]
 |.rangeFunc _ _ a b,h=>by
  simp only[codeOk,Bool.and_eq_true]at h;simp[jU,qP dH h.1.2,qP dH h.2]
 |.skip,_=>rfl
 |.label _,_=>rfl
 |.exit _,_=>rfl
 |.goto _,_=>rfl
 |.ret,_=>rfl
 |.refuse _,_=>rfl
theorem V4(dH:pk p p' F){g:FuncId}{a:Array Value}(ao:nO p g){X:Option (List Deferred×FuncId×Bool)}{ρ:bA}{bj:Frame}(h:hh p F p' (bH p F) ρ X (Frame.enter p g a .normal) bj):False:=by
 obtain⟨fn,c,U,ab,al⟩:=ao;have a1:=h.todo;have e:(Frame.enter p g a .normal).todo=[.code c]:=by simp[Frame.enter,U,ab]
 rw[e]at a1;generalize bj.todo=t at a1;cases a1 with
 |cons hi _=>
  cases hi with
  |code ah=>rw[qP dH ah]at al;cases al
  |reg ah _ _=>
   simp only[jU,List.any_eq_true]at al;obtain⟨o,ar,hb⟩:=al;rw[RX dH (List.all_eq_true.1 ah o ar)]at hb;cases hb
theorem aa5{f bj:Frame}(h:Gj f.mode bj.mode):calm bj:=by
 unfold calm;generalize f.mode=m at h;generalize bj.mode=m' at h;cases h
 ·exact .inl rfl
 ·exact .inr rfl
end
end
section
open Go Go.Conc
open Go.ConcN (sumTo upd sumTo_upd upd_ne upd_same)
section
variable(p:Program)(F:FuncId->Bool)(L:List FuncId)
def IM:Op->Bool
 |.call ⟨.value (.func f),_,_⟩=>L.contains f
 |.call ⟨.builtin b,_,_⟩=>match b with
  |.len | .cap | .clear | .min | .max=>true
  |_=>false
 |.call _ | .go _ | .defer _ | .send .. | .recv .. | .select ..=>false
 |_=>true
def Ii:Code->Bool
 |.region _ ops _=>ops.toList.all λo=>IM L o.op
 |.seq a b | .cond _ a b=>Ii a&&Ii b
 |.block _ c | .loop c | .scope c=>Ii c
 |.skip | .ret | .exit _ | .label _=>true
 |_=>false
def uH:Item->Bool
 |.code c | .inLoop c | .inScope c=>Ii L c&&codeOk p F c
 |.inBlock _=>true
 |.inRegion ops _=>ops.toList.all λo=>IM L o.op&&mx p F o.op
 |_=>false
structure Cf(fr:Frame):Prop where
 items:∀x∈fr.todo,uH p F L x=true
 mode:calm fr
 defers:fr.defers=[]
 kind:fr.kind=.normal
 round:fr.roundOf=none
 fn:fr.fn∈L
structure IL(fn0 f:FuncId):Prop where
 mem:f∈L
 ne:fn0∉L
 fns:∀g∈L,∃fn c,p.funcs[g]?=some fn/\fn.body=some c/\(fn.name == "runtime.NumGoroutine")=false/\Ii L c=true/\codeOk p F c=true
inductive GH where
 |stay (fr:Frame)
 |call (f:FuncId) (a:Array Value)
 |ret (v:Value)
 |Kp (g:List Frame->Sem (Frame×List Frame))
def GH.fin(fr:Frame)(cs:List Frame):GH->Sem (Frame×List Frame)
 |.stay f=>pure (f,cs)
 |.call f a=>pure (Frame.enter p f a .normal,fr::cs)
 |.ret v=>u5 v cs
 |.Kp g=>g cs
def GH.ok(fr:Frame):GH->Prop
 |.stay f=>Cf p F L f/\fr.mode=.run
 |.call f _=>f∈L/\fr.mode=.run
 |.ret _=>fr.mode=.returning
 |.Kp _=>False
end
section
variable{p p':Program}{F:FuncId->Bool}{L:List FuncId}{fn0 f0:FuncId}{fr:Frame}
theorem Y2{α β γ:Type}(s:Sem α)(f:α->Sem β)(g:β->Sem γ):(s >>= f) >>= g=s >>= λa=>f a >>= g:=by simp_all
theorem aaJ{s:Sem Value}{W W':World}{n:Next}(h:(s >>= λv=>(pure (.value v):Sem Next)).run p W=.ok n W'):∃v,n=.value v:=by
 rw[Sem.run_bind]at h;cases ao:s.run p W with
 |ok v w=>rw[ao]at h;injection h with h _;grind
 |halt x w=>simp_all
theorem am0{s:Sem Unit}{W W':World}{n:Next}(h:(s >>= λ_=>(pure .skip:Sem Next)).run p W=.ok n W'):n=.skip:=by
 cases ao:s.run p W with
 |ok v w=>simp_all
 |halt x w=>simp_all
theorem af7(dg:IL p F L fn0 f0){o:Oper}(ar:IM L o.op=true){W W':World}{n:Next}(h:(execOp fr.eval o).run p W=.ok n W'):(∃v,n=.value v)\/n=.skip\/∃f a,n=.enter f a/\f∈L:=by
 unfold execOp at h;generalize aE:o.op=op at h ar;cases op with
 |call c=>
  obtain⟨ajy,args,fl⟩:=c;cases ajy with
  |builtin b=>cases b<;>simp only[IM,Bool.false_eq_true]at ar<;>exact .inl (aaJ h)
  |invoke x y=>simp[IM]at ar
  |value x=>
   cases x with
   |func f=>
    simp only[IM,List.contains_iff_mem]at ar;obtain⟨fn,c,U,ab,al,_⟩:=dg.fns f ar;have e:(do let d ←resolve fr.eval ⟨.value (.func f),args,fl⟩ o.type;invoke d.target d.args:Sem Next).run p W=.ok (.enter f (#[]++args.map fr.eval++#[])) W:=by
     show(callFunc f (#[]++args.map fr.eval++#[])).run p W=_;simp only[callFunc,bind,Sem.bind,program,Sem.run,U,al,ab,Option.isNone_some,Bool.false_eq_true,if_false];rfl
    have bc:(do let d ←resolve fr.eval ⟨.value (.func f),args,fl⟩ o.type;invoke d.target d.args:Sem Next).run p W=.ok n W':=h;rw[e]at bc;injection bc with bc _;exact .inr (.inr ⟨f,_,bc.symm,ar⟩)
   |_=>simp[IM]at ar
 |move x=>injection h with h _;exact .inl ⟨_,h.symm⟩
 |assign x=>injection h with h _;exact .inl ⟨_,h.symm⟩
 |pick c a b=>
  dsimp only at h;rw[Sem.run_bind]at h;cases ao:(asBool (fr.eval c)).run p W with
  |ok v w=>rw[ao]at h;injection h with h _;exact .inl ⟨_,h.symm⟩
  |halt x w=>rw[ao]at h;cases h
 |go _=>cases ar
 |defer _=>cases ar
 |send=>cases ar
 |recv=>cases ar
 |select=>cases ar
 |nilCheck x=>
  have hu:∀{α:Type}{u:Unsupported}{k:Unit->Sem α}{a:α}{w w':World},((unsupported u:Sem Unit) >>= k).run p w≠.ok a w':=λ{α u k a w w'} h=>by cases h
  dsimp only at h;split at h
  ·cases h
  ·cases h
  ·cases h
  ·split at h
   ·cases h
   ·rw[Sem.run_bind]at h;generalize ao:Sem.run p program W=r at h;cases r with
    |halt y w=>cases h
    |ok apT w=>
     dsimp only[Result.andThen]at h;rw[Sem.run_bind]at h;generalize Lq:Sem.run p (nilAhead _ _ _ _) w=r2 at h;cases r2 with
     |halt y w=>cases h
     |ok b w=>
      dsimp only[Result.andThen]at h;split at h
      ·exact absurd h hu
      ·injection h with h _;exact .inl ⟨_,h.symm⟩
   ·injection h with h _;exact .inl ⟨_,h.symm⟩
  ·injection h with h _;exact .inl ⟨_,h.symm⟩
 |_=>first|exact .inl (aaJ h)|exact .inr (.inl (am0 h))
theorem af8(aQ:Cf p F L fr){k:List Item}(aq:∀x∈k,uH p F L x=true):Cf p F L { fr with todo:=k }:=⟨aq,aQ.mode,aQ.defers,aQ.kind,aQ.round,aQ.fn⟩
theorem WT(aQ:Cf p F L fr)(v:Value):Cf p F L (fr.finish v):=by
 have hi:=aQ.items;unfold Frame.finish;split
 ·rename_i ops i rest k e;rw[e]at hi;refine⟨λx aj=>?_,aQ.mode,aQ.defers,aQ.kind,aQ.round,aQ.fn⟩;rcases List.mem_cons.1 aj with rfl|aj
  ·exact hi (.inRegion ops (i::rest)) (by simp)
  grind
 ·rename_i l k e;have:=hi (.inRangeFunc l) (by rw[e];simp);cases this
 ·rename_i k e;have:=hi .beginRound (by rw[e];simp);cases this
 ·rename_i a b c d k e;have:=hi (.call a b c d) (by rw[e];simp);cases this
 ·rename_i k e;have:=hi (.extern _ _) (by rw[e];simp;exact .inl ⟨rfl,rfl⟩);cases this
 ·exact aQ
theorem Y3(dg:IL p F L fn0 f0){g:FuncId}(aN:g∈L)(a:Array Value):Cf p F L (Frame.enter p g a .normal):=by
 obtain⟨fn,c,U,ab,_,aJ,bm⟩:=dg.fns g aN;have e:(Frame.enter p g a .normal).todo=[.code c]:=by grind [Frame.enter]
 refine⟨λx aj=>?_,.inl rfl,rfl,rfl,rfl,aN⟩;grind [uH]
theorem XI{id:Nat}:∀{k bB:List Item},exitTo id k=some bB->∀x∈bB,x∈k
 |[],_,h=>by cases h
 |y::k,bB,h=>by
  have key:exitTo id k=some bB->∀x∈bB,x∈y::k:=λh x aj=>List.mem_cons_of_mem _ (XI h x aj);cases y with
  |inBlock i=>grind [exitTo]
  |_=>exact key h
theorem am2(dg:IL p F L fn0 f0)(aQ:Cf p F L fr):∃s:Sem GH,(∀cs,lD p fr cs=s >>= GH.fin p fr cs)/\∀W m W',s.run p W=.ok m W'->m.ok p F L fr:=by
 have Vi:∀(x:GH),x.ok p F L fr->∀W m W',(pure x:Sem GH).run p W=.ok m W'->m.ok p F L fr:=λx aj W m W' h=>by
  injection h with h _;rw[←h];exact aj
 have rt:Cf p F L { fr with mode:=.returning }:=⟨aQ.items,.inr rfl,aQ.defers,aQ.kind,aQ.round,aQ.fn⟩;have Cg:=λ{k} aq=>af8 aQ (k:=k) aq;have SJ:=WT aQ;have mE:=aQ.round;have iY:=aQ.defers;have hi:=aQ.items;rcases aQ.mode with hm|hm
 ·have st:∀{s:String} W m W',(stuck s:Sem GH).run p W=.ok m W'->m.ok p F L fr:=λW m W' h=>by cases h
  obtain⟨fn,tmps,todo,defers,mode,kind,round⟩:=fr;dsimp only at mE iY hm hi;subst mE iY hm;cases todo with
  |nil=>exact⟨pure (.stay _),λcs=>rfl,Vi _ ⟨rt,rfl⟩⟩
  |cons it k=>
   have aq:∀x∈k,uH p F L x=true:=λx aj=>hi x (by simp[aj]);have aT:=hi it (by simp);have amR:∀{a:Item}{k:List Item},uH p F L a=true->(∀x∈k,uH p F L x=true)->∀x∈a::k,uH p F L x=true:=λau aq x aj=>by
    rcases List.mem_cons.1 aj with rfl|aj
    ·exact au
    ·exact aq x aj
   cases it with
   |code c=>
    simp only[uH,Bool.and_eq_true]at aT;obtain⟨aT,U⟩:=aT;cases c with
    |skip=>exact⟨pure (.stay _),λcs=>rfl,Vi _ ⟨Cg aq,rfl⟩⟩
    |label l=>exact⟨pure (.stay _),λcs=>rfl,Vi _ ⟨Cg aq,rfl⟩⟩
    |seq a b=>
     simp only[Ii,codeOk,Bool.and_eq_true]at aT U;exact⟨pure (.stay _),λcs=>rfl,Vi _ ⟨Cg (amR (by simp[uH,aT.1,U.1]) (amR (by simp[uH,aT.2,U.2]) aq)),rfl⟩⟩
    |block i a=>exact⟨pure (.stay _),λcs=>rfl,Vi _ ⟨Cg (amR (by simp only[uH,Bool.and_eq_true];exact⟨aT,U⟩) (amR rfl aq)),rfl⟩⟩
    |loop a=>exact⟨pure (.stay _),λcs=>rfl,Vi _ ⟨Cg (amR (by simp only[uH,Bool.and_eq_true];exact⟨aT,U⟩) (amR (by simp only[uH,Bool.and_eq_true];exact⟨aT,U⟩) aq)),rfl⟩⟩
    |scope a=>exact⟨pure (.stay _),λcs=>rfl,Vi _ ⟨Cg (amR (by simp only[uH,Bool.and_eq_true];exact⟨aT,U⟩) (amR (by simp only[uH,Bool.and_eq_true];exact⟨aT,U⟩) aq)),rfl⟩⟩
    |cond x a b=>
     simp only[Ii,codeOk,Bool.and_eq_true]at aT U;cases aj:Frame.eval ⟨fn,tmps,.code (.cond x a b)::k,[],.run,kind,none⟩ x with
     |bool t=>
      refine⟨pure (.stay _),λcs=>?_,Vi _ ⟨Cg (amR (a:=.code (if t then a else b)) ?_ aq),rfl⟩⟩
      ·simp only[lD,xc,aj];rfl
      ·cases t<;>simp[uH,aT,U]
     |_=>exact⟨stuck "",λcs=>by simp only[lD,xc,aj];rfl,st⟩
    |ret=>exact⟨pure (.stay _),λcs=>rfl,Vi _ ⟨rt,rfl⟩⟩
    |exit i=>
     cases aj:exitTo i k with
     |some bB=>
      refine⟨pure (.stay _),λcs=>?_,Vi _ ⟨Cg (k:=bB) λx h=>aq x (XI aj x h),rfl⟩⟩;simp only[lD,xc,aj];rfl
     |none=>exact⟨stuck "",λcs=>by simp only[lD,xc,aj,lL,L5];rfl,st⟩
    |region i ops d=>
     have aE:uH p F L (.inRegion ops [])=true:=by
      simp only[uH,Ii,codeOk,List.all_eq_true,Bool.and_eq_true]at aT U⊢;exact λo ar=>⟨aT o ar,(U o ar).1⟩
     cases d with
     |false=>exact⟨pure (.stay _),λcs=>rfl,Vi _ ⟨Cg (amR aE aq),rfl⟩⟩
     |true=>
      refine⟨do let t ←choose (.order fn i);pure (.stay ⟨fn,tmps,.inRegion ops (Region.schedule (p.follows .mixedOrders) ops t)::k,[],.run,kind,none⟩),λcs=>rfl,λW m W' h=>?_⟩;rw[Sem.run_bind]at h;cases ao:(choose (.order fn i)).run p W with
      |ok v w=>rw[ao]at h;injection h with h _;rw[←h];exact⟨Cg (amR aE aq),rfl⟩
      |halt x w=>rw[ao]at h;cases h
    |_=>cases aT
   |inBlock i=>exact⟨pure (.stay _),λcs=>rfl,Vi _ ⟨Cg aq,rfl⟩⟩
   |inLoop a=>exact⟨pure (.stay _),λcs=>rfl,Vi _ ⟨Cg (amR aT (amR aT aq)),rfl⟩⟩
   |inScope a=>exact⟨pure (.stay _),λcs=>rfl,Vi _ ⟨Cg aq,rfl⟩⟩
   |inRegion ops todo=>
    cases todo with
    |nil=>exact⟨pure (.stay _),λcs=>rfl,Vi _ ⟨Cg aq,rfl⟩⟩
    |cons i rest=>
     cases ar:ops[i]? with
     |none=>exact⟨pure (.stay _),λcs=>by simp only[lD,xc,ar];rfl,Vi _ ⟨SJ _,rfl⟩⟩
     |some o=>
      by_cases hw:Region.wanted o (yielded ops tmps)=true
      ·refine⟨do let n ←execOp (Frame.eval ⟨fn,tmps,.inRegion ops (i::rest)::k,[],.run,kind,none⟩) o;pure (match n with
        |.value v=>.stay (Frame.finish ⟨fn,tmps,.inRegion ops (i::rest)::k,[],.run,kind,none⟩ v)
        |.skip=>.stay (Frame.finish ⟨fn,tmps,.inRegion ops (i::rest)::k,[],.run,kind,none⟩ undef)
        |.enter f a=>.call f a
        |n=>.Kp λcs=>uS p ⟨fn,tmps,.inRegion ops (i::rest)::k,[],.run,kind,none⟩ cs n),λcs=>?_,λW m W' h=>?_⟩
       ·rw[Y2];simp only[lD,xc,ar,hw,if_true];refine congrArg _ (funext λn=>?_);cases n<;>rfl
       ·rw[Sem.run_bind]at h;have FJ:IM L o.op=true:=by
         simp only[uH,List.all_eq_true,Bool.and_eq_true]at aT;exact(aT o (Array.mem_toList_iff.2 (Array.mem_of_getElem? ar))).1
        cases ao:(execOp (Frame.eval ⟨fn,tmps,.inRegion ops (i::rest)::k,[],.run,kind,none⟩) o).run p W with
        |ok n w=>
         rw[ao]at h;injection h with h _;rw[←h];rcases af7 dg FJ ao with⟨v,rfl⟩|rfl|⟨f,a,rfl,aQ⟩
         ·exact⟨SJ v,rfl⟩
         ·exact⟨SJ _,rfl⟩
         ·exact⟨aQ,rfl⟩
        |halt x w=>rw[ao]at h;cases h
      ·exact⟨pure (.stay _),λcs=>by simp only[lD,xc,ar,if_neg hw];rfl,Vi _ ⟨SJ _,rfl⟩⟩
   |_=>cases aT
 ·obtain⟨fn,tmps,todo,defers,mode,kind,round⟩:=fr;dsimp only at mE iY hm;subst mE iY hm;cases dX:p.funcs[fn]? with
  |none=>exact⟨pure (.ret _),λcs=>by simp only[lD,dX];rfl,Vi _ rfl⟩
  |some g=>
   refine⟨do let v ←results g tmps;pure (.ret v),λcs=>?_,λW m W' h=>?_⟩
   ·rw[Y2];simp only[lD,dX];rfl
   ·rw[Sem.run_bind]at h;cases ao:(results g tmps).run p W with
    |ok v w=>rw[ao]at h;injection h with h _;rw[←h];rfl
    |halt x w=>rw[ao]at h;cases h
theorem Y6(dg:IL p F L fn0 f0)(aQ:Cf p F L fr){fs:List Frame}(Kj:∀g∈fs,Cf p F L g){m:GH}(hm:m.ok p F L fr)(ak:¬(fr.mode=.returning/\fs=[])):
  ∃f1 SI,Cf p F L f1/\(∀g∈SI,Cf p F L g)/\∀base w,(m.fin p fr (fs++base)).run p w=.ok (f1,SI++base) w:=by
 cases m with
 |stay f=>exact⟨f,fs,hm.1,Kj,λ_ _=>rfl⟩
 |call f a=>
  refine⟨_,fr::fs,Y3 dg hm.1 a,λg aN=>?_,λ_ _=>rfl⟩;rcases List.mem_cons.1 aN with rfl|aN
  ·exact aQ
  ·exact Kj g aN
 |ret v=>
  cases fs with
  |nil=>exact absurd ⟨hm,rfl⟩ ak
  |cons g fs=>exact⟨_,fs,WT (Kj g (by simp)) v,λx aj=>Kj x (by simp[aj]),λ_ _=>rfl⟩
 |Kp g=>exact hm.elim
end
end
section
open Go Go.Conc
open Go.ConcN (sumTo upd sumTo_upd upd_ne upd_same)
structure Ln where
 f:Frame
 fs:List Frame
 V:World
def Ln.fin(x:Ln):Prop:=x.f.mode=.returning/\x.fs=[]
def Us(h:Halt):Prop:=(∃v,h=.panic v)\/Halt.still h
section
variable(p p':Program)(F:FuncId->Bool)(L:List FuncId)(fn0:FuncId)(ro:Nat->Prop)(W0:World)(Q:Machine->Outcome->World->Trace->Prop)(c:Frame)(cs:List Frame)(R:Ending->World->Prop)
structure SK(x:Ln):Prop where
 f:Cf p F L x.f
 fs:∀g∈x.fs,Cf p F L g
 real:∃bj cs' S ρ W gs sl t q,CK p p' F ([],fn0,false) dv [] ρ (x.f,x.fs++c::cs) (bj,cs')/\oP p p' F ro W0 S ρ x.V W (G bj cs') gs t q/\¬Ends p' Q (crowd gs W sl) t
def QB(x bk:Ln)(k:Nat)(zG:Tape):Prop:=∀(τ:Tape) d,(∀j q,j<k->τ (d+j) q=zG j q) ->
 (x.fin->∀v w1,(lD p x.f (c::cs)).run p (a8 x.V τ d)=.ok (c.finish v,cs) w1->R (.returned v) w1->False) /\
 ((¬x.fin/\∀base,(lD p x.f (x.fs++base)).run p (a8 x.V τ d)=.ok (bk.f,bk.fs++base) (a8 bk.V τ (d+k)))\/(x.fin/\∃v w,(lD p x.f [dv]).run p (a8 x.V τ d)=.ok (dv.finish v,[]) w)\/∃h bF,(lD p x.f (x.fs++[dv])).run p (a8 x.V τ d)=.halt h bF/\Us h)
end
section
variable{p p':Program}{F:FuncId->Bool}{L:List FuncId}{fn0 f0:FuncId}{ro:Nat->Prop}{W0:World}{Q:Machine->Outcome->World->Trace->Prop}{c:Frame}{cs:List Frame}{R:Ending->World->Prop}
theorem amL{fr:Frame}{fs:List Frame}{m:GH}(hm:m.ok p F L fr)(w:World):∃x,(m.fin p fr (fs++c::cs)).run p w=.ok x w:=by
 cases m with
 |stay f=>exact⟨_,rfl⟩
 |call f a=>exact⟨_,rfl⟩
 |ret v=>cases fs<;>exact⟨_,rfl⟩
 |Kp g=>trivial
theorem aeN(ae:PP (bH p F) p p')(dH:pk p p' F)(dg:IL p F L fn0 f0)
  (az:∀v w',R (.returned v) w'->∀bj cs' S ρ W gs sl t q,CK p p' F ([],fn0,false) dv [] ρ (c.finish v,cs) (bj,cs')->oP p p' F ro W0 S ρ w' W (G bj cs') gs t q->Ends p' Q (crowd gs W sl) t)
  {x:Ln} (aj:SK p p' F L fn0 ro W0 Q c cs x):∃bk k zG,SK p p' F L fn0 ro W0 Q c cs bk/\QB p c cs R x bk k zG:=by
 obtain⟨bj,cs',S,ρ,W,gs,sl,t,q,h6,hm,bU⟩:=aj.real;have s9:h5 p F p' (bH p F) ρ ([],fn0,false) dv [] (x.f::(x.fs++c::cs)) (bj::cs'):=by
  rcases h6 with h|⟨g,a,a',us,us',aK,aO,⟨fn,ajx,k1,bf,bP⟩,_⟩
  ·exact h
  ·exfalso;injection aK with bS _;have hi:=aj.f.items;dsimp only at bS;rw[bS,show(Frame.enter p g a .normal).todo=[.code ajx]by simp[Frame.enter,k1,bf]]at hi;have:=hi (.code ajx) (by simp);simp[uH]at this;rw[qP dH this.2]at bP;cases bP
 clear h6;have il:x.f.mode=.returning->x.f.defers=[]->x.fs++c::cs≠[dv]:=by
  intro _ _ e;have ab:=s9;rw[e]at ab;cases ab with
  |bot h=>exact dg.ne ((show x.f.fn=fn0 from h.nn _ rfl)▸aj.f.fn)
  |cons h k=>cases k with
   |cons _ k=>cases k
 obtain⟨s,ao,fU⟩:=am2 dg aj.f;generalize e3:sumTo gs.size q=M;induction M using Nat.strongRecOn generalizing S W gs sl t q with
 |_ M KT=>
  rcases Ka (sl:=sl) hm.g0 rfl hm.ey hm.pa with⟨d0,fT,oD⟩|⟨ed,d0,fT,ops,dF,oD,bX,rP,ak,BZ,tz,aU⟩
  ·have hm:=hm.at (p:=p) d0;have mD:wF x.f:=by
    have ab:=s9;generalize aF:x.fs++c::cs=y at ab;cases ab with
    |bot h=>exact noMark h (by simp[rr])
    |cons h _=>exact noMark h (by simp[rr])
   obtain⟨k,zG,rp⟩:=(agL ae dH hm.wr.ok s9 il mD).out (ro:=ro) x.V (W.at d0) #[] hm.wr hm.og;have bad:(∀(τ:Tape) d,(∀j q,j<k->τ (d+j) q=zG j q)->∃h bF,(lD p x.f (x.fs++c::cs)).run p (a8 x.V τ d)=.halt h bF/\Us h)->∃bk k zG,SK p p' F L fn0 ro W0 Q c cs bk/\QB p c cs R x bk k zG:=by
    intro hb;refine⟨x,k,zG,aj,λτ d au=>⟨λaQ v w1 ad _=>?_,.inr (.inr ?_)⟩⟩
    ·obtain⟨h,bF,e,_⟩:=hb τ d au;rw[aQ.2,List.nil_append,ad]at e;cases e
    ·obtain⟨h,bF,e,bq⟩:=hb τ d au;rw[ao,Sem.run_bind]at e⊢;cases ad:s.run p (a8 x.V τ d)with
     |ok m w=>
      rw[ad]at e;obtain⟨y,g3⟩:=amL (p:=p) (F:=F) (L:=L) (fs:=x.fs) (c:=c) (cs:=cs) (fU _ _ _ ad) w;dsimp only[Result.andThen]at e;rw[g3]at e;cases e
     |halt U w=>
      rw[ad]at e;injection e with aK aO;subst aK;exact⟨_,_,rfl,bq⟩
   rcases rp with⟨r,cn,Nt⟩|⟨_,Ut⟩
   ·cases r with
    |halt h bF=>
     refine bad λτ d au=>⟨h,_,Nt τ d au,?_⟩;cases h with
     |panic v=>exact .inl ⟨v,rfl⟩
     |_=>exact .inr cn
    |ok a bF=>
     obtain⟨σ,b,xO,ec,U,ab,al,aJ,bm⟩:=cn;obtain⟨_,_,anj,_,am4⟩:=aaG s9 il;have Vq:=QV (p:=p') (main:=true) (w:=W.at d0) anj am4;rw[U]at Vq;obtain⟨amo,amp,amq⟩:=Vq;have sS:=runT_crowd_go (P:=p') (sl:=fT) (i:=0) hm.g0 (show stepG p' (0==0) (G bj cs') (W.at d0)=_ from amp);have aU:0<gs.size:=(Array.getElem?_eq_some_iff.1 hm.g0).1;have fR:∀e∈amo,ja σ ro e:=λe he=>bm e (by simpa using amq e he);have nk:∀b,S b->∀a,¬σ a b:=λb hb a bL=>by
      rcases aJ.new a b bL with h|h
      ·exact hm.ma b hb a h
      ·exact absurd (hm.shl b hb) (by omega)
     have gX:∀a b,σ a b->b<xO.heap.size:=λa b bL=>by
      obtain⟨_,_,_,k,_⟩:=al.obj _ _ bL;exact(Array.getElem?_eq_some_iff.1 k).1
     have Ca:∀lE,dN (bH p F) σ ro lE xO->oP p p' F ro W0 S σ lE xO (G b.1 b.2) ((gs.map (woken p' (G bj cs') (G b.1 b.2) xO)).setIfInBounds 0 (G b.1 b.2)) (t++MemOp.ofEvents 0 bj.fn bj.place amo) q:=λlE ak7=>by
      refine⟨by simp[aU],Leavers.step0 hm.ey hm.g0,(hm.pa.mono aJ.size).own fR nk gX,λop aE=>?_,nk,λb hb=>Nat.lt_of_lt_of_le (hm.shl b hb) aJ.size,ak7,λb hb=>hm.og b (Nat.le_trans aJ.size hb),λa b bL hb=>?_,⟨Nat.le_trans hm.db.size aJ.size,aJ.os.trans hm.db.os,aJ.out.trans hm.db.out,λb hb=>?_⟩⟩
      ·simp ;rcases Array.mem_append.1 aE with h|h
       ·exact hm.k4 op h
       ·obtain⟨e,_,rfl⟩:=Go.Conc.mem_ofEvents h;exact aU
      ·rcases aJ.new a b bL with h|h
       ·exact hm.old a b h hb
       ·exact absurd (Nat.lt_of_lt_of_le hb hm.db.size) (by omega)
      ·refine(aJ.keep b (Nat.lt_of_lt_of_le hb hm.db.size) ?_).trans (hm.db.blk b hb);by_cases hex:∃a,ρ a b
       ·obtain⟨a,au⟩:=hex;exact .inr (hm.old a b au hb)
       ·exact .inl λa au=>hex ⟨a,au⟩
     have aci:¬Ends p' Q (crowd ((gs.map (woken p' (G bj cs') (G b.1 b.2) xO)).setIfInBounds 0 (G b.1 b.2)) xO fT) (t++MemOp.ofEvents 0 bj.fn bj.place amo):=λh=>bU (Ends.next (oD.trans sS) h);by_cases iJ:x.fin
     ·refine⟨x,k,zG,aj,λτ d au=>⟨λaQ v w1 ad ant=>?_,.inr (.inl ⟨iJ,?_⟩)⟩⟩
      ·have e:=Nt τ d au;rw[aQ.2,List.nil_append,ad]at e;injection e with aK aO;subst aK aO;exact aci (az v _ ant b.1 b.2 S σ xO _ fT _ q ab (Ca _ (al.a8 _ _)))
      ·have e:=Nt τ d au;rw[ao,Sem.run_bind]at e⊢;cases ad:s.run p (a8 x.V τ d)with
       |halt U w=>rw[ad]at e;cases e
       |ok m w=>
        have Vz:=fU _ _ _ ad;cases m with
        |stay f=>have:=Vz.2;rw[iJ.1]at this;cases this
        |call f a=>have:=Vz.2;rw[iJ.1]at this;cases this
        |ret v=>exact⟨v,w,rfl⟩
        |Kp g=>exact Vz.elim
     ·have aT:=Nt zG 0 λj q _=>by rw[Nat.zero_add]
      rw[ao,Sem.run_bind]at aT;cases VB:s.run p (a8 x.V zG 0)with
      |halt U w=>rw[VB]at aT;cases aT
      |ok m w=>
       rw[VB]at aT;obtain⟨f1,SI,g1,g2,g3⟩:=Y6 dg aj.f aj.fs (fU _ _ _ VB) iJ;dsimp only[Result.andThen]at aT;rw[g3]at aT;injection aT with aK aO;subst aK;refine⟨⟨f1,SI,bF⟩,k,zG,⟨g1,g2,b.1,b.2,S,σ,xO,_,fT,_,q,ab,Ca _ al,aci⟩,λτ d au=>⟨λaQ=>absurd aQ iJ,.inl ⟨iJ,λbase=>?_⟩⟩⟩;have e:=Nt τ d au;rw[ao,Sem.run_bind]at e⊢;cases ad:s.run p (a8 x.V τ d)with
       |halt U w=>rw[ad]at e;cases e
       |ok hF w2=>
        rw[ad]at e;obtain⟨f2,anG,_,_,g4⟩:=Y6 dg aj.f aj.fs (fU _ _ _ ad) iJ;dsimp only[Result.andThen]at e⊢;rw[g4]at e⊢;injection e with bS b8;injection bS with en l9;rw[b8,en,List.append_cancel_right l9]
   ·exact bad Ut
  ·exact KT (sumTo ed.size dF) (by rw[bX,←e3];exact aU) S (W.at d0) ed fT _ dF ⟨rP,ak,tz,λop aE=>(by rw[bX];exact(Array.mem_append.1 aE).elim (hm.k4 op) (BZ op)),hm.ma,hm.shl,hm.wr.B0 _ d0,hm.og,hm.old,⟨hm.db.size,hm.db.os,hm.db.out,hm.db.blk⟩⟩ (λh=>bU (Ends.next oD h)) rfl
theorem aeK(ae:PP (bH p F) p p')(dH:pk p p' F)(dg:IL p F L fn0 f0){apM:List FuncId}(bO:0∉apM){n0:Nat}{args:Array Value}{V:World}
  (ah:∀τ d D,CallsIn (Fence.list apM (some D)) n0 p f0 args (a8 V τ d) R) (cn:∀e w',R e w'->∃v,e=.returned v)
  (az:∀v w',R (.returned v) w'->∀bj cs' S ρ W gs sl t q,CK p p' F ([],fn0,false) dv [] ρ (c.finish v,cs) (bj,cs')->oP p p' F ro W0 S ρ w' W (G bj cs') gs t q->Ends p' Q (crowd gs W sl) t):
  ∀bj cs' S ρ W gs sl t q,CK p p' F ([],fn0,false) dv [] ρ (Frame.enter p f0 args .normal,c::cs) (bj,cs')->oP p p' F ro W0 S ρ V W (G bj cs') gs t q->Ends p' Q (crowd gs W sl) t:=by
 intro bj cs' S ρ W gs sl t q h6 hm;refine Classical.byContradiction λbU=>?_;let A:={ x:Ln // SK p p' F L fn0 ro W0 Q c cs x };have LL:∀x:A,∃y:A×Nat×Tape,QB p c cs R x.1 y.1.1 y.2.1 y.2.2:=λx=>by
  obtain⟨bk,k,zG,U,ab⟩:=aeN ae dH dg az x.2;exact⟨(⟨bk,U⟩,k,zG),ab⟩
 let x1:A:=⟨⟨Frame.enter p f0 args .normal,[],V⟩,Y3 dg dg.mem args,by simp,bj,cs',S,ρ,W,gs,sl,t,q,h6,hm,bU⟩;let g:A->A×Nat×Tape:=λx=>(LL x).choose;have aN:∀x:A,QB p c cs R x.1 (g x).1.1 (g x).2.1 (g x).2.2:=λx=>(LL x).choose_spec;let oS:Nat->A:=λn=>Nat.rec x1 (λ_ x=>(g x).1) n;have anH:∀n,oS (n+1)=(g (oS n)).1:=λ_=>rfl;let D:Nat->Nat:=λn=>Nat.rec 0 (λn d=>d+(g (oS n)).2.1) n;have WS:∀n,D (n+1)=D n+(g (oS n)).2.1:=λ_=>rfl;have mono:∀m n,D n<=D (n+m):=λm n=>by
  induction m with
  |zero=>exact Nat.le_refl _
  |succ m az=>exact Nat.le_trans az (by rw[←Nat.add_assoc,WS];omega)
 obtain⟨τ,iE⟩:∃τ:Tape,∀n j q,j<(g (oS n)).2.1->τ (D n+j) q=(g (oS n)).2.2 j q:=by
  classical
  refine⟨λi q=>if h:∃n,D n<=i/\i<D (n+1)then(g (oS h.choose)).2.2 (i-D h.choose) q else 0,λn j q aC=>?_⟩;have hex:∃m,D m<=D n+j/\D n+j<D (m+1):=⟨n,by omega,by rw[WS];omega⟩;dsimp only;rw[dif_pos hex];obtain⟨U,ab⟩:=hex.choose_spec;generalize hex.choose=m at U ab;have SH:m=n:=by
   rcases Nat.lt_trichotomy m n with h|h|h
   ·have:=mono (n-(m+1)) (m+1);rw[show m+1+(n-(m+1))=n by omega]at this;omega
   ·exact h
   ·have:=mono (m-(n+1)) (n+1);rw[show n+1+(m-(n+1))=m by omega,WS]at this;omega
  subst SH;rw[show D m+j-D m=j by omega]
 have bh:=λn=>aN (oS n) τ (D n) (iE n);obtain⟨_,Bd⟩:=ah τ 0 (n0+2);obtain⟨e,w',fr,adO,amM,dX,amV⟩:=Bd [dv] λd aV=>by
  injection aV with aV;subst aV;simp only[List.length_cons,List.length_nil];omega
 obtain⟨v,rfl⟩:=cn _ _ adO;obtain⟨N,gq,iM⟩:=StepsIn.run (show StepsIn _ p _ _ from amM);obtain⟨lm,anB,mI,anI,anC,anD⟩:=amV;have eb:0≠p.funcs.size:=by
  obtain⟨fn,_,h,_⟩:=dg.fns f0 dg.mem;have:=(Array.getElem?_eq_some_iff.1 h).1;omega
 have add1:∀{k m m'},runN p k (lone (Frame.enter p f0 args .normal) [dv] (a8 V τ 0))=.next m->step p m=.next m'->runN p (k+1) (lone (Frame.enter p f0 args .normal) [dv] (a8 V τ 0))=.next m':=λU ab=>by
  rw[runN_add,U];simp[runN,ab]
 have going:∀{k m o w},k<N->runN p k (lone (Frame.enter p f0 args .normal) [dv] (a8 V τ 0))=.next m->step p m≠.ended o w:=λ{k m o w} aq U ab=>by
  have:=runN_add p k (N-k) (lone (Frame.enter p f0 args .normal) [dv] (a8 V τ 0));rw[show k+(N-k)=N by omega,gq,U]at this;obtain⟨j,aC⟩:∃j,N-k=j+1:=⟨N-k-1,by omega⟩;rw[aC]at this;simp[runN,ab]at this
 have acj:∀{k:Nat}{g:Frame}{w:World},k<=N->runN p k (lone (Frame.enter p f0 args .normal) [dv] (a8 V τ 0))=.next (lone g [] w)->g.fn=0->False:=λ{k g w} aq U ab=>by
  rcases Nat.lt_or_ge k N with h|h
  ·obtain⟨_,al,_⟩:=iM k h _ U ⟨g,[],.running,none,none⟩ (by simp[lone]);rw[ab]at al;exact al.elim bO eb
  ·have e:k=N:=by omega
   subst e;rw[gq]at U;injection U with U;have:=congrArg (λm:Machine=>(m.gs[0]?).map (·.callers.length)) U;simp[lone]at this
 have anu:∀(fs:List Frame)(k:Nat)(f1:Frame)(w:World),k<=N->runN p k (lone (Frame.enter p f0 args .normal) [dv] (a8 V τ 0))=.next (lone f1 (fs++[dv]) w)->(∃ch,f1.mode=.panicking ch)->f1.defers=[]->f1.fn∈L->(∀g∈fs,Cf p F L g)->False:=by
  intro fs;induction fs with
  |nil=>
   intro k f1 w aq U ⟨ch,xu⟩ gE zV _;rcases Nat.lt_or_ge k N with h|h
   ·obtain⟨fn,_,Ux,_⟩:=dg.fns _ zV;exact acj (by omega) (add1 U (step_leave_panicked ⟨xu,gE,fn,Ux⟩)) rfl
   ·have e:k=N:=by omega
    subst e;rw[gq]at U;injection U with U;have:=congrArg (λm:Machine=>(m.gs[0]?).map (·.frame.mode)) U;simp[lone,lm,xu]at this
  |cons g fs B5=>
   intro k f1 w aq U ⟨ch,xu⟩ gE zV Kj;rcases Nat.lt_or_ge k N with h|h
   ·obtain⟨fn,_,Ux,_⟩:=dg.fns _ zV;have aiW:=Kj g (by simp);refine B5 (k+1) (g.raise ch) w (by omega) (add1 U (step_leave_panicked ⟨xu,gE,fn,Ux⟩)) ?_ ?_ ?_ λx aj=>Kj x (by simp[aj])
    ·unfold Frame.raise;split<;>exact⟨_,rfl⟩
    ·unfold Frame.raise;split<;>exact aiW.defers
    ·unfold Frame.raise;split<;>exact aiW.fn
   ·have e:k=N:=by omega
    subst e;rw[gq]at U;injection U with U;have:=congrArg (λm:Machine=>(m.gs[0]?).map (·.frame.mode)) U;simp[lone,lm,xu]at this
 have ank:∀{f:Frame},Cf p F L f->BK p F f:=λ{f} aQ=>by
  refine⟨λit gY=>?_,aQ.mode,λ_ d ds e=>by rw[aQ.defers]at e;cases e⟩;have:=aQ.items it gY;cases it with
  |code c=>intro y e;subst e;simp[uH,Ii]at this
  |inRegion ops k=>
   simp only[uH,List.all_eq_true,Bool.and_eq_true]at this;exact List.all_eq_true.2 λo ar=>(this o ar).2
  |inBlock=>trivial
  |inLoop=>trivial
  |inScope=>trivial
  |_=>cases this
 have am5:∀n,n<=N->runN p n (lone (Frame.enter p f0 args .normal) [dv] (a8 V τ 0))=.next (lone (oS n).1.f ((oS n).1.fs++[dv]) (a8 (oS n).1.V τ (D n))):=by
  intro n;induction n with
  |zero=>intro _;rfl
  |succ n anv=>
   intro aI;have U:=anv (by omega);have Lj:=(oS n).2;have x6:=QV (p:=p) (main:=true) (w:=a8 (oS n).1.V τ (D n)) (fr:=(oS n).1.f) (cs:=(oS n).1.fs++[dv]) (ank Lj.f) (.inl ⟨Lj.f.kind,by simp⟩);rw[Sem.runT_eq]at x6;have Ut:∀h bF,(lD p (oS n).1.f ((oS n).1.fs++[dv])).run p (a8 (oS n).1.V τ (D n))=.halt h bF->Us h->False:=λh bF he bq=>by
    rw[he]at x6;rcases bq with⟨v,rfl⟩|bq
    ·rcases x6 with⟨anE,af,w2,es2,zX,amr⟩|⟨o,w2,es2,zX⟩
     ·have anw:anE=(oS n).1.f:=amr λg ps a b k e=>by
       have:=Lj.f.items (.code (.rangeFunc g ps a b)) (by rw[e];simp);simp[uH,Ii]at this
      subst anw;have Lq:step p (lone (oS n).1.f ((oS n).1.fs++[dv]) (a8 (oS n).1.V τ (D n)))=.next (lone ((oS n).1.f.raise af) ((oS n).1.fs++[dv]) w2):=step_lone_go (by
       have:stepG p true { frame:=(oS n).1.f,callers:=(oS n).1.fs++[dv],status:=.running,dying:=none } (a8 (oS n).1.V τ (D n))=_:=zX;rw[this];rfl)
      refine anu _ (n+1) _ _ aI (add1 U Lq) ?_ ?_ ?_ Lj.fs
      ·unfold Frame.raise;split<;>exact⟨_,rfl⟩
      ·unfold Frame.raise;split<;>exact Lj.f.defers
      ·unfold Frame.raise;split<;>exact Lj.f.fn
     ·exact going (by omega) U (step_lone_ended (o:=o) (w':=w2) (by
       have:stepG p true { frame:=(oS n).1.f,callers:=(oS n).1.fs++[dv],status:=.running,dying:=none } (a8 (oS n).1.V τ (D n))=_:=zX;rw[this];rfl))
    ·have anx:∃o w2 es2,stepG p true (G (oS n).1.f ((oS n).1.fs++[dv])) (a8 (oS n).1.V τ (D n))=.ended o w2 es2:=by
      cases h with
      |stuck y=>exact x6 bq
      |unsupported y=>cases y<;>first|exact bq.elim|exact x6 bq
      |_=>exact bq.elim
     obtain⟨o,w2,es2,zX⟩:=anx;exact going (by omega) U (step_lone_ended (o:=o) (w':=w2) (by
      have:stepG p true { frame:=(oS n).1.f,callers:=(oS n).1.fs++[dv],status:=.running,dying:=none } (a8 (oS n).1.V τ (D n))=_:=zX;rw[this];rfl))
   have fU:∀x w1,(lD p (oS n).1.f ((oS n).1.fs++[dv])).run p (a8 (oS n).1.V τ (D n))=.ok x w1->step p (lone (oS n).1.f ((oS n).1.fs++[dv]) (a8 (oS n).1.V τ (D n)))=.next (lone x.1 x.2 w1):=λx w1 he=>by
    rw[he]at x6;obtain⟨es2,zX,_⟩:=x6;exact step_lone_go (by
     have:stepG p true { frame:=(oS n).1.f,callers:=(oS n).1.fs++[dv],status:=.running,dying:=none } (a8 (oS n).1.V τ (D n))=_:=zX;rw[this];rfl)
   rcases(bh n).2 with⟨_,ab⟩|⟨iJ,v,w,ab⟩|⟨h,bF,ab,al⟩
   ·exact add1 U (fU _ _ (ab [dv]))
   ·refine(acj aI (add1 U (fU (dv.finish v,[]) w ?_)) rfl).elim;rw[iJ.2];exact ab
   ·exact(Ut h bF ab al).elim
 have il:=am5 N (Nat.le_refl _);rw[gq]at il;injection il with il;have aK:fr=(oS N).1.f:=by
  have:=congrArg (λm:Machine=>(m.gs[0]?).map (·.frame)) il;simpa[lone]using this
 have aO:[dv]=(oS N).1.fs++[dv]:=by
  have:=congrArg (λm:Machine=>(m.gs[0]?).map (·.callers)) il;simpa only[lone,List.getElem?_toArray,List.getElem?_cons_zero,Option.map_some,Option.some.injEq]using this
 have bS:w'=a8 (oS N).1.V τ (D N):=congrArg (λm:Machine=>m.world) il;have b8:(oS N).1.fs=[]:=by
  have:=congrArg List.length aO;simp only[List.length_append,List.length_cons,List.length_nil]at this;exact List.length_eq_zero_iff.1 (by omega)
 refine(bh N).1 ⟨aK▸lm,b8⟩ v w' ?_ adO;rw[←bS,←aK];simp only[lD,lm,anB,anC,Sem.run_bind,anD];rfl
end
end
section
open Go Go.Conc
open Go.ConcN (sumTo upd sumTo_upd upd_ne upd_same)
section
variable{p p':Program}{F:FuncId->Bool}{fn0:FuncId}{ro:Nat->Prop}{W0:World}{Post:Value->World->Prop}
theorem Zx[cQ]{R:Value->World->Prop}(ae:PP (bH p F) p p')(dH:pk p p' F)(fH:IG p p' F ro W0 (Go.Conc.Good p' Post))(c1:p'.inits.idxOf? fn0=none)(gO:(p'.funcs[fn0]?).map (·.results)=(p.funcs[fn0]?).map (·.results))
  (Ly:∀f a w nE,cQ.spec f a w nE->nO p f/\a.size=arity p f)
  (acn:∀f L,cQ.libs f L->IL p F L fn0 f)
  (iJ:∀v bg V W σ τ d,R v (a8 V τ d)->aZ (bH p F) σ v bg->dN (bH p F) σ ro V W->e7 W0 W->Post bg W)
  {f:Frame} {cs:List Frame} {V:World} (h:Way p (mM R) f cs V):∀(bj:Frame)(cs':List Frame)(S:Nat->Prop)(ρ:bA)(W:World)(gs:Array Goroutine)(sl:Option (Nat×Nat))(t:Trace)(q:Nat->Nat),
   CK p p' F ([],fn0,false) dv [] ρ (f,cs) (bj,cs')->oP p p' F ro W0 S ρ V W (G bj cs') gs t q->Ends p' (Go.Conc.Good p' Post) (crowd gs W sl) t:=by
 induction h with
 |@done fr cs w h=>
  intro bj cs' S ρ W gs sl t q h6 hm;exfalso;obtain⟨U,_⟩:=h w.tape 0;subst U;rcases h6 with h|⟨g,a,a',us,us',aK,aO,ao,aN,au,bh⟩
  ·obtain⟨_,_,_,_,aK,_,aO⟩:=h.shape;cases aK;exact aO rfl
  ·injection aK with bS b8;subst b8;cases bh
 |@step fr cs V hz nm w2 es he bh ah k az=>
  intro bj cs' S ρ W gs sl t q h6;have s9:=Ri h6 he;clear h6;generalize e3:sumTo gs.size q=M;induction M using Nat.strongRecOn generalizing S W gs sl t q with
  |_ M KT=>
   intro hm;rcases Ka (sl:=sl) hm.g0 rfl hm.ey hm.pa with⟨d,fT,oD⟩|⟨ed,d,fT,ops,dF,oD,bX,rP,ak,BZ,tz,aU⟩
   ·have hm:=hm.at (p:=p) d;by_cases il:fr.mode=.returning->fr.defers=[]->cs≠[dv]
    ·have mD:wF fr:=by
      cases s9 with
      |bot h=>exact noMark h (by simp[rr])
      |cons h _=>exact noMark h (by simp[rr])
     obtain⟨τ,d2,σ,f1,cs1,bF,es1,U,ab,al,aJ,bm,_,_⟩:=Ia (main:=true) ae dH hm.wr hm.og s9 il mD bh ah;have sS:=runT_crowd_go (P:=p') (sl:=fT) (i:=0) hm.g0 (show stepG p' (0==0) (G bj cs') (W.at d)=_ from U);have aU:0<gs.size:=(Array.getElem?_eq_some_iff.1 hm.g0).1;have nk:∀b,S b->∀a,¬σ a b:=λb hb a bL=>by
      rcases aJ.new a b bL with h|h
      ·exact hm.ma b hb a h
      ·exact absurd (hm.shl b hb) (by omega)
     have gX:∀a b,σ a b->b<bF.heap.size:=λa b bL=>by
      obtain⟨_,_,_,k,_⟩:=al.obj _ _ bL;exact(Array.getElem?_eq_some_iff.1 k).1
     refine Ends.next (oD.trans sS) (az τ d2 f1 cs1 S σ bF _ fT _ q ab ⟨by simp[aU],Leavers.step0 hm.ey hm.g0,(hm.pa.mono aJ.size).own bm nk gX,λop aE=>by
      simp only[Array.size_setIfInBounds,Array.size_map];rcases Array.mem_append.1 aE with h|h
      ·exact hm.k4 op h
      ·obtain⟨e,_,rfl⟩:=Go.Conc.mem_ofEvents h;exact aU,nk,λb hb=>Nat.lt_of_lt_of_le (hm.shl b hb) aJ.size,al,λb hb=>hm.og b (Nat.le_trans aJ.size hb),λa b bL hb=>?_,⟨Nat.le_trans hm.db.size aJ.size,aJ.os.trans hm.db.os,aJ.out.trans hm.db.out,λb hb=>?_⟩⟩)
     ·rcases aJ.new a b bL with h|h
      ·exact hm.old a b h hb
      ·exact absurd (Nat.lt_of_lt_of_le hb hm.db.size) (by omega)
     ·refine(aJ.keep b (Nat.lt_of_lt_of_le hb hm.db.size) ?_).trans (hm.db.blk b hb);by_cases hex:∃a,ρ a b
      ·obtain⟨a,au⟩:=hex;exact .inr (hm.old a b au hb)
      ·exact .inl λa au=>hex ⟨a,au⟩
    ·have hcs:cs=[dv]:=Classical.byContradiction λh=>il λ_ _=>h;have jZ:fr.mode=.returning:=Classical.byContradiction λh=>il λU _=>absurd U h;have iY:fr.defers=[]:=Classical.byContradiction λh=>il λ_ U=>absurd U h;subst hcs;cases s9 with
     |cons _ h=>cases h with
      |cons _ ab=>cases ab
     |bot h=>
      have dX:=h.nn _ rfl;dsimp only at dX;obtain⟨τ,d2,σ,v,bg,bF,es1,U,ab,al,aJ,bm,bI,cS⟩:=X6 (fn0:=fn0) ae hm.wr hm.og h jZ iY (by rw[dX];exact gO) (by rw[dX];exact c1) bh;have xt:=k τ d2;rw[ab,al]at xt;obtain⟨ajz,d3,cn⟩:=IC xt;have sS:=runT_many_ended (P:=p') (sl:=fT) (i:=0) hm.g0 (show stepG p' (0==0) (G bj []) (W.at d)=_ from U);have nk:∀b,S b->∀a,¬σ a b:=λb hb a bL=>by
       rcases bI.new a b bL with h|h
       ·exact hm.ma b hb a h
       ·exact absurd (hm.shl b hb) (by omega)
      have gX:∀a b,σ a b->b<bF.heap.size:=λa b bL=>by
       obtain⟨_,_,_,k,_⟩:=bm.obj _ _ bL;exact(Array.getElem?_eq_some_iff.1 k).1
      have vy:e7 W0 bF:=⟨Nat.le_trans hm.db.size bI.size,bI.os.trans hm.db.os,bI.out.trans hm.db.out,λb hb=>by
       refine(bI.keep b (Nat.lt_of_lt_of_le hb hm.db.size) ?_).trans (hm.db.blk b hb);by_cases hex:∃a,ρ a b
       ·obtain⟨a,au⟩:=hex;exact .inr (hm.old a b au hb)
       ·exact .inl λa au=>hex ⟨a,au⟩⟩
      have UO:=((hm.pa.mono bI.size).own (fn:=bj.fn) (pos:=bj.place) cS nk gX).rq;refine Ends.last (oD.trans sS) ⟨bg,rfl,iJ v bg _ bF σ ajz d3 cn aJ bm vy,UO.clean,UO.over,⟨λx aj=>?_,rfl⟩,λj x aj aC=>?_⟩
      ·obtain⟨j,aC⟩:=List.mem_iff_getElem?.1 aj;rw[List.getElem?_drop]at aC;exact⟨_,(hm.ey.old (1+j) x (by omega) (by simpa[crowd]using aC)).leaves⟩
      ·have aH:=hm.ey.old j x (by omega) aj;refine⟨q j,?_⟩;have e:(t++MemOp.ofEvents 0 bj.fn bj.place es1).deaf j (t++MemOp.ofEvents 0 bj.fn bj.place es1).size=Deaf t j:=
        Deaf_other t (g:=j) (g':=0) (by omega) _ (λop aE=>by obtain⟨e,_,rfl⟩:=Go.Conc.mem_ofEvents aE;rfl)
       show Goroutine.endsWith p' _ _ _ _=_;rw[show(t++MemOp.ofEvents 0 (G bj []).frame.fn (G bj []).frame.place es1).deaf j (t++MemOp.ofEvents 0 (G bj []).frame.fn (G bj []).frame.place es1).size=Deaf t j from e];exact aH.hears _
   ·exact Ends.next oD (KT (sumTo ed.size dF) (by rw[bX,←e3];exact aU) S (W.at d) ed fT _ dF rfl ⟨rP,ak,tz,λop aE=>(by rw[bX];exact(Array.mem_append.1 aE).elim (hm.k4 op) (BZ op)),hm.ma,hm.shl,hm.wr.B0 _ d,hm.og,hm.old,⟨hm.db.size,hm.db.os,hm.db.out,hm.db.blk⟩⟩)
 |@spec f args c cs V nE ah ao k az=>
  intro bj cs' S ρ W gs sl t q h6 hm;obtain⟨mH,bX⟩:=Ly _ _ _ _ (ao W.tape 0);rcases h6 with h|⟨g,a,a',us,us',aK,aO,Ua,aN,au,bh⟩
  ·exfalso;obtain⟨X,aQ,_⟩:=h.top;exact V4 dH mH aQ
  ·dsimp only at aK aO;injection aK with bS b8;injection aO with en l9;subst b8 en l9;have ue:f=g:=congrArg Frame.fn bS;subst ue;have ai0:args=a:=by
    have UP:=congrArg Frame.tmps bS;simp only[Frame.enter]at UP;have UQ:=congrArg Array.toList UP;simp only[Array.toList_append]at UQ;have:=(List.append_inj UQ (by simp[bX,aN])).1;exact Array.toList_inj.1 this
   subst ai0;obtain⟨u,u',cs1,UR,L6,ajA,_⟩:=bh.shape;injection L6 with ai1 ai2;subst ai1 ai2 ajA;obtain⟨X,ly,n8⟩:=bh.top;refine fH f args a' u' UR S ρ V W gs sl t q nE mH bX ao au ?_ hm λσ v bg k3 bF ba hQ lr t1 cy tK hle fp xu=>?_
   ·exact aa5 ly.mode
   ·exact az v k3 tK (u'.finish bg) UR ba σ bF hQ lr t1 cy (.inl (n8 σ _ _ hle ((ly.mono hle).finish fp))) xu
 |@lu f L apM n args c cs V anK ak aT ah akU anr k az=>
  intro bj cs' S ρ W gs sl t q h6 hm;exact aeK ae dH (acn f L ak) aT akU anr (λv w' ai bj cs' S ρ W gs sl t q U ab=>az v w' ai bj cs' S ρ W gs sl t q U ab) bj cs' S ρ W gs sl t q h6 hm
end
end
section
open Go Go.Conc
section
variable{p p':Program}{F:FuncId->Bool}{fn0:FuncId}{W:World}{Post:Value->World->Prop}
theorem je.acV{iF US:Prop}(h:iF->US){C:ee}{ρ:bA}{x y:Item}(k:je p F iF C ρ x y):je p F US C ρ x y:=by
 cases k with
 |code k=>exact .code k
 |reg k bB bf=>exact .reg k bB λx=>h (bf x)
 |inBlock=>exact .inBlock
 |inLoop k=>exact .inLoop k
 |inScope k=>exact .inScope k
 |inRegion k bB bf=>exact .inRegion k bB λx=>h (bf x)
 |wz k=>exact .wz k
 |uy k=>exact .uy k
 |begin=>exact .begin
theorem hh.ad6{C:ee}{ρ:bA}{f bj:Frame}(h:hh p F p' C ρ none f bj)(ad:f.roundOf=none)(X:List Deferred×FuncId×Bool)(U:X.1=[])(ab:X.2.1=f.fn):hh p F p' C ρ (some X) f bj:=by
 obtain⟨ds,gE,jY⟩:=h.defers;exact⟨h.fn,h.tmps,h.todo.mono λ_ _ x=>x.acV λe=>e.elim,⟨ds,gE,by rw[jY];simp[U]⟩,h.mode,h.kind,λe=>(by cases e),h.round,λ_=>ad,λe=>(by cases e),h.cE,λx e=>by cases e;exact ab.symm,h.tV,λ_ _ _=>h.mZ rfl⟩
def rows(W:World):Nat->Prop:=λb=>∃c e f,W.heap[b]?=some (.cells c e f)
theorem XN[cQ]{R:Ending->World->Prop}(ae:PP (bH p F) p p')(dH:pk p p' F)(vL:p.globals.size<=W.heap.size)(fH:IG p p' F (rows W) W (Go.Conc.Good p' Post))(aw:F fn0=true)(c1:p'.inits.idxOf? fn0=none)
  (Ly:∀f a w nE,cQ.spec f a w nE->nO p f/\a.size=arity p f)
  (acn:∀f L,cQ.libs f L->IL p F L fn0 f)
  (iJ:∀v bg V bF σ,R (.returned v) V->aZ (bH p F) σ v bg->dN (bH p F) σ (rows W) V bF->e7 W bF->Post bg bF)
  {V:World} (ql:dN (bH p F) (ef (rows W)) (rows W) V W) {args:Array Value} (au:cv (bH p F) (ef (rows W)) args args) (ah:lb p fn0 args V R):Ends p' (Go.Conc.Good p' Post) (solo (G (Frame.enter p' fn0 args .normal) []) W) #[]:=by
 have hw:=ah (mM λv w=>∃τ d,R (.returned v) (a8 w τ d)) dv [] (.inl rfl) λv w' ai=>.done λτ d=>⟨rfl,v,rfl,w'.tape,w'.drawn,ai⟩;rw[solo_eq_crowd];have ly:=OG dH aw au;have gO:(p'.funcs[fn0]?).map (·.results)=(p.funcs[fn0]?).map (·.results):=ly.res rfl rfl;refine Zx (fn0:=fn0) ae dH fH c1 gO Ly acn (λv bg V bF σ τ d ⟨cI,d1,U⟩ ab al aJ=>iJ v bg _ bF σ U ab (al.a8 cI d1) aJ) hw _ [] (λ_=>False) (ef (rows W)) W #[G (Frame.enter p' fn0 args .normal) []] none #[] (λ_=>0) (.inl (.bot (ly.ad6 rfl _ rfl rfl))) ⟨rfl,leavers_one _ _,⟨?_,λi op x hi=>by simp at hi,λl _ i a au=>by simp[touchAt,Trace.act?]at au,λi a au=>by simp[touchAt,Trace.act?]at au⟩,λop aE=>by simp at aE,λb hb=>hb.elim,λb hb=>hb.elim,ql,?_,λa b bL _=>?_,e7.refl W⟩
 ·have e:hP (λ_=>False)=λ_=>False:=by
   funext l;exact propext ⟨λ⟨_,_,h⟩=>h,λh=>h.elim⟩
  rw[e];exact past_nil.mono (Nat.zero_le _)
 ·rintro b hb ⟨c,e,f,h⟩;have:=(Array.getElem?_eq_some_iff.1 h).1;omega
 ·rw[bL.1];exact bL.2
end
end
section
open Go Go.RowKit Go.WideShapes Go.ChangeShapes Go.Conc
variable[cQ]
section
variable{H:Type}{enc:TypeId×Value->H}{P:Program}{w V:World}{spare:Nat->Bool}{held:Bool}{C:ee}{M:Nat->Prop}
theorem Ps{a:Addr}{v:Value}(h:w.cell? a=some v):∃c e f,w.heap[a.block]?=some (.cells c e f):=by grind [World.cell?]
theorem Ie{α β:Type}{R:α->β->Prop}{xs:List α}{ys:List β}(h:df R xs ys):∀(i:Nat) x y,xs[i]?=some x->ys[i]?=some y->R x y:=by
 induction h with
 |nil=>grind
 |cons h _ az=>grind
theorem QC:∀(ob:List Field)(o e:Nat),qh P ob o e=true->o<=e
 |[],o,e,h=>by grind [qh]
 |f::ob,o,e,h=>by
  simp[qh]at h;have:=QC ob _ e h.2;omega
theorem Pt{R:Value->Value->Prop}{cs:List Value}:∀(ob:List Field)(o e:Nat),qh P ob o e=true->(∀(i:Nat) f,ob[i]?=some f->df R ((cs.drop f.offset).take (P.cellsOf f.type)) ((cs.drop f.offset).take (P.cellsOf f.type)))->df R ((cs.drop o).take (e-o)) ((cs.drop o).take (e-o))
 |[],o,e,h,_=>by
  simp[qh]at h;subst h;rw[Nat.sub_self,List.take_zero];exact .nil
 |f::ob,o,e,h,au=>by
  simp[qh]at h;obtain⟨rfl,h⟩:=h;have hle:=QC ob _ e h;have U:=Pt ob _ e h λi bj aQ=>au (i+1) bj (by grind);have aK:(cs.drop f.offset).take (e-f.offset)=(cs.drop f.offset).take (P.cellsOf f.type)++(cs.drop (f.offset+P.cellsOf f.type)).take (e-(f.offset+P.cellsOf f.type)):=by rw[show e-f.offset=P.cellsOf f.type+(e-(f.offset+P.cellsOf f.type))by omega,List.take_add,List.drop_drop]
  rw[aK];exact(au 0 f rfl).append U
variable(fM:∀b,spare b=true)(e3:∀b c e f,w.heap[b]?=some (.cells c e f)->M b)(bX:V.heap.size=w.heap.size)(ew:∀b o v,M b->w.cell? ⟨b,o,none⟩=some v->aZ C (ef M) v v->V.cell? ⟨b,o,none⟩=some v)
include fM e3 bX ew
theorem HG:∀(fuel k:Nat)(t:TypeId)(cs:List Value)(x:DataW H×List MemPlace),DataW.trod enc P w 0 spare held fuel t cs=some x->sN P k t=true->df (aZ C (ef M)) cs cs/\∃pcs,bl iK V pcs cs/\qg P k t pcs
 |0,k,t,cs,x,h,_=>by trivial
 |fuel+1,0,t,cs,x,h,aq=>by trivial
 |fuel+1,k+1,t,cs,x,h,aq=>by
  unfold sN at aq;split at aq
  ·rename_i hu;obtain⟨b,rfl,_⟩:=DataW.trod_bool hu h;exact⟨.cons .bool .nil,[.bool b],⟨_,_,rfl,rfl,rfl⟩,by grind [qg]⟩
  ·rename_i i hu;obtain⟨n,rfl,_,hw⟩:=DataW.trod_int hu h;exact⟨.cons .int .nil,[.int i n],⟨_,_,rfl,rfl,rfl⟩,by grind [qg]⟩
  ·rename_i hu;obtain⟨s,rfl,_⟩:=DataW.trod_string hu h;exact⟨.cons .string .nil,[.str s],⟨_,_,rfl,rfl,rfl⟩,by grind [qg]⟩
  ·rename_i e hu;simp only[Bool.and_eq_true,decide_eq_true_eq]at aq;obtain⟨aiz,eb⟩:=aq;unfold qg;rw[hu];rcases DataW.trod_slice hu h with⟨rfl,_⟩|⟨a,len,cap,elems,rest,n,aI,rfl,_,_,F7,ama,amb,s7,wN,_⟩
   ·exact⟨.cons .bC .nil,[.bC],⟨_,_,rfl,rfl,rfl⟩,.inl rfl⟩
   ·have qv:fuel=n:=by omega
    subst qv;have m5:∀x,(a.add x).off=a.off+x/\(a.add x).block=a.block:=λx=>by grind [Addr.add]
    obtain⟨ls,gk,bQ⟩:=pick (Q:=λi l=>∃l5,w.cells? 0 (a.add (i*P.cellsOf e)) (P.cellsOf e)=some l5/\df (aZ C (ef M)) l5 l5/\bl iK V l l5/\qg P k e l) len λi hi=>by
     have aN:=s7 i hi;have:elems[i]?=some elems[i]:=by simp
     rw[this]at aN;obtain⟨l5,hA,oT⟩:=Option.bind_eq_some_iff.1 aN;obtain⟨Uz,pcs,oM,lZ⟩:=HG fuel k e l5 _ oT aiz;grind
    have hlen:∀l∈ls,qg P k e l/\l.length=P.cellsOf e:=λl ak=>by
     obtain⟨i,hi⟩:=List.mem_iff_getElem?.1 ak;obtain⟨l5,ah,_,ai,ao⟩:=bQ i l hi;exact⟨ao,by rw[mg ai];exact(D5 ah eb).2.1⟩
    have uX:aZ C (ef M) (.slice (some a) len cap) (.slice (some a) len cap):=by
     by_cases aiA:cap=0
     ·have n9:len=0:=by omega
      subst aiA n9;exact .jc
     ·have hex:∃i l5,w.cells? 0 (a.add (i*P.cellsOf e)) (P.cellsOf e)=some l5:=by
       by_cases n9:len=0
       ·obtain⟨eh,r2⟩:=wN (fM _);have aN:=r2 0 (by omega);have:rest[0]?=some (rest[0]'(by omega)):=by simp
        rw[this]at aN;obtain⟨l5,hA,_⟩:=Option.bind_eq_some_iff.1 aN;exact⟨_,l5,hA⟩
       ·have jX:ls[0]?=some (ls[0]'(by omega)):=by simp
        obtain⟨l5,ah,_⟩:=bQ 0 _ jX;exact⟨0,l5,ah⟩
      obtain⟨i,l5,ah⟩:=hex;obtain⟨_,iu,mX⟩:=D5 ah eb;have:=mX 0 (l5[0]'(by omega)) (by simp);rw[(m5 _).2]at this;obtain⟨c,e,f,du⟩:=Ps this;exact .sl ⟨⟨⟨rfl,e3 _ _ _ _ du⟩,rfl,rfl⟩,e3 _ _ _ _ du⟩
    refine⟨.cons uX .nil,[.sl none (P.cellsOf e) a.off ls.length ls.flatten],⟨_,_,rfl,?_,rfl⟩,.inr ⟨a.off,ls,rfl,by rw[gk];omega,hlen⟩⟩;simp only[aY];refine⟨MT λl ak=>(hlen l ak).2,some a,cap,by rw[gk],by rw[gk];exact F7,?_⟩;by_cases aT:len=0
    ·exact .inl (by simpa[gk]using aT)
    ·have jX:ls[0]?=some (ls[0]'(by omega)):=by simp
     obtain⟨l5,ah,_,ai,ao⟩:=bQ 0 _ jX;simp only[Nat.zero_mul,Addr.add,if_true]at ah;obtain⟨SL,iu,mX⟩:=D5 ah eb;have FZ:M a.block/\a.block<V.heap.size:=by
      have:=mX 0 (l5[0]'(by omega)) (by simp);obtain⟨c,e,f,du⟩:=Ps this;exact⟨e3 _ _ _ _ du,by rw[bX];exact(Array.getElem?_eq_some_iff.1 du).1⟩
     refine .inr ⟨a.block,by obtain⟨b,o,s⟩:=a;simp only at SL;subst SL;rfl,⟨By _,FZ.2⟩,MU (c:=P.cellsOf e) λi l ak=>?_⟩;obtain⟨lz,gv,mH,iw,_⟩:=bQ i l ak;obtain⟨_,agy,adQ⟩:=D5 gv eb;refine⟨by rw[mg iw,agy],r5.2 λj p aC=>?_⟩;obtain⟨v,U,ab⟩:=o1 iw aC;have:=adQ j v U;rw[(m5 _).1,(m5 _).2]at this;exact⟨v,ew _ _ _ FZ.1 this (Ie mH j v v U U),ab⟩
  ·rename_i fs hu;simp only[Bool.and_eq_true,List.all_eq_true]at aq;obtain⟨aiB,du⟩:=aq;unfold qg;rw[hu];obtain⟨xs,n,aI,_,iu,amc,s7⟩:=DataW.trod_struct hu h;have qv:fuel=n:=by omega
   subst qv;obtain⟨ls,gk,bQ⟩:=pick (Q:=λi l=>∀f,fs[i]?=some f->df (aZ C (ef M)) ((cs.drop f.offset).take (P.cellsOf f.type)) ((cs.drop f.offset).take (P.cellsOf f.type))/\bl iK V l ((cs.drop f.offset).take (P.cellsOf f.type))/\qg P k f.type l) fs.size λi hi=>by
    have aQ:fs[i]?=some fs[i]:=by simp
    have aN:=s7 i fs[i] aQ;have:xs[i]?=some (xs[i]'(by omega)):=by simp
    rw[this]at aN;obtain⟨Uz,pcs,oM,lZ⟩:=HG fuel k _ _ _ aN (aiB _ (by simp));exact⟨pcs,λf pJ=>by rw[aQ]at pJ;injection pJ with pJ;subst pJ;exact⟨Uz,oM,lZ⟩⟩
   obtain⟨_,ab,al⟩:=Nv fs.toList ls 0 (P.cellsOf t) du (by simpa using gk) (λi f l aQ ak=>(bQ i l ak f (by simpa using aQ)).2.1) (by omega);have lh:=Pt (R:=aZ C (ef M)) (P:=P) (cs:=cs) fs.toList 0 (P.cellsOf t) du λi f aQ=>by
    have hi:i<fs.size:=by simpa using(List.getElem?_eq_some_iff.1 aQ).1
    have aiC:ls[i]?=some (ls[i]'(by omega)):=by simp
    exact(bQ i _ aiC f (by simpa using aQ)).1
   refine⟨by simpa[←iu]using lh,ls.flatten,?_,ls,rfl,gk,λi f l aQ ak=>⟨(bQ i l ak f aQ).2.2,al i f l (by simpa using aQ) ak⟩⟩;simpa[←iu]using ab
  ·cases aq
omit fM e3 bX ew in
theorem acp{pcs:List aa}{v:Value}(ah:v.cells=#[v])(h:bl iK V pcs v.cells.toList):∃q,pcs=[q]/\aY iK V q v:=single ah h
theorem aaK{k:Nat}{t:TypeId}{v:Value}{d:DataW H}{ps:List MemPlace}{r:Reach}{gf:Nat}(h:DataW.Trod enc P w 0 spare held t v d ps)(ai:Value.okWide P w r gf t v)(aq:sN P k t=true):aZ C (ef M) v v/\∃q,aY iK V q v/\l4 P k t q:=by
 obtain⟨fuel,aQ⟩:=h;obtain⟨aT,pcs,U,ab⟩:=HG fM e3 bX ew fuel k t _ _ aQ aq;cases k with
 |zero=>trivial
 |succ k=>
  unfold sN at aq;have flat:∀{d},P.underlying t=some d->(∀fs,d≠.struct fs)->(∀n e,d≠.array n e)->v.cells=#[v]->aZ C (ef M) v v/\∃q,aY iK V q v/\l4 P (k+1) t q:=λ{d} hu xD TZ ah=>by
   obtain⟨q,rfl,aH⟩:=acp ah U;refine⟨?_,q,aH,?_⟩
   ·rw[ah]at aT;exact Ie aT 0 v v rfl rfl
   grind [l4,ik]
  split at aq
  ·rename_i hu;obtain⟨b,rfl⟩:=okWide_bool hu ai;exact flat hu (λ_=>by simp) (λ_ _=>by simp) rfl
  ·rename_i i hu;obtain⟨n,rfl⟩:=okWide_int hu ai;exact flat hu (λ_=>by simp) (λ_ _=>by simp) rfl
  ·rename_i hu;obtain⟨s,rfl⟩:=okWide_string hu ai;exact flat hu (λ_=>by simp) (λ_ _=>by simp) rfl
  ·rename_i e hu;obtain⟨a,len,cap,rfl⟩:=okWide_slice hu ai;exact flat hu (λ_=>by simp) (λ_ _=>by simp) rfl
  ·rename_i fs hu;obtain⟨cs,rfl,_⟩:=okWide_struct hu ai;refine⟨aZ.te (bE.As aT),.agg pcs,?_,?_⟩
   ·exact⟨cs.toList,by simp,U⟩
   grind [l4,ik]
  ·cases aq
theorem On{k:Nat}{r:Reach}{gf:Nat}:∀{fl:List TypeId}{af:List Value}{ds:List (DataW H)}{ps:List MemPlace},DataW.TrodAll enc P w 0 spare held fl af ds ps->(∀(j:Nat) t v,fl[j]?=some t->af[j]?=some v->Value.okWide P w r gf t v)->fl.all (sN P k)=true ->
  df (aZ C (ef M)) af af/\∃bz,bl iK V bz af/\qu P k fl bz
 |[],[],[],_,_,_,_=>⟨.nil,[],rfl,trivial⟩
 |t::fl,v::af,d::ds,ps,h,ai,aq=>by
  obtain⟨p,q,U,ab,_⟩:=h;simp only[List.all_cons,Bool.and_eq_true]at aq;obtain⟨xG,x,lv,dG⟩:=aaK fM e3 bX ew U (ai 0 t v rfl rfl) aq.1;obtain⟨nc,bz,tG,xI⟩:=On ab (λj t v a1 iw=>ai (j+1) t v (by grind) (by grind)) aq.2;exact⟨.cons xG nc,x::bz,⟨v,af,rfl,lv,tG⟩,dG,xI⟩
 |[],[],_::_,_,h,_,_=>h.elim
 |[],_::_,_,_,h,_,_=>h.elim
 |_::_,[],_,_,h,_,_=>h.elim
 |_::_,_::_,[],_,h,_,_=>h.elim
end
end
end Go.Proofs.YtlminnpaeaganaaGreat
