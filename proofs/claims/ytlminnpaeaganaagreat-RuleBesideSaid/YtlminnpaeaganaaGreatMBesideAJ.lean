/- Part of the proof of RuleBeside. No condition. -/
import Derived.Conc.Events
import Derived.Laws.Sem
import Derived.Conc.Beside
import Derived.Conc.CrowdTrace
import Derived.Test.YtlminnpaeaganaaGreatMBesideAA
import Derived.Test.YtlminnpaeaganaaGreatMBesideAI
namespace Go.Proofs.YtlminnpaeaganaaGreat
set_option maxRecDepth 100000
set_option linter.all false
section
open Go Go.Conc
def BJ(p:Program)(F:FuncId->Bool):Item->Prop
 |.code c=>∀y,c≠.refuse y
 |.inLoop _ | .inScope _=>True
 |.inRegion ops _=>(ops.toList.all λo=>mx p F o.op)=true
 |.inBlock _ | .inRangeFunc _ | .endRangeFunc _ | .beginRound=>True
 |_=>False
structure BK(p:Program)(F:FuncId->Bool)(fr:Frame):Prop where
 items:∀it∈fr.todo,BJ p F it
 mode:fr.mode=.run\/fr.mode=.returning
 defers:fr.mode=.returning->∀d ds,fr.defers=d::ds->∃r,d.target=.collected r
def JX(fr:Frame)(cs:List Frame):Prop:=(fr.kind=.normal/\cs≠[])\/(fr.roundOf=none/\(fr.mode=.returning->fr.defers≠[]))
section
variable{p q:Program}{F:FuncId->Bool}{main:Bool}{w:World}{fr:Frame}{cs:List Frame}
theorem yM{α:Type}{s:Sem α}{f:α->Sem (Frame×List Frame)}
  (fU:∀a w1 es1,s.runT p w #[]=(.ok a w1,es1)->p8 p main fr cs w ((f a).runT p w1 es1))
  (akW:∀v w1 es1,s.runT p w #[]=(.halt (.panic v) w1,es1)->p8 p main fr cs w (.halt (.panic v) w1,es1))
  (bh:∀h w1 es1,Halt.still h->s.runT p w #[]=(.halt h w1,es1)->∃o w2 es2,stepG p main (G fr cs) w=.ended o w2 es2):p8 p main fr cs w ((s >>= f).runT p w #[]):=by
 rw[OF];cases h:s.runT p w #[]with
 |mk r es1=>
  cases r with
  |ok a w1=>grind
  |halt x w1=>
   cases x with
   |panic v=>grind
   |stuck y=>exact λao=>bh _ _ _ ao h
   |unsupported y=>cases y<;>exact λao=>bh _ _ _ ao h
   |_=>exact λao=>ao.elim
theorem IZ{x:Value}{w1:World}{es1 es2:Array Event}{c:Frame}(ah:∀e∈es2,e∈es1)(h:stepG p main (G fr (c::cs)) w=.go (G (c.finish x) cs) w1 es2):p8 p main fr (c::cs) w ((u5 x (c::cs)).runT p w1 es1):=⟨es2,h,ah⟩
theorem NF{jump:Option Code}(ad:fr.roundOf=none)(aC:L5 jump=true)(h:stepG p main (G fr cs) w=.go (G { fr with mode:=.returning } cs) w #[]):p8 p main fr cs w ((lL fr cs jump).runT p w #[]):=by
 obtain⟨fn,tmps,todo,defers,mode,kind,round⟩:=fr;subst ad;unfold lL;grind [lK]
theorem GV{v:Value}{w1:World}{c:Frame}(aq:fr.kind=.normal):doReturn p main fr (c::cs) none v w1=.go (G (c.finish v) cs) w1 #[]:=by
 unfold doReturn;rw[aq];rfl
theorem Db{jump:Option Code}{l:Nat}(ad:fr.roundOf=some l)(ao:JX fr cs)
  (h:∀r es,(Instr.endRound l jump).runT p w #[]=(r,es)->stepG p main (G fr cs) w=GStep.after (seen p fr.fn es) (match r with | .ok v w=>doReturn p main fr cs none v w | .halt _ w=>.ended (.stuck "range over a function: no such loop" (fr.pos p)) w)):p8 p main fr cs w ((lL fr cs jump).runT p w #[]):=by
 unfold lL;rw[ad];rcases ao with⟨aq,bU⟩|⟨U,_⟩
 ·obtain⟨c,cs',rfl⟩:=List.exists_cons_of_ne_nil bU;refine yM (λv w1 es1 e=>?_) (λv w1 es1 e=>?_) λx w1 es1 ao e=>?_
  ·grind [GV,IZ,uv,GStep.after]
  ·have:=h _ _ e;exact .inr ⟨_,_,_,this⟩
  ·have:=h _ _ e;exact⟨_,_,_,this⟩
 grind
theorem Jb(s:GStep):GStep.after #[] s=s:=by cases s<;>simp[GStep.after]
def RU:List Item->Bool
 |.call ..::_ | .extern ..::_=>false
 |_=>true
theorem NG(fr:Frame)(af:List PanicEntry):¬calm (fr.raise af):=by grind [Frame.raise,calm]
theorem DY{fr0:Frame}{s:Sem Next}{w1:World}{esA es1:Array Event}(aH:(∀g ps a b k,fr0.todo≠.code (.rangeFunc g ps a b)::k)->fr=fr0)(aV:RU fr.todo=true)(FB:∀e∈esA,e∈es1)
  (h:stepG p main (G fr0 cs) w=GStep.after esA (stepG.apply p true fr cs none s w1)):p8 p main fr0 cs w ((s >>= uS p fr cs).runT p w1 es1):=by
 rw[OF];have aK:s.runT p w1 es1=((s.runT p w1 #[]).1,es1++(s.runT p w1 #[]).2):=by rw[Sem.runT_eq,Sem.runT_eq,Sem.events_acc]
 rw[aK];unfold stepG.apply at h;dsimp only at h;rw[if_pos rfl]at h;generalize s.runT p w1 #[]=r at h⊢;obtain⟨r,es⟩:=r;have key:∀(ec:Array Event)(hf:∀e∈ec,e∈es),∀e∈(esA++(seen p fr.fn ec++#[])),e∈es1++es:=by
  intro ec hf e he;simp only[Array.append_empty,Array.mem_append]at he⊢;rcases he with he|he
  ·exact .inl (FB e he)
  ·exact .inr (hf e (uv _ _ e he))
 have FF:∀(x:Array Event),(∀e∈x,e∈es)->∀e∈(if(fr.kind==CallKind.early)=true then #[]else x),e∈es:=λx aj e he=>by
  split at he
  ·simp at he
  ·exact aj e he
 have cr:∀e∈es,e∈es:=λe he=>he;cases r with
 |ok n w2=>
  dsimp only at h⊢;cases n with
  |value v=>exact⟨_,h.trans rfl,key _ (FF es cr)⟩
  |skip=>exact⟨_,h.trans rfl,key _ (FF es cr)⟩
  |enter f a=>
   have ej:=FF es cr;dsimp only at h;generalize(if(fr.kind==CallKind.early)=true then #[]else es)=E at h ej;split at h
   ·rename_i e;rw[e]at aV;simp[RU]at aV
   ·exact⟨_,h.trans rfl,key _ ej⟩
  |round l f t a b=>exact⟨_,h.trans rfl,key _ (FF es cr)⟩
  |_=>exact λx=>x.elim
 |halt x w2=>
  dsimp only at h⊢;cases x with
  |panic v=>exact .inl ⟨fr,_,_,_,h.trans rfl,aH⟩
  |stuck y=>exact λ_=>⟨_,_,_,h.trans rfl⟩
  |unsupported y=>cases y<;>first|exact λ_=>⟨_,_,_,h.trans rfl⟩|exact λx=>x.elim
  |_=>exact λx=>x.elim
theorem QV(h:BK q F fr)(ao:JX fr cs):p8 p main fr cs w ((lD p fr cs).runT p w #[]):=by
 obtain⟨fn,tmps,todo,defers,mode,kind,round⟩:=fr;obtain⟨q2,jZ,iY⟩:=h;dsimp only at q2 jZ iY;rcases jZ with rfl|rfl
 ·unfold lD xc;dsimp only;cases todo with
  |nil=>
   cases round with
   |none=>exact NF rfl rfl (by simp[G,stepG,stepG.exec])
   |some l=>exact Db rfl ao λr es e=>by simp only[G,stepG,stepG.exec];rw[e];cases r<;>rfl
  |cons it k=>
   have hi:=q2 it (by simp);cases it with
   |code ajx=>
    cases ajx with
    |skip=>exact lK (by simp[G,stepG,stepG.exec])
    |label l=>exact lK (by simp[G,stepG,stepG.exec])
    |seq a b=>exact lK (by simp[G,stepG,stepG.exec])
    |block i a=>exact lK (by simp[G,stepG,stepG.exec])
    |loop a=>exact lK (by simp[G,stepG,stepG.exec])
    |scope a=>exact lK (by simp[G,stepG,stepG.exec])
    |cond x a b=>
     dsimp only;split
     ·rename_i t e;exact lK (by simp[G,stepG,stepG.exec,e])
     ·rename_i e;refine C4 ?_;simp only[G,stepG,stepG.exec];cases aj:Frame.eval ⟨fn,tmps,.code (.cond x a b)::k,defers,.run,kind,round⟩ x with
      |bool b=>exact absurd aj (e b)
      |_=>exact⟨_,_,_,rfl⟩
    |ret=>
     cases round with
     |none=>exact NF rfl rfl (by simp[G,stepG,stepG.exec])
     |some l=>exact Db rfl ao λr es e=>by simp only[G,stepG,stepG.exec];rw[e];cases r<;>rfl
    |exit i=>
     dsimp only;split
     ·rename_i bB e;exact lK (by simp[G,stepG,stepG.exec,e])
     ·rename_i e;cases round with
      |none=>exact C4 ⟨_,_,_,by simp[G,stepG,stepG.exec,e];exact⟨rfl,rfl,rfl⟩⟩
      |some l=>exact Db rfl ao λr es e'=>by simp only[G,stepG,stepG.exec,e,Option.elim];rw[e'];cases r<;>rfl
    |goto i=>
     dsimp only;split
     ·rename_i bB e;exact lK (by simp[G,stepG,stepG.exec,e])
     ·rename_i e;cases round with
      |none=>exact C4 ⟨_,_,_,by simp[G,stepG,stepG.exec,e];exact⟨rfl,rfl,rfl⟩⟩
      |some l=>exact Db rfl ao λr es e'=>by simp only[G,stepG,stepG.exec,e,Option.elim];rw[e'];cases r<;>rfl
    |refuse y=>exact absurd rfl (hi y)
    |rangeFunc f ps a b=>
     dsimp only;refine yM (λx w1 es1 e=>?_) (λv w1 es1 e=>?_) λx w1 es1 ao e=>?_
     ·obtain⟨l,mark⟩:=x;dsimp only;refine DY (esA:=seen p fn es1) (λh=>absurd rfl (h _ _ _ _ _)) rfl (uv _ _) ?_;simp only[G,stepG,stepG.exec];rw[e];simp only[resolve,Frame.eval,List.map_toArray,List.map_cons,List.map_nil]
     ·exact .inr (by simp only[G,stepG,stepG.exec];rw[e];exact⟨_,_,_,rfl⟩)
     ·simp only[G,stepG,stepG.exec];rw[e];exact⟨_,_,_,rfl⟩
    |region i ops draw=>
     dsimp only;cases draw with
     |false=>exact lK (by simp[G,stepG,stepG.exec])
     |true=>
      rw[if_pos rfl];refine yM (λx w1 es1 e=>?_) (λv w1 es1 e=>?_) λx w1 es1 ao e=>?_
      ·refine⟨#[],?_,by simp⟩;have e':(choose (.order fn i)).run p w=.ok x w1:=by rw[←Sem.runT_fst p _ w #[],e]
       simp only[G,stepG,stepG.exec,Bool.not_true,Bool.false_eq_true,if_false];rw[e']
      all_goals
       have e':=congrArg Prod.fst e;rw[Sem.runT_fst]at e';simp only[choose,Sem.run]at e';split at e'<;>cases e'
   |inBlock i=>exact lK (by simp[G,stepG,stepG.exec])
   |inLoop a=>exact lK (by simp[G,stepG,stepG.exec])
   |inScope a=>exact lK (by simp[G,stepG,stepG.exec])
   |inRegion ops todo=>
    cases todo with
    |nil=>exact lK (by simp[G,stepG,stepG.exec])
    |cons i rest=>
     dsimp only;cases ar:ops[i]? with
     |none=>exact lK (by simp[G,stepG,stepG.exec,ar])
     |some o=>
      dsimp only;by_cases hw:Region.wanted o (yielded ops tmps)=true
      ·rw[if_pos hw];refine DY (esA:=#[]) (λ_=>rfl) rfl (by simp) ?_;simp only[G,stepG,stepG.exec,ar,Option.map_some,Option.getD_some,hw,if_true,stepG.oper,Frame.oper?];have aq:∀c,o.op≠.defer c:=λc e=>by
        have:=List.all_eq_true.1 hi o (Array.mem_toList_iff.2 (Array.mem_of_getElem? ar));rw[e]at this;simp[mx,E3]at this
       split
       ·rename_i e;exact absurd e (aq _)
       ·rw[Jb]
      ·rw[if_neg hw];refine lK ?_;simp only[G,stepG,stepG.exec,ar,Option.map_some,Option.getD_some,hw];rfl
   |inRangeFunc l=>exact C4 ⟨_,_,_,rfl⟩
   |endRangeFunc l=>
    dsimp only;refine yM (λx w1 es1 e=>?_) (λv w1 es1 e=>?_) λx w1 es1 ao e=>?_
    ·refine⟨seen p fn es1,?_,uv _ _⟩;simp only[G,stepG,stepG.exec];rw[e];simp[GStep.after]
    ·refine .inl ⟨_,[{ v,recovered:=false }],w1,seen p fn es1++#[],?_,λ_=>rfl⟩;simp only[G,stepG,stepG.exec];rw[e];rfl
    ·simp only[G,stepG,stepG.exec];rw[e];cases x<;>first|exact⟨_,_,_,rfl⟩|exact ao.elim
   |beginRound=>
    dsimp only;refine DY (esA:=#[]) (λ_=>rfl) rfl (by simp) ?_;rw[Jb];rfl
   |call d x y z=>simp[BJ]at hi
   |extern x y=>simp[BJ]at hi
 ·unfold lD;dsimp only;cases defers with
  |nil=>
   rcases ao with⟨aq,bU⟩|⟨_,ab⟩
   ·obtain⟨c,cs',rfl⟩:=List.exists_cons_of_ne_nil bU;cases aQ:p.funcs[fn]? with
    |none=>
     dsimp only;refine IZ (es2:=#[]) (by simp) ?_;simp only[G,stepG,unwind,aQ];rw[GV aq];rfl
    |some g=>
     dsimp only;refine yM (λx w1 es1 e=>?_) (λv w1 es1 e=>?_) λx w1 es1 ao e=>?_
     ·refine IZ (es2:=seen p fn es1) (uv _ _) ?_;simp only[G,stepG,unwind,aQ];rw[e];dsimp only;rw[GV aq];simp[GStep.after,G]
     ·simp only[p8,G,stepG,unwind,aQ];rw[e];exact .inr ⟨_,_,_,rfl⟩
     ·simp only[G,stepG,unwind,aQ];rw[e];cases x<;>exact⟨_,_,_,rfl⟩
   ·exact absurd rfl (ab rfl)
  |cons d ds=>
   obtain⟨r,ad⟩:=iY rfl d ds rfl;obtain⟨t,a⟩:=d;dsimp only at ad;subst ad;dsimp only;refine yM (λx w1 es1 e=>?_) (λv w1 es1 e=>?_) λx w1 es1 ao e=>?_
   ·refine⟨seen p fn es1,?_,uv _ _⟩;simp only[G,stepG,unwind];rw[e];simp[GStep.after]
   ·exact .inr (by simp only[G,stepG,unwind];rw[e];exact⟨_,_,_,rfl⟩)
   ·simp only[G,stepG,unwind];rw[e];exact⟨_,_,_,rfl⟩
end
end
section
open Go Go.Conc
def bH(p:Program)(F:FuncId->Bool):ee:=⟨λf=>F f=true,λf n=>o4 p f=true/\n=arity p f,true,p.globals.size,λc=>codeOk p F c=true⟩
theorem Hj{p:Program}{f:FuncId}(h:o4 p f=true):nO p f:=by
 unfold o4 at h;split at h
 ·rename_i fn U;split at h
  ·rename_i c ab;exact⟨fn,c,U,ab,h⟩
  ·cases h
 ·cases h
section
variable{p p':Program}{F:FuncId->Bool}{C:ee}{ρ σ:bA}{X:Option (List Deferred×FuncId×Bool)}{Y:List Deferred×FuncId×Bool}{cO:Frame}{dV:List Frame}{f bj:Frame}{fs oU cs cs':List Frame}
theorem je.mono{iF:Prop}(h:cN ρ σ){x y:Item}(k:je p F iF C ρ x y):je p F iF C σ x y:=by
 cases k with
 |code k=>exact .code k
 |reg k bB bf=>exact .reg k bB bf
 |inBlock=>exact .inBlock
 |inLoop k=>exact .inLoop k
 |inScope k=>exact .inScope k
 |inRegion k bB bf=>exact .inRegion k bB bf
 |wz k=>exact .wz (h _ _ k)
 |uy k=>exact .uy (h _ _ k)
 |begin=>exact .begin
theorem hh.mono(h:cN ρ σ)(k:hh p F p' C ρ X f bj):hh p F p' C σ X f bj:=by
 obtain⟨ds,U,ab⟩:=k.defers;exact⟨k.fn,cv.mono h k.tmps,k.todo.mono λ_ _ x=>x.mono h,⟨ds,U.mono λ_ _ x=>x.mono h,ab⟩,k.mode,k.kind,k.mZ,k.round.mono λ_ _ x=>h _ _ x,k.bot,k.res,k.cE,k.nn,k.tV,k.cU⟩
theorem h5.mono(h:cN ρ σ)(k:h5 p F p' C ρ Y cO dV fs oU):h5 p F p' C σ Y cO dV fs oU:=by
 induction k with
 |bot k=>exact .bot (k.mono h)
 |cons k _ az=>exact .cons (k.mono h) az
theorem h5.top(h:h5 p F p' C ρ Y cO dV (f::cs) (bj::cs')):∃X,hh p F p' C ρ X f bj/\∀σ g g',cN ρ σ->hh p F p' C σ X g g'->h5 p F p' C σ Y cO dV (g::cs) (g'::cs'):=by
 cases h with
 |bot h=>exact⟨_,h,λσ g g' _ aN=>.bot aN⟩
 |cons h k=>exact⟨_,h,λσ g g' ak aN=>.cons aN (k.mono ak)⟩
theorem h5.shape(h:h5 p F p' C ρ Y cO dV fs oU):∃f bj cs cs',fs=f::cs/\oU=bj::cs'/\cs≠[]:=by
 cases h with
 |bot h=>grind
 |cons h k=>
  refine⟨_,_,_,_,rfl,rfl,?_⟩;cases k<;>simp
theorem yq{a a':Array Value}(h:cv C ρ a a')(i:Nat):aZ C ρ (a.getD i undef) (a'.getD i undef):=by
 rw[Array.getD_eq_getD_getElem?,Array.getD_eq_getD_getElem?];rcases h.get i with⟨U,ab⟩|⟨x,y,U,ab,al⟩
 ·rw[U,ab];exact .tuple rfl (by simp)
 grind
theorem hh.eval(aw:∀f,F f=true->C.F f)(h:hh p F p' C ρ X f bj):BI C ρ F f.eval bj.eval:=by
 intro x aj;cases x with
 |tmp t=>exact yq h.tmps t
 |const v=>exact Et aw v aj
 |global g=>cases aj
 |func g=>exact .func (.func (aw g aj)) rfl (by simp) rfl (by simp)
theorem hh.yY(h:hh p F p' C ρ X f bj){t bw:List Item}(a1:df (je p F (rr X) C ρ) t bw):hh p F p' C ρ X { f with todo:=t } { bj with todo:=bw }:=
 ⟨h.fn,h.tmps,a1,h.defers,h.mode,h.kind,h.mZ,h.round,h.bot,h.res,h.cE,h.nn,h.tV,h.cU⟩
theorem hh.finish(h:hh p F p' C ρ X f bj){v bg:Value}(ai:aZ C ρ v bg):hh p F p' C ρ X (f.finish v) (bj.finish bg):=by
 obtain⟨fn,tmps,todo,defers,mode,kind,round⟩:=f;obtain⟨cC,rb,yY,yE,yZ,mZ,yR⟩:=bj;obtain⟨U,ab,al,aJ,bm,bI,cS,et,gp,h7,mF,nv,oV,nu⟩:=h;cases al with
 |nil=>exact⟨U,ab,.nil,aJ,bm,bI,cS,et,gp,h7,mF,nv,oV,nu⟩
 |cons hi aq=>
  cases hi with
  |inRegion u6 kt gZ=>
   rename_i ops ops' todo;cases todo with
   |nil=>exact⟨U,ab,.cons (.inRegion u6 kt gZ) aq,aJ,bm,bI,cS,et,gp,h7,mF,nv,oV,nu⟩
   |cons i rest=>
    refine⟨U,?_,.cons (.inRegion u6 kt gZ) aq,aJ,bm,bI,cS,et,gp,h7,mF,nv,oV,nu⟩;show cv C ρ (match(ops[i]?).bind (·.dst)with|some d=>tmps.setIfInBounds d v|none=>tmps) (match(ops'[i]?).bind (·.dst)with|some d=>rb.setIfInBounds d bg|none=>rb);have e:(ops'[i]?).bind (·.dst)=(ops[i]?).bind (·.dst):=by
     have:=kt.dst i;grind
    grind [bE.set]
  |wz ak=>exact⟨U,ab,.cons (.uy ak) aq,aJ,bm,bI,cS,et,gp,h7,mF,nv,oV,nu⟩
  |begin=>exact⟨U,ab,aq,aJ,bm,bI,cS,et,gp,h7,mF,nv,oV,nu⟩
  |reg ah kt gZ=>exact⟨U,ab,.cons (.reg ah kt gZ) aq,aJ,bm,bI,cS,et,gp,h7,mF,nv,oV,nu⟩
  |code ah=>exact⟨U,ab,.cons (.code ah) aq,aJ,bm,bI,cS,et,gp,h7,mF,nv,oV,nu⟩
  |inBlock=>exact⟨U,ab,.cons .inBlock aq,aJ,bm,bI,cS,et,gp,h7,mF,nv,oV,nu⟩
  |inLoop ah=>exact⟨U,ab,.cons (.inLoop ah) aq,aJ,bm,bI,cS,et,gp,h7,mF,nv,oV,nu⟩
  |inScope ah=>exact⟨U,ab,.cons (.inScope ah) aq,aJ,bm,bI,cS,et,gp,h7,mF,nv,oV,nu⟩
  |uy ak=>exact⟨U,ab,.cons (.uy ak) aq,aJ,bm,bI,cS,et,gp,h7,mF,nv,oV,nu⟩
theorem X3{iF:Prop}(id:Nat){k bB:List Item}(h:df (je p F iF C ρ) k bB):gG (df (je p F iF C ρ)) (exitTo id k) (exitTo id bB):=by
 induction h with
 |nil=>exact .none
 |cons hi aq az=>
  cases hi with
  |inBlock=>
   simp only[exitTo];split
   ·exact .some aq
   ·exact az
  |_=>assumption
theorem G0:∀(c:Code)(l:Nat){r:Code},codeOk p F c=true->findLabel c l=some r->codeOk p F r=true
 |.seq a b,l,r,h,e=>by
  simp[codeOk]at h;simp only[findLabel]at e;split at e
  ·rename_i rest e';cases e;simp[codeOk];exact⟨G0 a l h.1 e',h.2⟩
  ·exact G0 b l h.2 e
 |.label aG,l,r,h,e=>by
  simp only[findLabel]at e;split at e
  ·cases e;rfl
  ·cases e
 |.skip,l,r,h,e=>by cases e
 |.region ..,l,r,h,e=>by cases e
 |.cond ..,l,r,h,e=>by cases e
 |.block ..,l,r,h,e=>by cases e
 |.loop ..,l,r,h,e=>by cases e
 |.scope ..,l,r,h,e=>by cases e
 |.rangeFunc ..,l,r,h,e=>by cases e
 |.refuse ..,l,r,h,e=>by cases e
 |.exit ..,l,r,h,e=>by cases e
 |.goto ..,l,r,h,e=>by cases e
 |.ret,l,r,h,e=>by cases e
theorem X4{iF:Prop}(l:Nat){k bB:List Item}(h:df (je p F iF C ρ) k bB):gG (df (je p F iF C ρ)) (gotoIn l k) (gotoIn l bB):=by
 induction h with
 |nil=>exact .none
 |cons hi aq az=>
  cases hi with
  |@inScope c ah=>
   simp only[gotoIn];cases e:findLabel c l with
   |none=>exact az
   |some r=>exact .some (.cons (.code (G0 c l ah e)) (.cons (.inScope ah) aq))
  |_=>assumption
theorem W3{ops ops':Array Oper}(ad:px p F ops ops'){a a':Array Value}(h:cv C ρ a a'):yielded ops' a'=yielded ops a:=by
 funext j;unfold yielded;have e:(ops'[j]?).bind (·.dst)=(ops[j]?).bind (·.dst):=by
  have:=ad.dst j;grind
 rw[e];cases(ops[j]?).bind (·.dst)with
 |none=>rfl
 |some d=>
  simp ;rcases h.get d with⟨U,ab⟩|⟨x,y,U,ab,al⟩
  ·rw[U,ab]
  ·rw[U,ab];cases al with
   |bT _ _ k=>
    cases y with
    |bool b=>grind
    |_=>rfl
   |_=>rfl
end
section
variable{p p':Program}{F:FuncId->Bool}{ρ:bA}
theorem Dz(ok:b0 (bH p F).G ρ){l aG:Nat}(ak:ρ l aG):dR (bH p F) p p' (λσ=>zO (bH p F) σ) ρ (Instr.getLoop l) (Instr.getLoop aG):=by
 refine ml ak λo o' h=>?_;cases h with
 |loop h=>exact .pure h
 |_=>exact bp
theorem W4(ok:b0 (bH p F).G ρ)(fn:FuncId){t bw:Array Value}(a1:cv (bH p F) ρ t bw)(ps:Array Tmp){a b:Code}(au:codeOk p F a=true)(hb:codeOk p F b=true){r bR:Option Nat}(ad:gG ρ r bR):
  dR (bH p F) p p' (λσ x bk=>σ x.1 bk.1/\df (sj (bH p F) σ) x.2 bk.2) ρ (Instr.enterLoop fn t ps a b r) (Instr.enterLoop fn bw ps a b bR):=by
 have key:∀(σ:bA)(ak:cN ρ σ)(ar:b0 (bH p F).G σ)(d dq:Nat)(m m':List Deferred),σ d dq->df (sj (bH p F) σ) m m' ->
   dR (bH p F) p p' (λσ x bk=>σ x.1 bk.1/\df (sj (bH p F) σ) x.2 bk.2) σ (do pure (←newObj (.loop { state:=.ready,pending:=none,fn,tmps:=t,params:=ps,assign:=a,body:=b,defers:=d }),m)) (do pure (←newObj (.loop { state:=.ready,pending:=none,fn,tmps:=bw,params:=ps,assign:=a,body:=b,defers:=dq }),m')):=λσ ak ar d dq m m' U ab=>
  dR.bind (AG (.loop ⟨rfl,rfl,rfl,cv.mono ak a1,rfl,rfl,rfl,U,λc e=>(by cases e),au,hb⟩)) ar λτ r bR bQ cz ad=>.pure ⟨ad,ab.mono λ_ _ x=>x.mono bQ⟩
 cases ad with
 |none=>exact dR.bind (AG (.FD .nil)) ok λσ r bR ak ar ad=>key σ ak ar _ _ _ _ ad (.cons ⟨.collected ad,bE.nil⟩ .nil)
 |some h=>exact dR.bind (Dz ok h) ok λσ r bR ak ar ad=>key σ ak ar _ _ _ _ ad.defers .nil
variable(ae:PP (bH p F) p p')
include ae
theorem Wq(ok:b0 (bH p F).G ρ){l aG:Nat}(ak:ρ l aG):fJ (bH p F) p p' ρ (Instr.beginRound l) (Instr.beginRound aG):=by
 refine dR.bind (Dz ok ak) ok λσ r bR hle ar ad=>?_;refine cg (qO (hle _ _ ak) (.loop ⟨rfl,ad.pending,ad.fn,ad.tmps,ad.params,ad.assign,ad.body,ad.defers,ad.zP,ad.zQ,ad.zR⟩)) ar λτ _ _ _=>?_;rw[ad.state];cases r.state with
 |ready=>exact .pure rfl
 |_=>exact me (C:=(bH p F)) ae trivial
theorem X5(ok:b0 (bH p F).G ρ){l aG:Nat}(ak:ρ l aG)(j:Option Code)(aC:∀c,j=some c->codeOk p F c=true):dx (bH p F) p p' ρ (Instr.endRound l j) (Instr.endRound aG j):=by
 refine dR.bind (Dz ok ak) ok λσ r bR hle ar ad=>?_;exact cg (qO (hle _ _ ak) (.loop ⟨rfl,rfl,ad.fn,ad.tmps,ad.params,ad.assign,ad.body,ad.defers,aC,ad.zQ,ad.zR⟩)) ar λτ _ _ _=>.pure .bool
theorem Zw(ok:b0 (bH p F).G ρ){l aG:Nat}(ak:ρ l aG):dR (bH p F) p p' (λ_ x bk=>bk=x/\∀c,x=some c->codeOk p F c=true) ρ (Instr.endLoop l) (Instr.endLoop aG):=by
 refine dR.bind (Dz ok ak) ok λσ r bR hle ar ad=>?_;rw[ad.state];refine dc (λ_=>?_) λ_=>?_
 ·exact dR.bind (A:=λ_=>Eq) (me (C:=(bH p F)) ae trivial) ar λτ a b bQ cz _=>cg (qO (bQ _ _ (hle _ _ ak)) (.loop ⟨rfl,ad.pending,ad.fn,cv.mono bQ ad.tmps,ad.params,ad.assign,ad.body,bQ _ _ ad.defers,ad.zP,ad.zQ,ad.zR⟩)) cz λ_ _ _ _=>.pure ⟨ad.pending,ad.zP⟩
 ·exact cg (qO (hle _ _ ak) (.loop ⟨rfl,ad.pending,ad.fn,ad.tmps,ad.params,ad.assign,ad.body,ad.defers,ad.zP,ad.zQ,ad.zR⟩)) ar λ_ _ _ _=>.pure ⟨ad.pending,ad.zP⟩
theorem VI(ok:b0 (bH p F).G ρ){l aG:Nat}(ak:ρ l aG):dR (bH p F) p p' (λσ=>df (sj (bH p F) σ)) ρ (Instr.takeDeferred l) (Instr.takeDeferred aG):=by
 refine ml ak λo o' h=>?_;cases h with
 |FD h=>exact cg (qO ak .Ks) ok λσ _ ak _=>.pure (h.mono λ_ _ x=>x.mono ak)
 |_=>exact bp
theorem HC(ok:b0 (bH p F).G ρ)(fn cC:Func)(dX:cC.results=fn.results){t bw:Array Value}(a1:cv (bH p F) ρ t bw):dx (bH p F) p p' ρ (results fn t) (results cC bw):=by
 unfold results;rw[dX];refine dR.bind (A:=λσ=>cv (bH p F) σ) ?_ ok λσ a a' ak ar au=>?_
 ·rw[Array.mapM_eq_foldlM,Array.mapM_eq_foldlM,←Array.foldlM_toList,←Array.foldlM_toList];generalize fn.results.toList=rs;have key:∀(rs:List ResultVar){ρ:bA}(ok:b0 (bH p F).G ρ){t bw:Array Value}(a1:cv (bH p F) ρ t bw)(acc th:Array Value),cv (bH p F) ρ acc th->dR (bH p F) p p' (λσ=>cv (bH p F) σ) ρ
    (List.foldlM (λbs a=>Functor.map bs.push (match a with | .tmp x=>pure (t.getD x undef) | .cell a ty=>do loadVar ty (←asAddr (t.getD a undef)):Sem Value)) acc rs)
    (List.foldlM (λbs a=>Functor.map bs.push (match a with | .tmp x=>pure (bw.getD x undef) | .cell a ty=>do loadVar ty (←asAddr (bw.getD a undef)):Sem Value)) th rs):=by
   intro rs;induction rs with
   |nil=>intro ρ ok t bw a1 acc th h;exact .pure h
   |cons x rs az=>
    intro ρ ok t bw a1 acc th h;rw[List.foldlM_cons,List.foldlM_cons];refine dR.bind (A:=λσ=>cv (bH p F) σ) ?_ ok λσ b a6 ak ar hb=>az ar (cv.mono ak a1) b a6 hb;rw[map_eq_pure_bind,map_eq_pure_bind];refine dR.bind (A:=λσ=>aZ (bH p F) σ) ?_ ok λσ v bg ak ar ai=>.pure (bE.push (cv.mono ak h) ai);cases x with
    |tmp x=>exact .pure (yq a1 x)
    |cell a ty=>exact dR.bind (aaU ae (yq a1 a)) ok λσ a a' ak ar au=>OA ae ar ty au
  exact key rs ok a1 _ _ bE.nil
 ·refine .pure ?_;have e:=au.1;by_cases U:a.size=1
  ·rw[dif_pos U,dif_pos (e▸U)];exact au.2 0 _ _ (by simp[U]) (by simp[e▸U])
  ·rw[dif_neg U,dif_neg (λx=>U (e.trans x))];exact .tuple' au
end
end
section
open Go Go.Conc
structure pk(p p':Program)(F:FuncId->Bool):Prop where
 fns:∀f,F f=true->∃fn cC c,p.funcs[f]?=some fn/\p'.funcs[f]?=some cC/\fn.body=some c/\cC.body=some c/\cC.ntmps=fn.ntmps/\cC.results=fn.results/\codeOk p F c=true
 UL:p'.follows .mixedOrders=p.follows .mixedOrders
def CK(p p':Program)(F:FuncId->Bool)(Y:List Deferred×FuncId×Bool)(cO:Frame)(dV:List Frame)(ρ:bA)(x y:Frame×List Frame):Prop:=
 h5 p F p' (bH p F) ρ Y cO dV (x.1::x.2) (y.1::y.2)\/aiX p F p' (bH p F) ρ Y cO dV (x.1::x.2) (y.1::y.2)
section
variable{p p':Program}{F:FuncId->Bool}{ρ σ:bA}{X:Option (List Deferred×FuncId×Bool)}{Y:List Deferred×FuncId×Bool}{cO:Frame}{dV:List Frame}{f bj:Frame}{fs oU cs cs':List Frame}
theorem px.refl{ops:Array Oper}(h:(ops.toList.all λo=>mx p F o.op)=true):px p F ops ops:=⟨λ_=>rfl,λ_ _ h _=>h,λ_ _=>rfl,rfl,h⟩
abbrev uf(p p':Program)(F:FuncId->Bool)(Y:List Deferred×FuncId×Bool)(cO:Frame)(dV:List Frame)(ρ:bA)(s s':Sem (Frame×List Frame)):Prop:=dR (bH p F) p p' (CK p p' F Y cO dV) ρ s s'
theorem OG(h:pk p p' F){g:FuncId}(aN:F g=true){a a':Array Value}(au:cv (bH p F) ρ a a'):hh p F p' (bH p F) ρ none (Frame.enter p g a .normal) (Frame.enter p' g a' .normal):=by
 obtain⟨fn,cC,c,U,fG,ab,ha,aJ,bm,al⟩:=h.fns g aN
 ·have aK:∀a,Frame.enter p g a .normal=⟨g,a++Array.replicate (fn.ntmps-a.size) undef,[.code c],[],.run,.normal,none⟩:=λa=>by grind [Frame.enter]
  have aO:∀a,Frame.enter p' g a .normal=⟨g,a++Array.replicate (fn.ntmps-a.size) undef,[.code c],[],.run,.normal,none⟩:=λa=>by grind [Frame.enter]
  rw[aK,aO];refine⟨rfl,?_,.cons (.code al) .nil,⟨[],.nil,rfl⟩,.run,rfl,λ_=>rfl,.none,λe=>(by cases e),λ_ _=>by grind,λ_=>rfl,λ_ e=>(by cases e),by simp,λ_ e=>(by cases e)⟩;rw[au.1];exact bE.append au (bE.replicate _ (.tuple rfl (by simp)))
theorem I0(ae:PP (bH p F) p p')(dH:pk p p' F)(ok:b0 (bH p F).G ρ)(h:h5 p F p' (bH p F) ρ Y cO dV (f::cs) (bj::cs')){n eu:Next}(aI:sk (bH p F) ρ n eu):uf p p' F Y cO dV ρ (uS p f cs n) (uS p' bj cs' eu):=by
 obtain⟨X,aQ,n8⟩:=h.top;cases aI with
 |value ai=>exact .pure (.inl (n8 _ _ _ (cN.refl _) (aQ.finish ai)))
 |skip=>exact .pure (.inl (n8 _ _ _ (cN.refl _) (aQ.finish (.tuple rfl (by simp)))))
 |enter aN au=>exact .pure (.inl (.cons (OG dH aN au) h))
 |@RS g a a' ao au=>exact .pure (.inr ⟨g,a,a',_,_,rfl,rfl,Hj ao.1,ao.2,au,h⟩)
 |round ak au aj aF=>exact .pure (.inl (.cons ⟨rfl,au,.cons (.code aj) (.cons .begin (.cons (.code aF) .nil)),⟨[],.nil,rfl⟩,.run,rfl,λ_=>rfl,.some ak,λe=>(by cases e),λ_ e=>(by cases e),λe=>(by cases e),λ_ e=>(by cases e),by simp[Frame.round],λ_ e=>(by cases e)⟩ h))
theorem JY(ok:b0 (bH p F).G ρ){fs oU:List Frame}(h:h5 p F p' (bH p F) ρ Y cO dV fs oU){v bg:Value}(ai:aZ (bH p F) ρ v bg):uf p p' F Y cO dV ρ (u5 v fs) (u5 bg oU):=by
 obtain⟨f,bj,cs,cs',rfl,rfl,_⟩:=h.shape;obtain⟨X,aQ,n8⟩:=h.top;exact .pure (.inl (n8 _ _ _ (cN.refl _) (aQ.finish ai)))
theorem RV(j:Option Code)(h:L5 j=true\/(∃i,j=some (.exit i))\/∃i,j=some (.goto i)):∀c,j=some c->codeOk p F c=true:=by
 intro c e;subst e;rcases h with h|⟨i,h⟩|⟨i,h⟩
 ·cases c<;>first|rfl|cases h
 ·cases h;rfl
 ·cases h;rfl
theorem acT(ae:PP (bH p F) p p')(ok:b0 (bH p F).G ρ)(h:h5 p F p' (bH p F) ρ Y cO dV (f::cs) (bj::cs'))(j:Option Code)(aC:∀c,j=some c->codeOk p F c=true):uf p p' F Y cO dV ρ (lL f cs j) (lL bj cs' j):=by
 have key:∀X,hh p F p' (bH p F) ρ X f bj->(∀σ g g',cN ρ σ->hh p F p' (bH p F) σ X g g'->h5 p F p' (bH p F) σ Y cO dV (g::cs) (g'::cs'))->(X=none->h5 p F p' (bH p F) ρ Y cO dV cs cs')->uf p p' F Y cO dV ρ (lL f cs j) (lL bj cs' j):=by
  intro X aQ n8 hcs;obtain⟨fn,tmps,todo,defers,mode,kind,round⟩:=f;obtain⟨cC,rb,yY,yE,yZ,mZ,yR⟩:=bj;obtain⟨U,ab,al,aJ,bm,bI,cS,et,gp,h7,mF,nv,oV,nu⟩:=aQ;cases et with
  |none=>
   unfold lL;exact dc (λ_=>.pure (.inl (n8 _ _ _ (cN.refl _) ⟨U,ab,al,aJ,.ret,bI,cS,.none,gp,h7,λ_=>rfl,nv,oV,nu⟩))) λ_=>bp
  |some ak=>
   unfold lL;cases X with
   |some x=>grind
   |none=>exact dR.bind (X5 ae ok ak j aC) ok λσ v bg hle ar ai=>JY ar ((hcs rfl).mono hle) ai
 cases h with
 |bot h=>exact key _ h (λ_ _ _ _ aN=>.bot aN) λe=>by cases e
 |cons h k=>exact key _ h (λ_ _ _ ak aN=>.cons aN (k.mono ak)) λ_=>k
def wF(f:Frame):Prop:=∀ops i rest k o,f.todo=.inRegion ops (i::rest)::k->ops[i]?=some o->q1 o=false
theorem noMark(h:hh p F p' (bH p F) ρ X f bj)(fz:¬rr X):wF f:=by
 intro ops i rest k o e ar;have a1:=h.todo;rw[e]at a1;generalize bj.todo=t at a1;cases a1 with
 |cons hi _=>
  cases hi with
  |inRegion _ _ hm=>grind
variable(ae:PP (bH p F) p p')(dH:pk p p' F)
include ae dH
theorem afp(ok:b0 (bH p F).G ρ)(h:h5 p F p' (bH p F) ρ Y cO dV (f::cs) (bj::cs'))(mD:wF f):uf p p' F Y cO dV ρ (xc p f cs) (xc p' bj cs'):=by
 obtain⟨X,aQ,n8⟩:=h.top;have to:∀σ t bw,cN ρ σ->df (je p F (rr X) (bH p F) σ) t bw->uf p p' F Y cO dV σ (pure ({ f with todo:=t },cs)) (pure ({ bj with todo:=bw },cs')):=λσ t bw ak a1=>.pure (.inl (n8 _ _ _ ak ((aQ.mono ak).yY a1)));have ay:=aQ.eval (λ_ h=>h);have ey:=λj aC=>acT ae ok h j aC;obtain⟨fn,tmps,todo,defers,mode,kind,round⟩:=f;obtain⟨cC,rb,yY,yE,yZ,mZ,yR⟩:=bj;have U:=aQ.fn;have ab:=aQ.tmps;have al:=aQ.todo;have aJ:=aQ.defers;have et:=aQ.round;dsimp only at U ab al aJ et;subst U;unfold xc;dsimp only;cases al with
 |nil=>grind
 |@cons _ _ xs ys hi aq=>
  cases hi with
  |reg ah kt gZ=>
   rename_i i ops ops' draw;dsimp only;cases draw with
   |false=>rw[kt.size];exact to _ _ _ (cN.refl _) (.cons (.inRegion ah kt gZ) aq)
   |true=>
    rw[if_pos rfl,if_pos rfl,dH.UL];exact yy λn=>by rw[kt.sched];exact to _ _ _ (cN.refl _) (.cons (.inRegion ah kt gZ) aq)
  |code ah=>
   rename_i c;cases c with
   |skip=>grind [cN.refl]
   |label l=>grind [cN.refl]
   |seq a b=>
    simp[codeOk]at ah;exact to _ _ _ (cN.refl _) (.cons (.code ah.1) (.cons (.code ah.2) aq))
   |block i a=>exact to _ _ _ (cN.refl _) (.cons (.code ah) (.cons .inBlock aq))
   |loop a=>exact to _ _ _ (cN.refl _) (.cons (.code ah) (.cons (.inLoop ah) aq))
   |scope a=>exact to _ _ _ (cN.refl _) (.cons (.code ah) (.cons (.inScope ah) aq))
   |cond x a b=>
    simp[codeOk]at ah;have aj:=ay x ah.1.1;dsimp only;revert aj;generalize Frame.eval _ x=v;generalize Frame.eval _ x=bg;intro aj;cases aj with
    |@bool t=>exact to _ _ _ (cN.refl _) (.cons (.code (by grind)) aq)
    |_=>exact bp
   |ret=>grind
   |exit i=>
    dsimp only;have aj:=X3 i aq;revert aj;generalize exitTo i _=x;generalize exitTo i _=bk;intro aj;cases aj with
    |none=>exact ey _ (RV _ (.inr (.inl ⟨i,rfl⟩)))
    |some gx=>exact to _ _ _ (cN.refl _) gx
   |goto i=>
    dsimp only;have aj:=X4 i aq;revert aj;generalize gotoIn i _=x;generalize gotoIn i _=bk;intro aj;cases aj with
    |none=>exact ey _ (RV _ (.inr (.inr ⟨i,rfl⟩)))
    |some gx=>exact to _ _ _ (cN.refl _) gx
   |refuse y=>cases ah
   |rangeFunc g ps a b=>
    simp[codeOk]at ah;refine dR.bind (W4 ok cC ab ps ah.1.2 ah.2 et) ok λσ x bk hle ar aj=>?_;obtain⟨l,mk⟩:=x;obtain⟨aG,mk'⟩:=bk;obtain⟨ds,gE,jY⟩:=aJ;have ly:hh p F p' (bH p F) σ X ⟨cC,tmps,.inRangeFunc l::xs,mk++defers,mode,kind,round⟩ ⟨cC,rb,.inRangeFunc aG::ys,mk'++yE,yZ,mZ,yR⟩:=by
     have hm:=aQ.mono hle;exact⟨rfl,hm.tmps,.cons (.wz aj.1) (aq.mono λ_ _ x=>x.mono hle),⟨mk'++ds,aj.2.append (gE.mono λ_ _ x=>x.mono hle),by rw[jY,List.append_assoc]⟩,hm.mode,hm.kind,hm.mZ,hm.round,hm.bot,hm.res,hm.cE,hm.nn,hm.tV,hm.cU⟩
    refine dR.bind (A:=λσ=>sk (bH p F) σ) ?_ ar λτ n eu BH cz aI=>I0 ae dH cz ((n8 _ _ _ hle ly).mono BH) aI;exact M3 ae (λ_ h=>h) (Nat.le_refl _) rfl ar (ly.eval (λ_ h=>h) g ah.1.1) (bE.one (.func (.yield aj.1) rfl (by simp) rfl (by simp)))
   |region i ops draw=>
    dsimp only;have hA:(ops.toList.all λo=>mx p F o.op)=true:=List.all_eq_true.2 λo ar=>by
     have:=List.all_eq_true.1 ah o ar;simp  at this;exact this.1
    have oT:(∃o∈ops,q1 o=true)->rr X:=λ⟨o,ar,hm⟩=>by
     have:=List.all_eq_true.1 ah o (Array.mem_toList_iff.2 ar);simp[hm]at this
    cases draw with
    |false=>exact to _ _ _ (cN.refl _) (.cons (.inRegion hA (px.refl hA) oT) aq)
    |true=>
     rw[if_pos rfl,if_pos rfl,dH.UL];exact yy λn=>to _ _ _ (cN.refl _) (.cons (.inRegion hA (px.refl hA) oT) aq)
  |inBlock=>exact to _ _ _ (cN.refl _) aq
  |inLoop ah=>exact to _ _ _ (cN.refl _) (.cons (.code ah) (.cons (.inLoop ah) aq))
  |inScope ah=>exact to _ _ _ (cN.refl _) aq
  |inRegion u6 kt gZ=>
   rename_i ops ops' todo;cases todo with
   |nil=>exact to _ _ _ (cN.refl _) aq
   |cons i rest=>
    dsimp only;have iJ:uf p p' F Y cO dV ρ (pure (Frame.finish ⟨cC,tmps,.inRegion ops (i::rest)::xs,defers,mode,kind,round⟩ undef,cs)) (pure (Frame.finish ⟨cC,rb,.inRegion ops' (i::rest)::ys,yE,yZ,mZ,yR⟩ undef,cs')):=.pure (.inl (n8 _ _ _ (cN.refl _) (aQ.finish (.tuple rfl (by simp)))));cases ar:ops[i]? with
    |none=>
     have eC:ops'[i]?=none:=by
      rw[Array.getElem?_eq_none_iff]at ar⊢;rw[kt.size];exact ar
     rw[eC];exact iJ
    |some o=>
     have eC:=kt.same i o ar (mD _ _ _ _ _ rfl ar);rw[eC];rw[W3 kt ab];refine dc (λ_=>?_) λ_=>iJ;refine dR.bind (A:=λσ=>sk (bH p F) σ) ?_ ok λσ n eu hle ar aI=>I0 ae dH ar (h.mono hle) aI;exact aa2 ae (λ_ h=>h) (Nat.le_refl _) rfl ok o (List.all_eq_true.1 u6 o (Array.mem_toList_iff.2 (Array.mem_of_getElem? ar))) ay (λ_=>⟨rfl,rfl⟩) λf aQ=>⟨aQ,rfl⟩
  |wz ak=>exact bp
  |uy ak=>
   exact dR.bind (Zw ae ok ak) ok λσ j j5 hle ar aC=>by
    rw[aC.1];refine to _ _ _ hle (df.append ?_ (aq.mono λ_ _ x=>x.mono hle));cases jB:j with
    |none=>exact .nil
    |some c=>exact .cons (.code (aC.2 c jB)) .nil
  |begin=>
   refine dR.bind (A:=λσ=>sk (bH p F) σ) ?_ ok λσ n eu hle ar aI=>I0 ae dH ar (h.mono hle) aI;cases et with
   |none=>exact jW
   |some ak=>exact cg (Wq ae ok ak) ok λ_ _ _ _=>.pure .skip
theorem agL(ok:b0 (bH p F).G ρ)(h:h5 p F p' (bH p F) ρ Y cO dV (f::cs) (bj::cs'))(il:f.mode=.returning->f.defers=[]->cs≠[cO])(mD:wF f):uf p p' F Y cO dV ρ (lD p f cs) (lD p' bj cs'):=by
 suffices key:∀X,hh p F p' (bH p F) ρ X f bj->(∀σ g g',cN ρ σ->hh p F p' (bH p F) σ X g g'->h5 p F p' (bH p F) σ Y cO dV (g::cs) (g'::cs'))->(f.mode=.returning->f.defers=[]->X=none/\h5 p F p' (bH p F) ρ Y cO dV cs cs')->uf p p' F Y cO dV ρ (lD p f cs) (lD p' bj cs')by
  cases h with
  |bot h=>exact key _ h (λ_ _ _ _ aN=>.bot aN) λU ab=>absurd rfl (il U ab)
  |cons h k=>exact key _ h (λ_ _ _ ak aN=>.cons aN (k.mono ak)) λ_ _=>⟨rfl,k⟩
 intro X aQ n8 fz;have aB:=afp ae dH ok h mD;have hm:=aQ.mode;cases jZ:f.mode with
 |run=>
  rw[jZ]at hm;have eX:bj.mode=.run:=by cases e:bj.mode<;>rw[e]at hm<;>first|rfl|cases hm
  grind [lD]
 |returning=>
  rw[jZ]at hm;have eX:bj.mode=.returning:=by cases e:bj.mode<;>rw[e]at hm<;>first|rfl|cases hm
  unfold lD;rw[jZ,eX];obtain⟨ds,gE,jY⟩:=aQ.defers;cases vD:f.defers with
  |nil=>
   rw[vD]at gE;cases gE;have fz:=fz jZ vD;have jv:bj.defers=[]:=by grind
   rw[jv,aQ.fn];have gO:=aQ.res fz.1 (aQ.cE jZ);cases U:p.funcs[f.fn]? with
   |none=>
    have ab:p'.funcs[f.fn]?=none:=by grind
    rw[ab];exact JY ok fz.2 (yq aQ.tmps 0)
   |some fn=>
    rw[U]at gO;obtain⟨cC,ab,al⟩:=Option.map_eq_some_iff.1 gO;rw[ab];exact dR.bind (HC ae ok fn cC al aQ.tmps) ok λσ v bg ak ar ai=>JY ar (fz.2.mono ak) ai
  |cons d amn=>
   rw[vD]at gE;cases gE with
   |cons aV xw=>
    rename_i dq zS;rw[jY];obtain⟨t,a⟩:=d;obtain⟨bw,a'⟩:=dq;have a1:=aV.t;cases a1 with
    |collected ad=>
     refine dR.bind (VI ae ok ad) ok λσ x bk ak ar aj=>.pure (.inl (n8 _ _ _ ak ?_));have kU:=aQ.mono ak;exact⟨kU.fn,kU.tmps,kU.todo,⟨bk++zS,aj.append (xw.mono λ_ _ x=>x.mono ak),by simp_all⟩,.ret,kU.kind,kU.mZ,kU.round,kU.bot,kU.res,λ_=>aQ.cE jZ,kU.nn,kU.tV,kU.cU⟩
 |panicking c=>rw[jZ]at hm;cases hm
omit ae dH in
theorem PK{iF:Prop}{x y:Item}(h:je p F iF (bH p F) ρ x y):BJ p F x/\BJ p F y:=by
 cases h with
 |code h=>exact⟨λy e=>(by rw[e]at h;cases h),λy e=>(by rw[e]at h;cases h)⟩
 |reg h k _=>exact⟨λy e=>(by cases e),λy e=>(by cases e)⟩
 |inRegion h k _=>exact⟨h,k.ok⟩
 |_=>trivial
omit ae dH in
theorem PL{α β:Type}{R:α->β->Prop}{xs:List α}{ys:List β}(h:df R xs ys):(∀x∈xs,∃y,R x y)/\∀y∈ys,∃x,R x y:=by
 induction h with
 |nil=>simp
 |cons h _ az=>grind
omit ae dH in
theorem PM(h:hh p F p' (bH p F) ρ X f bj)(aV:f.mode=.returning->f.defers=[]->X=none):BK p F f/\BK p F bj:=by
 have q2:=PL h.todo;obtain⟨ds,gE,jY⟩:=h.defers;have aiY:=PL gE;have k4:∀{d dq:Deferred},sj (bH p F) ρ d dq->(∃r,d.target=.collected r)/\∃r,dq.target=.collected r:=λ{d dq} aV=>by
  obtain⟨t,a⟩:=d;obtain⟨bw,a'⟩:=dq;have:=aV.t;cases this with
  |collected h=>grind
 have hm:(f.mode=.run/\bj.mode=.run)\/(f.mode=.returning/\bj.mode=.returning):=by
  have:=h.mode;generalize f.mode=m at this;generalize bj.mode=m' at this;cases this;all_goals grind
 refine⟨⟨λit aj=>?_,?_,λ_ d zS e=>?_⟩,⟨λit aj=>?_,?_,λad d zS e=>?_⟩⟩
 ·obtain⟨y,aF⟩:=q2.1 it aj;exact(PK aF).1
 ·grind
 ·obtain⟨y,aF⟩:=aiY.1 d (by rw[e];simp);grind
 ·obtain⟨y,aF⟩:=q2.2 it aj;exact(PK aF).2
 ·grind
 ·cases vD:f.defers with
  |nil=>
   rw[vD]at gE;cases gE;grind
  |cons a b=>
   rw[vD]at gE;cases gE with
   |cons x y=>grind
omit ae dH in
theorem aaG(h:h5 p F p' (bH p F) ρ Y cO dV (f::cs) (bj::cs'))(il:f.mode=.returning->f.defers=[]->cs≠[cO]):cs≠[]/\BK p F f/\BK p F bj/\f.kind=.normal/\JX bj cs':=by
 have bU:cs≠[]:=by
  obtain⟨_,_,_,_,aK,_,aO⟩:=h.shape;cases aK;exact aO
 refine⟨bU,?_⟩;cases h with
  |bot h=>
   have:=PM h λU ab=>absurd rfl (il U ab);obtain⟨ds,gE,jY⟩:=h.defers;refine⟨this.1,this.2,h.kind,.inr ⟨?_,λad=>?_⟩⟩
   ·have ad:=h.round;rw[h.bot rfl]at ad;generalize bj.roundOf=r at ad;cases ad;rfl
   ·have ir:f.mode=.returning:=by
     have:=h.mode;rw[ad]at this;generalize f.mode=m at this;cases this;rfl
    rw[jY];cases vD:f.defers with
    |nil=>exact absurd rfl (il ir vD)
    |cons a b=>
     rw[vD]at gE;cases gE;simp
  |cons h k=>
   have:=PM h λ_ _=>rfl;refine⟨this.1,this.2,h.kind,.inl ⟨h.mZ rfl,?_⟩⟩;cases k<;>simp
theorem Ia{ro:Nat->Prop}{main:Bool}{V W':World}(hw:dN (bH p F) ρ ro V W')(dY:∀b,W'.heap.size<=b->¬ro b)(h:h5 p F p' (bH p F) ρ Y cO dV (f::cs) (bj::cs'))(il:f.mode=.returning->f.defers=[]->cs≠[cO])(mD:wF f)
  {fr:Tape->Nat->Frame} {nm:Tape->Nat->List Frame} {w2:Tape->Nat->World} {es:Tape->Nat->Array Event}
  (ai:∀τ d,stepG p true (G f cs) (a8 V τ d)=.go (G (fr τ d) (nm τ d)) (w2 τ d) (es τ d)) (ah:∀τ d,calm (fr τ d)):
  ∃τ d σ f1 cs1 bF es1,stepG p' main (G bj cs') W'=.go (G f1 cs1) bF es1/\CK p p' F Y cO dV σ (fr τ d,nm τ d) (f1,cs1)/\dN (bH p F) σ ro (w2 τ d) bF/\Fr ρ σ ro W' bF/\(∀e∈es1,ja σ ro e)/\(lD p f cs).run p (a8 V τ d)=.ok (fr τ d,nm τ d) (w2 τ d)/\(lD p' bj cs').run p' W'=.ok (f1,cs1) bF:=by
 obtain⟨τ,aB⟩:=(agL ae dH hw.ok h il mD).run V W' #[] 0 hw dY;have aB:=aB τ λ_ _ _=>rfl;obtain⟨bU,bh⟩:=aaG h il;have x6:=QV (p:=p) (main:=true) (w:=a8 V τ 0) bh.1 (.inl ⟨bh.2.2.1,bU⟩);have Vq:=QV (p:=p') (main:=main) (w:=W') bh.2.1 bh.2.2.2;have fp:=ai τ 0;rw[Sem.runT_eq]at x6;cases ad:(lD p f cs).run p (a8 V τ 0)with
 |ok x w1=>
  rw[ad]at aB x6;obtain⟨σ,y,bF,es1,U,ab,al,aJ,bm⟩:=aB;rw[U]at Vq;obtain⟨es2,zX,_⟩:=x6;obtain⟨amo,amp,amq⟩:=Vq;rw[zX]at fp;injection fp with aK aO bS;injection aK with b8 en;refine⟨τ,0,σ,y.1,y.2,bF,amo,amp,?_,?_,aJ,λe he=>bm e (by simpa using amq e he),?_⟩
  ·rw[←b8,←en];exact ab
  ·rw[←aO];exact al
  ·rw[←aO,←b8,←en];exact⟨ad,by rw[←Sem.runT_fst p' _ W' #[],U]⟩
 |halt x w1=>
  rw[ad]at aB x6;cases x with
  |panic v=>
   rcases x6 with⟨_,af,Cs,es2,zX,_⟩|⟨o,Cs,es2,zX⟩
   ·rw[zX]at fp;injection fp with aK aO bS;injection aK with b8 en;exact absurd (b8▸ah τ 0) (NG _ _)
   ·rw[zX]at fp;cases fp
  |stuck y=>obtain⟨o,Cs,es2,zX⟩:=x6 aB;rw[zX]at fp;cases fp
  |unsupported y=>cases y<;>first|exact aB.elim|(obtain⟨o,Cs,es2,zX⟩:=x6 aB;rw[zX]at fp;cases fp)
  |_=>exact aB.elim
end
end
section
open Go Go.Conc
section
variable{p p':Program}{F:FuncId->Bool}{ρ:bA}{cO:Frame}{f bj:Frame}{fn0:FuncId}
theorem X6(ae:PP (bH p F) p p'){ro:Nat->Prop}{V W':World}(hw:dN (bH p F) ρ ro V W')(dY:∀b,W'.heap.size<=b->¬ro b)(h:hh p F p' (bH p F) ρ (some ([],fn0,false)) f bj)(hm:f.mode=.returning)(aV:f.defers=[])
  (gO:(p'.funcs[f.fn]?).map (·.results)=(p.funcs[f.fn]?).map (·.results)) (c1:p'.inits.idxOf? f.fn=none)
  {fr:Tape->Nat->Frame} {nm:Tape->Nat->List Frame} {w2:Tape->Nat->World} {es:Tape->Nat->Array Event}
  (ai:∀τ d,stepG p true (G f [cO]) (a8 V τ d)=.go (G (fr τ d) (nm τ d)) (w2 τ d) (es τ d)):
  ∃τ d σ v bg bF es1,stepG p' true (G bj []) W'=.ended (.done bg) bF es1/\fr τ d=cO.finish v/\nm τ d=[]/\aZ (bH p F) σ v bg/\dN (bH p F) σ ro (w2 τ d) bF/\Fr ρ σ ro W' bF/\∀e∈es1,ja σ ro e:=by
 have eX:bj.mode=.returning:=by
  have:=h.mode;rw[hm]at this;generalize bj.mode=m at this;cases this;rfl
 have jv:bj.defers=[]:=by
  obtain⟨ds,U,ab⟩:=h.defers;rw[aV]at U;cases U;exact ab
 have dX:=h.fn;have vn:=h.tV;obtain⟨fn,tmps,todo,defers,mode,kind,round⟩:=f;obtain⟨cC,rb,yY,yE,yZ,mZ,yR⟩:=bj;have xy:=h.tmps;have BY:=h.kind;dsimp only at hm aV eX jv dX xy BY c1 gO vn;subst hm aV eX jv dX BY;cases U:p.funcs[cC]? with
 |none=>
  rw[U]at gO;have ab:p'.funcs[cC]?=none:=by simpa using gO
  have fp:=ai W'.tape 0;have ay:stepG p true (G ⟨cC,tmps,todo,[],.returning,.normal,round⟩ [cO]) (a8 V W'.tape 0)=.go (G (cO.finish (tmps.getD 0 undef)) []) (a8 V W'.tape 0) #[]:=by simp only[G,stepG,unwind,U];rfl
  rw[ay]at fp;injection fp with aK aO bS;injection aK with b8 en;refine⟨W'.tape,0,ρ,tmps.getD 0 undef,rb.getD 0 undef,W',#[],?_,b8.symm,en.symm,yq xy 0,?_,Fr.refl _ _ _,by simp⟩
  ·simp only[G,stepG,unwind,ab,doReturn,c1];cases mZ<;>first|rfl|exact absurd rfl vn
  ·rw[←aO];exact hw.a8 _ _
 |some g=>
  rw[U]at gO;obtain⟨g',ab,al⟩:=Option.map_eq_some_iff.1 gO;obtain⟨τ,aB⟩:=(HC ae hw.ok g g' al xy).run V W' #[] 0 hw dY;have aB:=aB τ λ_ _ _=>rfl;have fp:=ai τ 0;have ay:stepG p true (G ⟨cC,tmps,todo,[],.returning,.normal,round⟩ [cO]) (a8 V τ 0)=GStep.after (seen p cC ((results g tmps).runT p (a8 V τ 0) #[]).2) (match((results g tmps).runT p (a8 V τ 0) #[]).1 with
    |.ok v w=>.go (G (cO.finish v) []) w #[]
    |.halt (.stuck s) w=>.ended (.stuck s (Frame.pos p ⟨cC,tmps,todo,[],.returning,.normal,round⟩)) w
    |.halt _ w=>.ended (.stuck "return: the result variables cannot be read" (Frame.pos p ⟨cC,tmps,todo,[],.returning,.normal,round⟩)) w):=by
   simp only[G,stepG,unwind,U];generalize(results g tmps).runT p (a8 V τ 0) #[]=r;obtain⟨r,e⟩:=r;cases r with
   |ok v w=>rfl
   |halt x w=>cases x<;>rfl
  rw[ay]at fp;rw[Sem.runT_fst]at fp;cases ad:(results g tmps).run p (a8 V τ 0)with
  |ok v w1=>
   rw[ad]at aB fp;obtain⟨σ,bg,bF,es1,k1,bf,bP,cX,fi⟩:=aB;simp only[GStep.after]at fp;injection fp with aK aO bS;injection aK with b8 en;refine⟨τ,0,σ,v,bg,bF,seen p' cC (#[]++es1)++#[],?_,b8.symm,en.symm,bf,?_,cX,λe he=>?_⟩
   ·simp only[G,stepG,unwind,ab];rw[k1];simp only[doReturn,c1];cases mZ<;>first|rfl|exact absurd rfl vn
   ·rw[←aO];exact bP
   ·simp only[Array.append_empty]at he;have:=uv (p:=p') cC (#[]++es1) e he;exact fi e (by simpa using this)
  |halt x w1=>
   rw[ad]at fp;cases x<;>simp[GStep.after]at fp
end
end
section
open Go Go.Conc
section
variable{C:ee}{ρ:bA}
theorem Ew{α:Type}{R:α->α->Prop}:∀{xs ys:List α},df (λx y=>R y y->x=y) xs ys->df R ys ys->xs=ys
 |_,_,.nil,_=>rfl
 |_,_,.cons h k,.cons bc bB=>by rw[h bc,Ew k bB]
theorem X7{x y:Value}(h:aZ C ρ x y){f:Fn}{a b:Array Value}(aj:x=.func f a b)(aF:y=.func f a b):(tQ C ρ f f/\df (aZ C ρ) a.toList a.toList/\df (aZ C ρ) b.toList b.toList)\/∃n,f=.method n/\a=#[.nilIface]/\b=#[]:=by
 cases h with
 |func U ab al aJ bm=>
  injection aj with aK aO bS;injection aF with b8 en l9;subst aK aO bS b8 en l9;exact .inl ⟨U,bE.toList ⟨ab,al⟩,bE.toList ⟨aJ,bm⟩⟩
 |vi=>grind
 |_=>cases aj
theorem HP{f:Fn}{a b:Array Value}(h:aZ C ρ (.func f a b) (.func f a b)):(tQ C ρ f f/\df (aZ C ρ) a.toList a.toList/\df (aZ C ρ) b.toList b.toList)\/∃n,f=.method n/\a=#[.nilIface]/\b=#[]:=X7 h rfl rfl
theorem X8{x y:Value}(h:aZ C ρ x y){a:Array Value}(aj:x=.tuple a)(aF:y=.tuple a):df (aZ C ρ) a.toList a.toList:=by
 cases h with
 |tuple U ab=>
  injection aj with aK;injection aF with aO;subst aK aO;exact bE.toList ⟨U,ab⟩
 |bT k1 bf bP=>grind
 |_=>cases aj
mutual
theorem mask:∀bg:Value,∃v,aZ C ρ v bg/\(aZ C ρ bg bg->v=bg)
 |.bool b=>⟨_,.bool,λ_=>rfl⟩
 |.int k n=>⟨_,.int,λ_=>rfl⟩
 |.string s=>⟨_,.string,λ_=>rfl⟩
 |.nilFunc=>⟨_,.nilFunc,λ_=>rfl⟩
 |.nilIface=>⟨_,.nilIface,λ_=>rfl⟩
 |.pointer none=>⟨_,.ca,λ_=>rfl⟩
 |.slice none n m=>⟨_,.bC,λ_=>rfl⟩
 |.map none=>⟨_,.qi,λ_=>rfl⟩
 |.chan none=>⟨_,.vh,λ_=>rfl⟩
 |.float k b=>⟨undef,.bT (by simp) (by simp) (by simp),λh=>by cases h⟩
 |.complex k a b=>⟨undef,.bT (by simp) (by simp) (by simp),λh=>by cases h⟩
 |.pointer (some a)=>by
  by_cases h:ρ a.block a.block
  ·exact⟨_,.ptr ⟨h,rfl,rfl⟩,λ_=>rfl⟩
  ·exact⟨undef,.bT (by simp) (by simp) (by simp),λk=>by cases k with|ptr k=>exact absurd k.b h⟩
 |.slice (some a) n m=>by
  by_cases h:ρ a.block a.block/\ρ.c a.block
  ·exact⟨_,.sl ⟨⟨h.1,rfl,rfl⟩,h.2⟩,λ_=>rfl⟩
  ·by_cases aT:n=0/\m=0
   ·obtain⟨rfl,rfl⟩:=aT;exact⟨_,.jc,λ_=>rfl⟩
   ·exact⟨undef,.bT (by simp) (by simp) (by simp),λk=>by
     cases k with
     |sl k=>exact absurd ⟨k.b,k.c⟩ h
     |jc=>grind⟩
 |.map (some r)=>by
  by_cases h:ρ r r
  ·exact⟨_,.map h,λ_=>rfl⟩
  ·exact⟨undef,.bT (by simp) (by simp) (by simp),λk=>by cases k with|map k=>grind⟩
 |.chan (some r)=>by
  by_cases h:ρ r r
  ·exact⟨_,.chan h,λ_=>rfl⟩
  ·exact⟨undef,.bT (by simp) (by simp) (by simp),λk=>by cases k with|chan k=>grind⟩
 |.iface t v=>by
  obtain⟨w,U,ab⟩:=mask v;exact⟨.iface t w,.iface U,λk=>by cases k with|iface k=>rw[ab k]⟩
 |.agg ⟨a⟩=>by
  obtain⟨b,U,ab⟩:=y7 a;exact⟨.agg b.toArray,aZ.te (bE.ofList U),λk=>by cases k with|agg k1 bf=>rw[Ew ab (bE.toList ⟨k1,bf⟩)]⟩
 |.tuple ⟨a⟩=>by
  obtain⟨b,U,ab⟩:=y7 a;exact⟨.tuple b.toArray,aZ.tuple' (bE.ofList U),λk=>by rw[Ew ab (X8 k rfl rfl)]⟩
 |.func f ⟨a⟩ ⟨b⟩=>by
  obtain⟨a2,U,ab⟩:=y7 a;obtain⟨gB,al,aJ⟩:=y7 b;by_cases hm:∃n,f=.method n
  ·obtain⟨n,rfl⟩:=hm;exact⟨_,.vi,λk=>by
    rcases HP k with⟨k1,_⟩|⟨m,aK,aO,bS⟩
    ·cases k1
    grind⟩
  by_cases aQ:tQ C ρ f f
  ·refine⟨.func f a2.toArray gB.toArray,?_,λk=>?_⟩
   ·have x:=bE.ofList U;have y:=bE.ofList al;exact .func aQ x.1 x.2 y.1 y.2
   ·rcases HP k with⟨_,bf,bP⟩|⟨m,aK,_⟩;all_goals grind [Ew]
  ·refine⟨undef,.bT (by simp) (by simp) ⟨by simp,λn x y e=>hm ⟨n,by injection e⟩,by simp⟩,λk=>?_⟩;rcases HP k with⟨k1,_⟩|⟨m,aK,_⟩;all_goals grind
theorem y7:∀cB:List Value,∃af,df (aZ C ρ) af cB/\df (λx y=>aZ C ρ y y->x=y) af cB
 |[]=>⟨[],.nil,.nil⟩
 |v::af=>by
  obtain⟨w,U,ab⟩:=mask v;obtain⟨ws,al,aJ⟩:=y7 af;exact⟨w::ws,.cons U al,.cons ab aJ⟩
end
theorem Sx(c':Array Value):∃c,cv C ρ c c'/\∀(i:Nat) v,c'[i]?=some v->aZ C ρ v v->c[i]?=some v:=by
 obtain⟨af,U,ab⟩:=y7 (C:=C) (ρ:=ρ) c'.toList;have al:=bE.ofList U;have aJ:=bE.ofList ab;refine⟨af.toArray,al,λi v ai ao=>?_⟩;rcases aJ.get i with⟨_,h⟩|⟨x,y,aj,aF,h⟩;all_goals grind
end
def ef(M:Nat->Prop):bA:=⟨λa b=>b=a/\M a,M⟩
theorem acU(G:Nat)(M:Nat->Prop):b0 G (ef M):=by
 refine⟨λ{a b} h=>?_,λh k=>by rw[h.1,k.1],λh k=>by rw[←h.1,←k.1]⟩;obtain⟨rfl,_⟩:=h;grind
theorem Nr(C:ee)(M:Nat->Prop)(W':World)(vL:C.G<=W'.heap.size)(e3:∀b,M b->∃c e f,W'.heap[b]?=some (.cells c e f)):
  ∃V:World,dN C (ef M) M V W'/\V.heap.size=W'.heap.size/\V.tape=W'.tape/\V.drawn=W'.drawn/\V.os=W'.os/\V.output=W'.output/\(∀b,¬M b->V.heap[b]?=W'.heap[b]?) /\
   (∀b o v,M b->W'.cell? ⟨b,o,none⟩=some v->aZ C (ef M) v v->V.cell? ⟨b,o,none⟩=some v)/\∀b,M b->∃c e n,c.size<=n/\V.heap[b]?=some (.cells c e (0,n)):=by
 have aj:∀i:Nat,∃o,∀o',W'.heap[i]?=some o'->(¬M i->o=o')/\(M i->∀c e f,o'=.cells c e f->∃c2 n,c2.size<=n/\o=.cells c2 e (0,n)/\jj C (ef M) o o'/\∀(j:Nat) v,c[j]?=some v->aZ C (ef M) v v->c2[j]?=some v):=by
  intro i;by_cases hi:M i
  ·obtain⟨c,e,f,h⟩:=e3 i hi;obtain⟨c2,U,ab⟩:=Sx (C:=C) (ρ:=ef M) c;refine⟨.cells c2 e (0,max c2.size f.2),λo' ar=>⟨λx=>absurd hi x,λ_ c' e' bj bc=>?_⟩⟩;rw[h]at ar;cases ar;cases bc;exact⟨c2,_,Nat.le_max_left _ _,rfl,.cells U λi _ rJ=>⟨Nat.zero_le _,Nat.lt_of_lt_of_le rJ (Nat.le_max_right _ _)⟩,ab⟩
  ·cases h:W'.heap[i]? with
   |none=>simp_all
   |some o=>simp_all
 let H:Array Obj:=Array.ofFn (n:=W'.heap.size) λi=>(aj i).choose;have e4:∀b o',W'.heap[b]?=some o'->H[b]?=some (aj b).choose:=λb o' h=>by
  have:=(Array.getElem?_eq_some_iff.1 h).1;simp[H,this]
 have bX:H.size=W'.heap.size:=by simp[H]
 have bK:∀b,M b->∃c e n,c.size<=n/\H[b]?=some (.cells c e (0,n)):=λb hb=>by grind
 refine⟨{ W' with heap:=H },⟨acU _ _,by grind,vL,λb a6 hb=>?_,λb a6 hb _=>bK b hb.2,λb hb=>let⟨c,e,n,_,h⟩:=bK b hb;⟨_,h,trivial⟩⟩,bX,rfl,rfl,rfl,rfl,λb hb=>?_,λb o v hb ai ao=>?_,bK⟩
 ·obtain⟨rfl,hb⟩:=hb;grind
 ·grind
 ·grind [World.cell?]
mutual
def aa.l1:aa->Bool
 |.int _ _ | .bool _ | .str _ | .bC=>true
 |.sl none _ _ _ cs=>hv cs
 |.bJ none _ cs=>!cs.isEmpty&&hv cs
 |.agg cs=>hv cs
 |_=>false
def hv:List aa->Bool
 |[]=>true
 |p::ps=>p.l1&&hv ps
end
section
variable{C C2:ee}{ρ:bA}{ro M:Nat->Prop}{V W' lE:World}{φ:bo}
theorem yh{b sz off cap:Nat}(h:b<V.heap.size):place ⟨λ_=>none,λ_=>none⟩ V none b sz off cap:=⟨(by rintro(⟨i,h⟩|⟨i,h⟩)<;>(cases h)),h⟩
theorem dN.m6(hw:dN C ρ ro V W'){b a6:Nat}(h:ρ b a6)(ad:∃o,V.heap[b]?=some o/\n3 o):∃o',W'.heap[a6]?=some o'/\n3 o':=by
 obtain⟨o,U,ab⟩:=ad;obtain⟨x,bk,k1,bf,bP⟩:=hw.obj b a6 h;rw[U]at k1;cases k1;refine⟨bk,bf,?_⟩;cases bP<;>first|trivial|exact ab.elim
theorem M4{b o:Nat}{v:Value}(h:V.cell? ⟨b,o,none⟩=some v):∃o,V.heap[b]?=some o/\n3 o:=by
 unfold World.cell? at h;split at h
 ·rename_i c e f aj;exact⟨_,aj,trivial⟩
 ·cases h
mutual
theorem OH(hw:dN C ρ ro V W')(e3:∀b a6,ρ b a6->(∃o,W'.heap[a6]?=some o/\n3 o)->M a6)(bX:lE.heap.size=W'.heap.size)(ew:∀b o v,M b->W'.cell? ⟨b,o,none⟩=some v->aZ C2 (ef M) v v->lE.cell? ⟨b,o,none⟩=some v):
  ∀(q:aa){v bg:Value},q.l1=true->aY φ V q v->aZ C ρ v bg->aZ C2 (ef M) bg bg/\aY ⟨λ_=>none,λ_=>none⟩ lE q bg
 |.int k n,v,bg,_,h,ai=>by
  subst h;cases ai;exact⟨.int,rfl⟩
 |.bool b,v,bg,_,h,ai=>by
  subst h;cases ai;exact⟨.bool,rfl⟩
 |.str s,v,bg,_,h,ai=>by
  subst h;cases ai;exact⟨.string,rfl⟩
 |.bC,v,bg,_,h,ai=>by
  subst h;cases ai;exact⟨.bC,rfl⟩
 |.sl none sz off len cs,v,bg,aH,h,ai=>by
  simp only[aY]at h⊢;obtain⟨hlen,a,cap,rfl,lg,h⟩:=h;rcases h with⟨_,n9,au⟩|⟨b,rfl,cD,dA⟩
  ·obtain⟨a,rfl⟩:=Option.isSome_iff_exists.1 au;cases ai with
   |sl ai=>
    have hb:=e3 _ _ ai.b (hw.m6 ai.b (hw.row _ ai.c));exact⟨.sl ⟨⟨⟨rfl,hb⟩,rfl,rfl⟩,hb⟩,hlen,_,cap,rfl,lg,.inl ⟨trivial,n9,rfl⟩⟩
   |jc=>exact⟨.jc,hlen,_,0,rfl,lg,.inl ⟨trivial,n9,rfl⟩⟩
  ·cases ai with
   |@sl _ a' _ _ ai=>
    obtain⟨⟨U,ab,al⟩,ah⟩:=ai;obtain⟨a6,o',s'⟩:=a';dsimp only at U ab al ah;subst ab al;have hb:=e3 _ _ U (hw.m6 U (hw.row _ ah));have aU:a6<lE.heap.size:=by
     obtain⟨_,_,_,k,_⟩:=hw.obj _ _ U;grind
    exact⟨.sl ⟨⟨⟨rfl,hb⟩,rfl,rfl⟩,hb⟩,hlen,_,cap,rfl,lg,.inr ⟨a6,rfl,yh aU,G8 hw e3 bX ew cs aH U dA⟩⟩
   |jc=>exact⟨.jc,hlen,_,0,rfl,lg,.inl ⟨trivial,rfl,rfl⟩⟩
 |.bJ none off cs,v,bg,aH,h,ai=>by
  simp only[aa.l1]at aH;obtain⟨b,rfl,cD,dA⟩:=h;cases ai with
  |@ptr _ a' ai=>
   obtain⟨U,ab,al⟩:=ai;obtain⟨a6,o',s'⟩:=a';dsimp only at U ab al;subst ab al;simp  at aH;obtain⟨nc,aH⟩:=aH;have hb:=e3 _ _ U (hw.m6 U (by
    cases cs with
    |nil=>grind
    |cons hE gD=>grind [b7,M4]))
   have aU:a6<lE.heap.size:=by
    obtain⟨_,_,_,k,_⟩:=hw.obj _ _ U;grind
   exact⟨.ptr ⟨⟨rfl,hb⟩,rfl,rfl⟩,a6,rfl,yh aU,G8 hw e3 bX ew cs aH U dA⟩
 |.agg cs,v,bg,aH,h,ai=>by
  simp only[aY]at h⊢;obtain⟨af,rfl,e0⟩:=h;cases ai with
  |@agg _ a' U ab=>
   have:=Hf hw e3 bX ew cs aH e0 (bE.toList (R:=aZ C ρ) ⟨U,ab⟩);grind [aZ.te,bE.As]
 |.undef,v,bg,aH,h,ai=>by cases aH
 |.bad,v,bg,aH,h,ai=>by cases aH
 |.ca,v,bg,aH,h,ai=>by cases aH
 |.eL,v,bg,aH,h,ai=>by cases aH
 |.dead _,v,bg,aH,h,ai=>by cases aH
 |.cq _,v,bg,aH,h,ai=>by cases aH
 |.ptr _ _,v,bg,aH,h,ai=>by cases aH
 |.sl (some _) _ _ _ _,v,bg,aH,h,ai=>by cases aH
 |.bJ (some _) _ _,v,bg,aH,h,ai=>by cases aH
 |.fn _ _,v,bg,aH,h,ai=>by cases aH
 |.bD _,v,bg,aH,h,ai=>by cases aH
 |.mp _ _ _ _,v,bg,aH,h,ai=>by cases aH
theorem Hf(hw:dN C ρ ro V W')(e3:∀b a6,ρ b a6->(∃o,W'.heap[a6]?=some o/\n3 o)->M a6)(bX:lE.heap.size=W'.heap.size)(ew:∀b o v,M b->W'.cell? ⟨b,o,none⟩=some v->aZ C2 (ef M) v v->lE.cell? ⟨b,o,none⟩=some v):
  ∀(bz:List aa){af cB:List Value},hv bz=true->bl φ V bz af->df (aZ C ρ) af cB->df (aZ C2 (ef M)) cB cB/\bl ⟨λ_=>none,λ_=>none⟩ lE bz cB
 |[],af,cB,_,h,ai=>by
  subst h;cases ai;exact⟨.nil,rfl⟩
 |q::bz,af,cB,aH,h,ai=>by
  simp[hv]at aH;obtain⟨v,BL,rfl,U,ab⟩:=h;cases ai with
  |cons k1 bf=>
   have a:=OH hw e3 bX ew q aH.1 U k1;have b:=Hf hw e3 bX ew bz aH.2 ab bf;exact⟨.cons a.1 b.1,_,_,rfl,a.2,b.2⟩
theorem G8(hw:dN C ρ ro V W')(e3:∀b a6,ρ b a6->(∃o,W'.heap[a6]?=some o/\n3 o)->M a6)(bX:lE.heap.size=W'.heap.size)(ew:∀b o v,M b->W'.cell? ⟨b,o,none⟩=some v->aZ C2 (ef M) v v->lE.cell? ⟨b,o,none⟩=some v):
  ∀(bz:List aa){b a6 off:Nat},hv bz=true->ρ b a6->b7 φ V b bz off->b7 ⟨λ_=>none,λ_=>none⟩ lE a6 bz off
 |[],b,a6,off,_,_,_=>trivial
 |q::bz,b,a6,off,aH,hb,h=>by
  simp[hv]at aH;obtain⟨⟨c,ah,ad⟩,ab⟩:=h;refine⟨?_,G8 hw e3 bX ew bz aH.2 hb ab⟩;rcases hw.cell (a:=⟨b,off,none⟩) (a':=⟨a6,off,none⟩) ⟨hb,rfl,rfl⟩with⟨k,_⟩|⟨x,bk,k1,bf,bP⟩
  ·grind
  ·rw[ah]at k1;cases k1;have a:=OH hw e3 bX ew q aH.1 ad bP;grind [M4]
end
end
end
section
open Go Go.Conc
open Go.ConcN (sumTo upd sumTo_upd upd_ne upd_same)
def hP(S:Nat->Prop):Loc->Prop:=λl=>∃a,l=.cell a/\S a.block
structure kM(S:Nat->Prop)(B:Nat)(t:Trace):Prop where
 rq:Past (hP S) B t
 quiet:Quiet (hP S) t
 perm:∀l,¬hP S l->Perm t 0 l
 pl:∀i a,touchAt t i=some a->¬hP S a.loc->a.kind≠.atomic
theorem kM.mono{S:Nat->Prop}{B B':Nat}{t:Trace}(h:kM S B t)(dH:B<=B'):kM S B' t:=⟨h.rq.mono dH,h.quiet,h.perm,h.pl⟩
theorem EF{gh:Loc->Prop}{t u:Trace}(h:∀i a,touchAt t i=some a->¬gh a.loc->a.kind≠.atomic)(hu:∀op∈u,∀a,op.act.touch?=some a->¬gh a.loc->a.kind≠.atomic):∀i a,touchAt (t++u) i=some a->¬gh a.loc->a.kind≠.atomic:=by
 intro i a au ak;obtain⟨x,aj,UM⟩:=touch_of au;rcases getElem?_append_cases aj with⟨_,hc⟩|⟨_,aiZ⟩
 ·exact h i a (by grind [touchAt_of]) ak
 grind
def Ends(P:Program)(Q:Machine->Outcome->World->Trace->Prop)(m:Machine)(t:Trace):Prop:=
 ∃n last o w bw,runNT P (n+1) m t=(.ended o w,bw)/\runN P n m=.next last/\step P last=.ended o w/\Q last o w bw
section
variable{P:Program}{Q:Machine->Outcome->World->Trace->Prop}{m m':Machine}{t ops:Trace}
theorem Ends.next(h:stepT P m=(.next m',ops))(k:Ends P Q m' (t++ops)):Ends P Q m t:=by
 obtain⟨n,last,o,w,bw,U,ab,al,aJ⟩:=k;exact⟨n+1,last,o,w,bw,by grind [runNT_succ_next],by grind [runN_succ_next],al,aJ⟩
theorem Ends.last{o:Outcome}{w:World}(h:stepT P m=(.ended o w,ops))(k:Q m o w (t++ops)):Ends P Q m t:=
 ⟨0,m,o,w,t++ops,by simp[runNT,h],rfl,by simp[step,h],k⟩
end
section
variable{σ:bA}{ro S:Nat->Prop}{B:Nat}{e:Event}
theorem ad5(h:ja σ ro e)(ao:∀b,S b->∀a,¬σ a b)(hb:∀a b,σ a b->b<B):EvL (hP S) B e:=by
 cases h with
 |@rd a b h=>
  refine⟨λx aj ⟨a',aK,aO⟩=>?_,by simp,by simp,hb _ _ h⟩;grind [ofEvent_cell0,MemAct.touch?]
 |@wr a b h _=>
  refine⟨λx aj ⟨a',aK,aO⟩=>?_,by simp,by simp,hb _ _ h⟩;grind [ofEvent_cell0,MemAct.touch?]
 |@get r b h=>
  refine⟨λx aj ⟨a',aK,aO⟩=>?_,by simp,by simp,hb _ _ h⟩;grind [MemAct.ofEvent,MemAct.touch?]
 |@set r b h _=>
  refine⟨λx aj ⟨a',aK,aO⟩=>?_,by simp,by simp,hb _ _ h⟩;grind [MemAct.ofEvent,MemAct.touch?]
 |ext=>exact⟨λx aj=>by trivial,by simp,by simp,trivial⟩
 |room=>exact⟨λx aj=>by trivial,by simp,by simp,trivial⟩
theorem quiet_of(h:ja σ ro e)(ao:∀b,S b->∀a,¬σ a b){x:Touch}(aj:(MemAct.ofEvent e).touch?=some x):¬hP S x.loc:=by
 rintro⟨a',aK,aO⟩;cases h with
 |@rd a b h=>grind [ofEvent_cell0,MemAct.touch?]
 |@wr a b h _=>grind [ofEvent_cell0,MemAct.touch?]
 |@get r b h=>grind [MemAct.ofEvent,MemAct.touch?]
 |@set r b h _=>grind [MemAct.ofEvent,MemAct.touch?]
 |ext=>trivial
 |room=>trivial
theorem aa4(h:ja σ ro e){x:Touch}(aj:(MemAct.ofEvent e).touch?=some x):x.kind=.plain:=by
 cases h with
 |rd h=>grind [ofEvent_cell0,MemAct.touch?]
 |wr h _=>grind [ofEvent_cell0,MemAct.touch?]
 |get h=>grind [MemAct.ofEvent,MemAct.touch?]
 |set h _=>grind [MemAct.ofEvent,MemAct.touch?]
 |ext=>trivial
 |room=>trivial
theorem kM.own{t:Trace}(h:kM S B t){fn:FuncId}{pos:String}{es:Array Event}(he:∀e∈es,ja σ ro e)(ao:∀b,S b->∀a,¬σ a b)(hb:∀a b,σ a b->b<B):kM S B (t++MemOp.ofEvents 0 fn pos es):=by
 refine⟨h.rq.own λe aj=>ad5 (he e aj) ao hb,h.quiet.app λop aE x aj nk=>?_,λl ak=>(h.perm l ak).app λop aE b _ _=>?_,EF h.pl λop aE a au _=>?_⟩;all_goals grind [Go.Conc.mem_ofEvents,quiet_of,aa4]
theorem kM.mute{t:Trace}(h:kM S B t){g:Nat}(aN:g≠0){fn:FuncId}{pos:String}{es:Array Event}(hm:∀e∈es,e.mute=true):kM S B (t++MemOp.ofEvents g fn pos es):=by
 have aI:∀op∈MemOp.ofEvents g fn pos es,op.act.touch?=none:=λop aE=>by grind [Go.Conc.mem_ofEvents,touch_mute]
 exact⟨h.rq.mute aN hm,h.quiet.app λop aE x aj _=>(by grind),λl ak=>(h.perm l ak).app λop aE b hb _=>(by grind),EF h.pl λop aE a au _=>(by grind)⟩
end
section
variable{P:Program}{S:Nat->Prop}{B:Nat}
theorem Ka{gs:Array Goroutine}{a:Goroutine}{w:World}{sl:Option (Nat×Nat)}{t:Trace}{q:Nat->Nat}(aT:gs[0]?=some a)(aB:a.status=.running)(dg:Leavers P t gs q)(ub:kM S B t):
  (∃d fT,stepT P (crowd gs w sl)=runT P (crowd gs (w.at d) fT) 0) \/
  ∃ed d fT ops dF,stepT P (crowd gs w sl)=(.next (crowd ed (w.at d) fT),ops)/\ed.size=gs.size/\ed[0]?=some a/\Leavers P (t++ops) ed dF/\(∀op∈ops,op.g<gs.size)/\kM S B (t++ops)/\sumTo gs.size dF<sumTo gs.size q:=by
 have K3:∀g∈gs,awake g:=by
  intro g aN;obtain⟨i,hi,rfl⟩:=Array.mem_iff_getElem.1 aN;rcases Nat.eq_zero_or_pos i with rfl|eb
  ·have:gs[0]=a:=by simpa[Array.getElem?_eq_getElem hi]using aT
   rw[this];exact awake_of (.inl aB)
  ·exact awake_of ((dg.old i _ eb (Array.getElem?_eq_getElem hi)).status.elim .inl λx=>.inr (.inr x))
 obtain⟨i,g,d,fT,hi,aN,bh⟩:=crowd_pick (P:=P) (w:=w) (sl:=sl) K3 ⟨0,a,aT,aB⟩;rcases Nat.eq_zero_or_pos i with rfl|eb
 ·exact .inl ⟨d,fT,bh⟩
 ·refine .inr ?_;have aH:=dg.old i g eb hi;have jX:(i==0)=false:=by simp;omega
  have aU:i<gs.size:=(Array.getElem?_eq_some_iff.1 hi).1;cases Lx:q i with
  |zero=>rw[Lx]at aH;rw[aH.1]at aN;cases aN
  |succ k=>
   rw[Lx]at aH;rcases aH with⟨aQ,_⟩|⟨_,g',es,hm,Tl,iX⟩
   ·rw[aQ]at aN;cases aN
   have sS:=runT_crowd_go (P:=P) (sl:=fT) (i:=i) hi (by rw[jX];exact Tl (w.at d));have Fl:sumTo gs.size (upd q i k)+(k+1)=sumTo gs.size q+k:=by
    have:=sumTo_upd q k id aU;simpa[Lx]using this
   refine⟨_,d,fT,_,upd q i k,bh.trans sS,by simp,?_,⟨λj x aC aj=>?_,λj aC=>?_⟩,λop aE=>by obtain⟨e,_,rfl⟩:=Go.Conc.mem_ofEvents aE;exact aU,ub.mute (by omega) hm,by omega⟩
   ·have bU:i≠0:=by omega
    rw[Array.getElem?_setIfInBounds_ne bU,Array.getElem?_map,aT];simp[woken_run aB]
   ·by_cases kT:i=j
    ·subst kT;rw[Array.getElem?_setIfInBounds_self_of_lt (by simpa using aU)]at aj;obtain rfl:=Option.some.inj aj;rw[upd_same,Deaf_own];exact iX
    ·rw[Array.getElem?_setIfInBounds_ne kT,Array.getElem?_map]at aj;obtain⟨y,aF,rfl⟩:=Option.map_eq_some_iff.1 aj;have UN:=dg.old j y aC aF;rw[woken_quitsD UN,upd_ne q k (Ne.symm kT),Deaf_other t kT _ (λop aE=>by obtain⟨e,_,rfl⟩:=Go.Conc.mem_ofEvents aE;rfl)];exact UN
   ·rw[Deaf_other t (g':=i) (by simp at aC;omega) _ (λop aE=>by obtain⟨e,_,rfl⟩:=Go.Conc.mem_ofEvents aE;rfl)];exact dg.above j (by simpa using aC)
theorem Leavers.step0{gs:Array Goroutine}{a a':Goroutine}{w':World}{t:Trace}{q:Nat->Nat}(dg:Leavers P t gs q)(aT:gs[0]?=some a){fn:FuncId}{pos:String}{es:Array Event}:Leavers P (t++MemOp.ofEvents 0 fn pos es) ((gs.map (woken P a a' w')).setIfInBounds 0 a') q:=by
 refine⟨λj x aC aj=>?_,λj aC=>?_⟩
 ·have bU:0≠j:=by omega
  rw[Array.getElem?_setIfInBounds_ne bU,Array.getElem?_map]at aj;obtain⟨y,aF,rfl⟩:=Option.map_eq_some_iff.1 aj;have aH:=dg.old j y aC aF;rw[woken_quitsD aH,Deaf_other t (by omega) _ (λop aE=>by grind [Go.Conc.mem_ofEvents])];exact aH
 ·rw[Deaf_other t (g':=0) (by grind) _ (λop aE=>by grind [Go.Conc.mem_ofEvents])];exact dg.above j (by grind)
end
end
end Go.Proofs.YtlminnpaeaganaaGreat
