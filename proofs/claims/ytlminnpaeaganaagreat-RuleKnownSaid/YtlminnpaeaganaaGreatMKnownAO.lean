/- Part of the proof of RuleKnown. No condition. -/
import Derived.Test.YtlminnpaeaganaaGreatMKnownAN
namespace Go.Proofs.YtlminnpaeaganaaGreat
set_option maxRecDepth 100000
set_option linter.all false
section
open Go Go.Conc Go.ConcN Go.RowKit Go.Conc.Lib
open Go.ConcR (KK wgBlock WgAt stA smA rd wr mk Payload DC0 Bk bk_of_mute ofEvent_loc_mark)
abbrev u7:Nat->Loc->Prop:=λ_ _=>False
section
variable[Payload]
inductive lT(P:Program)(ty:TypeId)(Wg C n i:Nat)(v:Value):Nat->Nat->Nat->Goroutine->World->Prop
 |r0 {m:Nat} {g:Goroutine} {w:World}:Goes P false (RW ty Wg C n 0 i) DC0 (AtR0 P ty Wg C n 0 (i+1) v) m g w->lT P ty Wg C n i v 7 m 0 g w
 |lu {s m d:Nat} {g:Goroutine} {w:World}:s<=6->WSit P ty Wg C n u7 u7 0 (i+1) v s m d g w->lT P ty Wg C n i v s m d g w
structure LN(P:Program)(ty:TypeId)(Wg C n i:Nat)(v:Value)(j:Nat)(D:Nat->WD)(tag:CTag)(s m d:Nat)(g:Goroutine)(w:World)(g':Goroutine)(w':World)(es:Array Event)(s' m' dq:Nat)(fv gz:Int):Prop where
 go:stepG P false g w=.go g' w' es
 as:Aside Wg w w'
 wg:WgAt ty Wg w' fv gz
 ahA:lT P ty Wg C n i v s' m' dq g' w'
 ajh:deafBehind d es=dq
 md:∀tag',(tag'=tag\/(tag=.blk/\tag'=.w3))->(mayWake P g=true->g'.status=.running->tag'≠.blk)->ConcN.Mode j (upd D i ⟨s',m',dq⟩) tag' fv gz
 lt:(s'<s/\cnt ⟨s',m',dq⟩<=cnt (D i))\/(s'=s/\m'+1=m)
 rel:(s=7/\s'=7/\es=#[])\/(s=7/\s'=6/\d=0/\es=#[mk (.releaseMerge (stA Wg))]/\Has C i v w)\/(s<=6/\s'<=6/\(∀e∈es,Bk Wg e)/\∀jG e,es[jG]?=some e->(MemAct.ofEvent e).touch?=none\/0<deafBehind d (es.extract 0 jG))
variable{P:Program}{ty:TypeId}{Wg C n i:Nat}{v:Value}{s m d:Nat}{g:Goroutine}{w fB:World}
theorem lT.rely(h:lT P ty Wg C n i v s m d g w)(ad:RW ty Wg C n 0 i w fB):lT P ty Wg C n i v s m d g fB:=by
 cases h with
 |r0 h=>exact .r0 (Goes.rely (λ_ _ _ U ab=>U.trans ab) h ad)
 |lu bI h=>exact .lu bI (h.rely ad)
theorem lT.status(h:lT P ty Wg C n i v s m d g w):g.status=.running\/g.status=.finished:=by
 cases h with
 |r0 h=>exact .inl (Goes.running (λ_ _ x=>x.1) w (RW.refl w) h)
 |lu _ h=>exact h.status
theorem lT.running_of(h:lT P ty Wg C n i v s m d g w)(ao:s≠1):g.status=.running:=by
 cases h with
 |r0 h=>exact Goes.running (λ_ _ x=>x.1) w (RW.refl w) h
 |lu _ h=>exact h.running_of ao
theorem lT.quits(h:lT P ty Wg C n i v s m d g w)(ao:s=1):QuitsD P m d g:=by
 cases h with
 |r0 h=>cases ao
 |lu _ h=>exact h.quits ao
theorem lT.stage(h:lT P ty Wg C n i v s m d g w):1<=s/\s<=7:=by
 cases h with
 |r0 h=>omega
 |lu bI h=>cases h<;>omega
set_option maxHeartbeats 1600000 in
theorem aad{j:Nat}{D:Nat->WD}{tag:CTag}{st gi:Int}(ao:lT P ty Wg C n i v s m d g w)(aX:i<j)(dQ:D i=⟨s,m,d⟩)(aB:g.status=.running)(gA:WgAt ty Wg w st gi)(rf:ConcN.Mode j D tag st gi)(hb:j+pend tag<=2147483646):
  ∃g' w' es s' m' dq fv gz,LN P ty Wg C n i v j D tag s m d g w g' w' es s' m' dq fv gz:=by
 have bh:(D i).stage=s:=by rw[dQ]
 have alY:=Vc_le j D;have same:∀m' vt,ConcN.Mode j (upd D i ⟨s,m',vt⟩) tag st gi:=λm' vt=>by have:=rf.same (i:=i) m' vt;grind
 cases ao with
 |r0 h=>
  rcases Goes.cases h with qc|⟨m',rfl,eo⟩
  ·obtain⟨_,Th,g',hgo,m₂,aq⟩:=qc w (RW.refl w);exact⟨g',w,_,6,m₂,0,st,gi,hgo,.refl Wg w,gA,.lu (by omega) (.k1 aq),rfl,λ_ a1 _=>(rf.counted aX (by omega) (.inl rfl) _ _).retag a1,.inl ⟨by omega,by simp[cnt,bh]⟩,.inr (.inl ⟨rfl,rfl,rfl,rfl,by grind⟩)⟩
  ·obtain⟨g',w',es,hgo,⟨rfl,rfl⟩,oL⟩:=eo w (RW.refl w);exact⟨g',_,_,7,m',0,st,gi,hgo,.refl Wg _,gA,.r0 oL,rfl,λ_ a1 _=>(same m' 0).retag a1,.inr ⟨rfl,rfl⟩,.inl ⟨rfl,rfl,rfl⟩⟩
 |lu bI ao=>
  have book:∀{g':Goroutine}{w':World}{es:Array Event}{s' m' vt:Nat}{fv gz:Int},stepG P false g w=.go g' w' es->Aside Wg w w'->WgAt ty Wg w' fv gz->(∀e∈es,Bk Wg e) ->
    (∀jG e,es[jG]?=some e->(MemAct.ofEvent e).touch?=none\/0<deafBehind d (es.extract 0 jG))->WSit P ty Wg C n u7 u7 0 (i+1) v s' m' vt g' w'->deafBehind d es=vt->s'<=6 ->
    (∀tag',(tag'=tag\/(tag=.blk/\tag'=.w3))->(mayWake P g=true->g'.status=.running->tag'≠.blk)->ConcN.Mode j (upd D i ⟨s',m',vt⟩) tag' fv gz)->((s'<s/\cnt ⟨s',m',vt⟩<=cnt (D i))\/(s'=s/\m'+1=m)) ->
    ∃g' w' es s' m' dq fv gz,LN P ty Wg C n i v j D tag s m d g w g' w' es s' m' dq fv gz:=
   λU ab al aJ bm cS et gp h7 mF=>⟨_,_,_,_,_,_,_,_,U,ab,al,.lu gp cS,et,h7,mF,.inr (.inr ⟨bI,gp,aJ,bm⟩)⟩
  have idle:∀{g':Goroutine}{m':Nat},stepG P false g w=.go g' w #[]->WSit P ty Wg C n u7 u7 0 (i+1) v s m' d g' w->m'+1=m ->
    ∃g' w' es s' m' dq fv gz,LN P ty Wg C n i v j D tag s m d g w g' w' es s' m' dq fv gz:=
   λ{g' m'} U ab al=>book U (.refl Wg w) gA (by simp) (by simp) ab rfl bI (λ_ a1 _=>(same m' d).retag a1) (.inr ⟨rfl,al⟩)
  cases ao with
  |r0 h=>omega
  |k1 h=>
   rcases Goes.cases h with qc|⟨m',rfl,eo⟩
   ·obtain⟨_,g',hgo,m₂,aq⟩:=qc w (RW.refl w);exact book hgo (.refl Wg w) gA (by intro e he;simp at he;subst he;exact .inl rfl) (by intro jG e he;exact .inl (by have:=Array.mem_of_getElem? he;simp at this;subst this;rfl)) (.d1 aq) rfl (by omega)
     (λ_ a1 _=>(rf.counted aX (by omega) (.inr rfl) _ _).retag a1) (.inl ⟨by omega,by simp[cnt,bh]⟩)
   ·obtain⟨g',w',es,hgo,⟨rfl,rfl⟩,oL⟩:=eo w (RW.refl w);exact idle hgo (.k1 oL) rfl
  |d1 h=>
   rcases Goes.cases h with qc|⟨m',rfl,eo⟩
   ·obtain⟨_,lh⟩:=qc w (RW.refl w);have hA:cnt (D i)=1:=by simp[cnt,bh]
    have ahz:1<=Vc j D:=by grind [le_sumTo,Vc]
    have bk2:∀e∈#[rd (stA Wg),wr (stA Wg)],Bk Wg e:=by intro e he;simp at he;rcases he with rfl|rfl<;>exact bk_cell _ _ rfl
    have KZ:∀jG e,(#[rd (stA Wg),wr (stA Wg)]:Array Event)[jG]?=some e->(MemAct.ofEvent e).touch?=none\/0<deafBehind 1 ((#[rd (stA Wg),wr (stA Wg)]:Array Event).extract 0 jG):=by
     intro jG e he
     match jG,he with
     |0,_=>grind [deafBehind]
     |1,_=>exact .inr (by simp[deafBehind,rd])
     |jG+2,he=>simp at he
    have nc:∀q,cnt (⟨1,q,1⟩:WD)=0:=λ_=>rfl;have T8:∀q,OpenSt j D->OpenSt j (upd D i ⟨1,q,1⟩):=λq h a au=>by
     by_cases e:a=i
     ·subst e;rw[upd_same];simp
     ·rw[upd_ne D _ e];exact h a au
    cases rf with
    |opn U ab al=>
     obtain⟨v0,ai⟩:∃v,Vc j D+pend tag=v+1:=⟨Vc j D+pend tag-1,by omega⟩;rw[ai]at gA;have fg:WgAt ty Wg w (((v0:Nat)+1)*KK+((0:Nat):Int)) 0:=by simpa using gA
     obtain⟨g',hgo,_,aH⟩:=lh v0 0 (by omega) (by omega) fg;obtain⟨q,aH⟩:=aH (by omega);have iw:Vc j (upd D i ⟨1,q,1⟩)+pend tag=v0:=by have:=Vc_upd D (⟨1,q,1⟩:WD) aX;have:=nc q;omega
     refine book hgo (aside_setCell w (stA Wg) _) (gA.setSt _) bk2 KZ (.quit aH) rfl (by omega) (λ_ a1 _=>ConcN.Mode.retag ?_ a1) (.inl ⟨by omega,by simp[cnt]⟩);have e:((v0:Nat):Int)*KK+((0:Nat):Int)=((Vc j (upd D i ⟨1,q,1⟩)+pend tag:Nat):Int)*KK:=by rw[iw];simp
     rw[e];exact .opn U (T8 q ab) (λaf ay=>by have:=al af ay;omega)
    |reg U ab al=>
     obtain⟨v0,ai⟩:∃v,Vc j D=v+1:=⟨Vc j D-1,by omega⟩;rw[ai]at gA;have ae:pend tag=0:=by cases tag<;>first|rfl|exact U.elim
     have fg:WgAt ty Wg w (((v0:Nat)+1)*KK+((1:Nat):Int)) 0:=by simpa using gA
     obtain⟨g',hgo,ak,aH⟩:=lh v0 1 (by omega) (by omega) fg;by_cases pD:v0=0
     ·subst pD;obtain⟨m₂,aq⟩:=ak ⟨rfl,rfl⟩;refine book hgo (aside_setCell w (stA Wg) _) (gA.setSt _) bk2 KZ (.d2 aq) rfl (by omega) (λ_ a1 _=>ConcN.Mode.retag ?_ a1) (.inl ⟨by omega,by simp[cnt]⟩);have s5:∀a,a<j->a≠i->(D a).stage=1:=λa au e=>by
       have cO:=others_uncounted aX ai hA a au e;have:=ab a au;simp only[cnt]at cO;split at cO<;>omega
      have:=ConcN.Mode.last (j:=j) (D:=upd D i ⟨4,m₂,1⟩) (tag:=tag) i U aX (by rw[upd_same];simp) (λa au e=>by rw[upd_ne D _ e];exact s5 a au e);rw[upd_same]at this;simpa using this
     ·obtain⟨q,aH⟩:=aH (by omega);have iw:Vc j (upd D i ⟨1,q,1⟩)=v0:=by have:=Vc_upd D (⟨1,q,1⟩:WD) aX;have:=nc q;omega
      refine book hgo (aside_setCell w (stA Wg) _) (gA.setSt _) bk2 KZ (.quit aH) rfl (by omega) (λ_ a1 _=>ConcN.Mode.retag ?_ a1) (.inl ⟨by omega,by simp[cnt]⟩);have e:((v0:Nat):Int)*KK+((1:Nat):Int)=((Vc j (upd D i ⟨1,q,1⟩):Nat):Int)*KK+1:=by rw[iw];simp
      rw[e];exact .reg U (T8 q ab) (by omega)
    |last L _ ab al aJ=>
     by_cases e:i=L
     ·subst e;omega
     ·have:=aJ i aX e;omega
    |sema ab=>have:=ab i aX;omega
    |fin _ ab=>have:=ab i aX;omega
   ·obtain⟨g',w',es,hgo,⟨rfl,rfl⟩,oL⟩:=eo w (RW.refl w);exact idle hgo (.d1 oL) rfl
  |d2 h=>
   rcases Goes.cases h with qc|⟨m',rfl,eo⟩
   ·obtain⟨_,aj⟩:=qc w (RW.refl w);obtain⟨B1,s5,rfl,rfl⟩:=rf.isLast aX (by omega);simp only[bh]at gA;obtain⟨g',hgo,m₂,aq⟩:=aj (by simpa using gA);refine book hgo (.refl Wg w) gA (by intro e he;simp at he;subst he;exact bk_cell _ _ rfl) (by intro jG e he;match jG,he with|0,_=>exact .inr (by simp[deafBehind])|jG+1,he=>simp at he) (.d3 aq) rfl (by omega) (λ_ a1 _=>ConcN.Mode.retag ?_ a1) (.inl ⟨by omega,by simp[cnt]⟩);have:=ConcN.Mode.last (j:=j) (D:=upd D i ⟨3,m₂,1⟩) (tag:=tag) i B1 aX (by rw[upd_same];simp) (λa au e=>by rw[upd_ne D _ e];exact s5 a au e);rw[upd_same]at this;simpa using this
   ·obtain⟨g',w',es,hgo,⟨rfl,rfl⟩,oL⟩:=eo w (RW.refl w);exact idle hgo (.d2 oL) rfl
  |d3 h=>
   rcases Goes.cases h with qc|⟨m',rfl,eo⟩
   ·obtain⟨_,aj⟩:=qc w (RW.refl w);obtain⟨B1,s5,rfl,rfl⟩:=rf.isLast aX (by omega);simp only[bh]at gA;obtain⟨g',hgo,m₂,aq⟩:=aj (by simpa using gA);refine book hgo (aside_setCell w (stA Wg) _) (gA.setSt 0) (by intro e he;simp at he;subst he;exact bk_cell _ _ rfl) (by intro jG e he;match jG,he with|0,_=>exact .inr (by simp[deafBehind])|jG+1,he=>simp at he) (.d4 aq) rfl (by omega) (λ_ a1 _=>ConcN.Mode.retag ?_ a1) (.inl ⟨by omega,by simp[cnt]⟩);have:=ConcN.Mode.last (j:=j) (D:=upd D i ⟨2,m₂,1⟩) (tag:=tag) i B1 aX (by rw[upd_same];simp) (λa au e=>by rw[upd_ne D _ e];exact s5 a au e);rw[upd_same]at this;simpa using this
   ·obtain⟨g',w',es,hgo,⟨rfl,rfl⟩,oL⟩:=eo w (RW.refl w);exact idle hgo (.d3 oL) rfl
  |d4 h=>
   rcases Goes.cases h with qc|⟨m',rfl,eo⟩
   ·obtain⟨_,ahB,aj⟩:=qc w (RW.refl w);obtain⟨B1,s5,rfl,rfl⟩:=rf.isLast aX (by omega);simp only[bh]at gA;obtain⟨g',hgo,q,aH⟩:=aj (by simpa using gA);have aep:g'.status=.running:=by
     cases q with
     |zero=>exact absurd aH.2 (by decide)
     |succ q=>exact aH.elim (λx=>absurd x.2 (by decide)) (λx=>x.1)
    refine book hgo (aside_setCell w (smA Wg) _) (gA.setSm 1) (es:=semEvents (smA Wg)) ?_ ?_ (.quit aH) (by simp[deafBehind,semEvents]) (by omega) ?_ (.inl ⟨by omega,by simp[cnt]⟩)
    ·exact λe he=>by
      simp[semEvents]at he;rcases he with rfl|rfl|rfl|rfl
      ·exact .inl rfl
      ·exact bk_cell _ _ rfl
      ·exact bk_cell _ _ rfl
      ·exact .inr (.inl rfl)
    ·intro jG e he
     match jG,he with
     |0,he=>simp[semEvents]at he;subst he;exact .inl rfl
     |1,_=>exact .inr (by simp[deafBehind,semEvents])
     |2,_=>exact .inr (by simp[deafBehind,semEvents])
     |3,he=>simp[semEvents]at he;subst he;exact .inl rfl
     |jG+4,he=>simp[semEvents]at he
    ·intro tag' a1 hw;have kr:=hw ahB aep;have bS:tag'=.w3:=by
      rcases a1 with rfl|⟨_,rfl⟩
      ·cases tag'<;>first|rfl|exact B1.elim|exact absurd rfl kr
      ·rfl
     subst bS;simp only[if_true];exact .sema λa au=>by
      by_cases e:a=i
      ·subst e;rw[upd_same]
      ·rw[upd_ne D _ e];exact s5 a au e
   ·obtain⟨g',w',es,hgo,⟨rfl,rfl⟩,oL⟩:=eo w (RW.refl w);exact idle hgo (.d4 oL) rfl
  |quit h=>
   cases m with
   |zero=>rw[h.1]at aB;cases aB
   |succ q=>
    rcases h with⟨aQ,_⟩|⟨_,g',es,JH,eo,aH⟩
    ·rw[aQ]at aB;cases aB
    ·have ahC:∀e∈es,Bk Wg e:=λe he=>bk_of_mute (JH e he);refine book (eo w) (.refl Wg w) gA ahC (λjG e he=>.inl ?_) (.quit aH) rfl (by omega) (λ_ a1 _=>(same q _).retag a1) (.inr ⟨rfl,rfl⟩);rcases bk_of_mute (Wg:=Wg) (JH e (Array.mem_of_getElem? he))with U|U|⟨a,wr,rfl,_⟩
     ·rw[ofEvent_loc_mark U];rfl
     ·rw[ofEvent_loc_mark U];rfl
     ·have:=JH _ (Array.mem_of_getElem? he);simp[Event.mute]at this
end
end
section
open Go Go.Conc
open Go.ConcN (CTag WD Vc Ssum Fsum sumTo upd sumTo_upd upd_ne upd_same cnt pend PayAt Has WgLive RelBy Apart CT Ok0 OkW RW get_map_set get_map_set_same cell_of_block Deaf_absent Deaf_still)
open Go.ConcR (KK WgAt stA smA rd wr mk Payload Bk g_of_ofEvents)
def py:Loc->Option Nat
 |.cell a=>some a.block
 |.obj r=>some r
 |_=>none
def xe(cf:Nat->Nat)(C j0 n k:Nat)(l:Loc):Prop:=(∃b,py l=some b/\cf b=k/\j0<k)\/∃i,k=j0+1+i/\i<n/\l=.cell ⟨C,i,none⟩
def vv(RO:Nat->Nat->Prop)(j0 k:Nat)(l:Loc):Prop:=∃b,py l=some b/\j0<k/\RO (k-(j0+1)) b
structure CM(cf:Nat->Nat)(RO:Nat->Nat->Prop)(S:Nat->Prop)(Wg C:Nat):Prop where
 zA:cf Wg=0
 zB:cf C=0
 K0:∀b,S b->cf b=0
 ro:∀i b,RO i b->cf b=0/\b≠Wg/\b≠C/\¬S b
 LO:¬S C
 U9:¬S Wg
 ts:C≠Wg
section
variable{cf:Nat->Nat}{RO:Nat->Nat->Prop}{S:Nat->Prop}{Wg C j0 n:Nat}
theorem CM.apart(h:CM cf RO S Wg C):Apart (hP λb=>S b\/b=Wg) (xe cf C j0 n) (vv RO j0):=by
 refine⟨?_,?_,?_,?_⟩
 ·rintro k bB l (⟨b,U,ab,al⟩|⟨i,U,ab,rfl⟩) (⟨a6,fG,ha,od⟩|⟨cm,fG,ha,e⟩)
  ·grind
  ·subst e;simp[py]at U;subst U;have:=h.zB;omega
  ·simp[py]at fG;subst fG;have:=h.zB;omega
  grind
 ·rintro k bB l (⟨b,U,ab,al⟩|⟨i,U,ab,rfl⟩) ⟨a6,fG,ha,od⟩
  ·rw[U]at fG;cases fG;have:=(h.ro _ _ od).1;omega
  ·simp[py]at fG;subst fG;exact(h.ro _ _ od).2.2.1 rfl
 ·rintro k l (⟨b,U,ab,al⟩|⟨i,U,ab,rfl⟩) ⟨a,e,ao⟩
  ·subst e;simp[py]at U;subst U;rcases ao with ao|ao
   ·have:=h.K0 _ ao;omega
   ·rw[ao]at ab;have:=h.zA;omega
  ·injection e with e;subst e;exact ao.elim h.LO h.ts
 ·rintro k l ⟨b,U,ab,al⟩ ⟨a,rfl,ao⟩;simp[py]at U;obtain⟨_,k2,_,cX⟩:=h.ro _ _ al;grind
end
inductive EvB(B RO:Nat->Prop):Event->Prop
 |rd {a:Addr}:B a.block\/RO a.block->EvB B RO ⟨.cell a,false,false⟩
 |wr {a:Addr}:B a.block->EvB B RO ⟨.cell a,true,false⟩
 |get {r:Nat}:B r\/RO r->EvB B RO ⟨.obj r,false,false⟩
 |set {r:Nat}:B r->EvB B RO ⟨.obj r,true,false⟩
 |ext {f:FuncId}:EvB B RO ⟨.mark (.extern f),false,true⟩
 |room:EvB B RO ⟨.mark .noRoom,false,true⟩
theorem EvB.still{B RO:Nat->Prop}{e:Event}(h:EvB B RO e)(a:Addr):e.loc≠.mark .disable/\e.loc≠.mark .enable/\e.loc≠.mark (.release a):=by cases h<;>simp
theorem EvB.plain{B RO:Nat->Prop}{e:Event}(h:EvB B RO e){x:Touch}(aj:(MemAct.ofEvent e).touch?=some x):x.kind=.plain/\x.loc.isMemory=true/\∃b,py x.loc=some b/\(B b\/(RO b/\x.write=false)):=by
 cases h with
 |rd h=>simp[ofEvent_cell0,MemAct.touch?]at aj;subst aj;exact⟨rfl,rfl,_,rfl,h.imp id λh=>⟨h,rfl⟩⟩
 |wr h=>simp[ofEvent_cell0,MemAct.touch?]at aj;subst aj;exact⟨rfl,rfl,_,rfl,.inl h⟩
 |get h=>simp[MemAct.ofEvent,MemAct.touch?]at aj;subst aj;exact⟨rfl,rfl,_,rfl,h.imp id λh=>⟨h,rfl⟩⟩
 |set h=>simp[MemAct.ofEvent,MemAct.touch?]at aj;subst aj;exact⟨rfl,rfl,_,rfl,.inl h⟩
 |ext=>trivial
 |room=>trivial
theorem EvB.low{B RO:Nat->Prop}{e:Event}(h:EvB B RO e){N:Nat}(hb:∀b,B b\/RO b->b<N):(MemAct.ofEvent e).low N:=by
 cases h with
 |rd h=>exact hb _ h
 |wr h=>exact hb _ (.inl h)
 |get h=>exact hb _ h
 |set h=>exact hb _ (.inl h)
 |ext=>trivial
 |room=>trivial
structure Kb[Payload](ty:TypeId)(Wg C n i:Nat)(B:Nat->Prop)(w w':World):Prop where
 os:w'.os=w.os
 out:w'.output=w.output
 size:w.heap.size<=w'.heap.size
 blk:∀b,b<w.heap.size->¬B b->b≠C->b≠Wg->w'.heap[b]?=w.heap[b]?
 pay:PayAt C n w->PayAt C n w'
 cells:∀cm,cm≠i->w'.cell? ⟨C,cm,none⟩=w.cell? ⟨C,cm,none⟩
 live:WgLive ty Wg w->WgLive ty Wg w'
structure Qm[Payload](C n i:Nat)(B RO:Nat->Prop)(w w':World)(es:Array Event):Prop where
 os:w'.os=w.os
 out:w'.output=w.output
 size:w.heap.size<=w'.heap.size
 blk:∀b,b<w.heap.size->¬B b->b≠C->w'.heap[b]?=w.heap[b]?
 pay:PayAt C n w->PayAt C n w'
 cells:∀cm,cm≠i->w'.cell? ⟨C,cm,none⟩=w.cell? ⟨C,cm,none⟩
 ay:∀e∈es,EvB (λb=>B b\/(w.heap.size<=b/\b<w'.heap.size)) RO e\/∃x,e=⟨.cell ⟨C,i,none⟩,x,false⟩
structure lM[Payload](P:Program)(ty:TypeId)(Wg C n:Nat)(val:Nat->Value){σ:Type}(lt:σ->σ->Prop)(b5:Nat->σ->(Nat->Prop)->(Nat->Prop)->Goroutine->World->Prop):Prop where
 run:∀{i s B RO g w},b5 i s B RO g w->g.status=.running
 keep:∀{i s B RO g w fB},b5 i s B RO g w->w.heap.size<=fB.heap.size->(∀b,B b\/RO b->fB.heap[b]?=w.heap[b]?)->fB.cell? ⟨C,i,none⟩=w.cell? ⟨C,i,none⟩->b5 i s B RO g fB
 step:∀{i s B RO g w},b5 i s B RO g w->i<n->PayAt C n w->WgLive ty Wg w->¬B C->¬RO C->∃g' w' es,stepG P false g w=.go g' w' es/\Qm C n i B RO w w' es /\
  ((∃s',lt s' s/\b5 i s' (λb=>B b\/(w.heap.size<=b/\b<w'.heap.size)) RO g' w')\/∃m,lT P ty Wg C n i (val i) 7 m 0 g' w')
def oQ{σ:Type}(lt:σ->σ->Prop):Option σ->Option σ->Prop
 |none,some _=>True
 |some s,some s'=>lt s s'
 |_,_=>False
theorem oQ.acc{σ:Type}{lt:σ->σ->Prop}{s:σ}(h:Acc lt s):Acc (oQ lt) (some s):=by
 induction h with
 |intro s _ az=>
  refine⟨_,λy aF=>?_⟩;cases y with
  |none=>exact⟨_,λz bO=>by cases z<;>exact bO.elim⟩
  |some y=>exact az y aF
theorem oQ.Pb{σ:Type}{lt:σ->σ->Prop}:Acc (oQ lt) (none:Option σ):=⟨_,λz bO=>by cases z<;>exact bO.elim⟩
def tX{α:Type}(r:α->α->Prop)(j:Nat)(bj f:Nat->α):Prop:=∃i,i<j/\r (bj i) (f i)/\∀k,k≠i->bj k=f k
theorem tX.acc{α:Type}{r:α->α->Prop}:∀(j:Nat)(f:Nat->α),(∀i,i<j->Acc r (f i))->Acc (tX r j) f
 |0,f,_=>⟨_,λy aF=>by obtain⟨i,aX,_⟩:=aF;omega⟩
 |j+1,f,h=>by
  have az:=tX.acc (r:=r) j;have aC:=h j (by omega);generalize aj:f j=x at aC;induction aC generalizing f with
  |intro x va T9=>
   have aQ:=az f λi aX=>h i (by omega);induction aQ with
   |intro f _ B5=>
    refine⟨_,λy aF=>?_⟩;obtain⟨i,aX,ad,aq⟩:=aF;have lh:∀k,k<j+1->Acc r (y k):=λk gx=>by
     by_cases e:k=i
     ·subst e;exact(h k gx).inv ad
     ·rw[aq k e];exact h k gx
    by_cases e:i=j
    ·subst e;exact T9 (y i) (aj▸ad) y lh rfl
    ·exact B5 y ⟨i,by omega,ad,aq⟩ lh (by rw[aq j λx=>e x.symm];exact aj)
theorem afO{α:Type}{r:α->α->Prop}{M:Nat->α->Nat->Prop}(H:∀s v m,Acc r v->(∀s' bg m',s'<s->Acc r bg->M s' bg m')->(∀bg m',r bg v->M s bg m')->(∀m',m'<m->M s v m')->M s v m):∀(s:Nat)(v:α)(m:Nat),Acc r v->M s v m:=by
 intro s;induction s using Nat.strongRecOn with
 |_ s ahF=>
  intro v m ai;induction ai generalizing m with
  |intro v va ahG=>
   induction m using Nat.strongRecOn with
   |_ m ahH=>exact H s v m ⟨v,va⟩ (λs' bg m' h iw=>ahF s' h bg m' iw) (λbg m' h=>ahG bg h m') ahH
section
variable[Payload](P:Program)(ty:TypeId)(Wg C n:Nat)(val ini:Nat->Value){σ:Type}(b5:Nat->σ->(Nat->Prop)->(Nat->Prop)->Goroutine->World->Prop)
inductive pE(i:Nat)(B RO:Nat->Prop)(g:Goroutine)(w:World):Option σ->WD->Prop
 |own {s:σ}:b5 i s B RO g w->pE i B RO g w (some s) ⟨7,0,0⟩
 |lu {s m d:Nat}:lT P ty Wg C n i (val i) s m d g w->pE i B RO g w none ⟨s,m,d⟩
variable(S:Nat->Prop)(j0:Nat)(Wp:World)
structure jf(j:Nat)(D:Nat->WD)(V:Nat->Option σ)(cf:Nat->Nat)(RO:Nat->Nat->Prop)(gs:Array Goroutine)(w:World)(t:Trace)(q:Nat->Nat)(d0:Nat):Prop where
 size:gs.size=j0+1+j
 old:∀k g,0<k->k<=j0->gs[k]?=some g->QuitsD P (q k) (Deaf t k) g
 wk:∀i,i<j->∃g,gs[j0+1+i]?=some g/\pE P ty Wg C n val b5 i (λb=>cf b=j0+1+i) (RO i) g w (V i) (D i)
 qE:hl (hP λb=>S b\/b=Wg) (xe cf C j0 n) (vv RO j0) w.heap.size t j0 (j0+j)
 norel:NoRelease (stA Wg) t
 deaf0:Deaf t 0=d0
 deafW:∀i,i<j->Deaf t (j0+1+i)=(D i).deaf
 rel:∀i,i<j->(D i).stage<=6->∃r,RelBy (stA Wg) t (j0+1+i) r
 has:∀i,i<j->(D i).stage<=6->Has C i (val i) w
 pay:PayAt C n w
 rest:∀i,j<=i->i<n->w.cell? ⟨C,i,none⟩=some (ini i)
 live:WgLive ty Wg w
 gT:CM cf RO S Wg C
 jn:j<=n
 tD:∀b,w.heap.size<=b->cf b=0
 xA:∀b,cf b≠0->j0<cf b/\cf b<=j0+j/\Wp.heap.size<=b
 qn:∀i b,RO i b->b<w.heap.size
 B6:∀i b,RO i b->i<j
 hR:Wp.heap.size<=w.heap.size
 xB:∀b,S b->b<Wp.heap.size
 base:∀b,b<Wp.heap.size->b≠Wg->b≠C->w.heap[b]?=Wp.heap[b]?
 os:w.os=Wp.os
 out:w.output=Wp.output
end
section
variable[Payload]{P:Program}{ty:TypeId}{Wg C n:Nat}{val ini:Nat->Value}{σ:Type}{lt:σ->σ->Prop}{b5:Nat->σ->(Nat->Prop)->(Nat->Prop)->Goroutine->World->Prop}{S:Nat->Prop}{j0:Nat}{Wp:World}
 {j:Nat} {D:Nat->WD} {V:Nat->Option σ} {cf:Nat->Nat} {RO:Nat->Nat->Prop} {gs:Array Goroutine} {w w':World} {t:Trace} {q:Nat->Nat} {d0:Nat}
def j1(cf:Nat->Nat)(w w':World)(k:Nat):Nat->Nat:=λb=>if w.heap.size<=b/\b<w'.heap.size then k else cf b
theorem pE.status{i:Nat}{B R:Nat->Prop}{g:Goroutine}{v:Option σ}{d:WD}(hW:lM P ty Wg C n val lt b5)(h:pE P ty Wg C n val b5 i B R g w v d):g.status=.running\/g.status=.finished:=by
 cases h with
 |own h=>exact .inl (hW.run h)
 |lu h=>exact h.status
theorem pE.woken{i:Nat}{B R:Nat->Prop}{g a a':Goroutine}{v:Option σ}{d:WD}(hW:lM P ty Wg C n val lt b5)(h:pE P ty Wg C n val b5 i B R g w v d):woken P a a' w' g=g:=by
 unfold Go.Conc.woken;split
 ·exact again_running _ (h.status hW)
 ·rfl
theorem pE.keep{i:Nat}{B R B' R':Nat->Prop}{g:Goroutine}{v:Option σ}{d:WD}(hW:lM P ty Wg C n val lt b5)(h:pE P ty Wg C n val b5 i B R g w v d)(dH:∀b,B' b↔B b)(cn:∀b,R' b↔R b)(ao:w.heap.size<=w'.heap.size)(hb:∀b,B b\/R b->w'.heap[b]?=w.heap[b]?)
  (ak:WgLive ty Wg w->WgLive ty Wg w') (ae:PayAt C n w->PayAt C n w') (ah:w'.cell? ⟨C,i,none⟩=w.cell? ⟨C,i,none⟩):pE P ty Wg C n val b5 i B' R' g w' v d:=by
 obtain rfl:B'=B:=funext λb=>propext (dH b);obtain rfl:R'=R:=funext λb=>propext (cn b);cases h with
 |own h=>exact .own (hW.keep h ao hb ah)
 |lu h=>exact .lu (h.rely ⟨λb h=>absurd h (Nat.not_lt_zero b),ak,ae,ah⟩)
theorem jf.at(hW:lM P ty Wg C n val lt b5)(h:(jf P ty Wg C n val ini b5 S j0 Wp) j D V cf RO gs w t q d0)(d:Nat):(jf P ty Wg C n val ini b5 S j0 Wp) j D V cf RO gs (w.at d) t q d0:=
 ⟨h.size,h.old,λi aX=>let⟨g,aN,ao⟩:=h.wk i aX;⟨g,aN,ao.keep hW (λ_=>Iff.rfl) (λ_=>Iff.rfl) (Nat.le_refl _) (λ_ _=>rfl) id id rfl⟩,h.qE,h.norel,h.deaf0,h.deafW,h.rel,h.has,h.pay,h.rest,h.live,h.gT,h.jn,h.tD,h.xA,h.qn,h.B6,h.hR,h.xB,h.base,h.os,h.out⟩
theorem jf.stepW(hW:lM P ty Wg C n val lt b5)(h:(jf P ty Wg C n val ini b5 S j0 Wp) j D V cf RO gs w t q d0){i:Nat}(aX:i<j){g g':Goroutine}{es:Array Event}{fn:FuncId}{pos:String}{V':Option σ}{D':WD}
  (aN:gs[j0+1+i]?=some g) (ej:Kb ty Wg C n i (λb=>cf b=j0+1+i) w w') (vb:pE P ty Wg C n val b5 i (λb=>j1 cf w w' (j0+1+i) b=j0+1+i) (RO i) g' w' V' D')
  (fU:∀op∈MemOp.ofEvents (j0+1+i) fn pos es,OkW (hP λb=>S b\/b=Wg) (xe (j1 cf w w' (j0+1+i)) C j0 n) (vv RO j0) (j0+1+i) op)
  (cD:∀op∈MemOp.ofEvents (j0+1+i) fn pos es,∀a,op.act.touch?=some a->¬hP (λb=>S b\/b=Wg) a.loc->a.kind≠.atomic)
  (hm:∀op∈MemOp.ofEvents (j0+1+i) fn pos es,∀a,op.act.touch?=some a->a.loc.isMemory=true)
  (gX:∀op∈MemOp.ofEvents (j0+1+i) fn pos es,op.act.low w'.heap.size)
  (K1:∀op∈MemOp.ofEvents (j0+1+i) fn pos es,op.act≠.mark (.release (stA Wg)))
  (iY:deafBehind (D i).deaf es=D'.deaf) (lU:D'.stage<=6->∃r,RelBy (stA Wg) (t++MemOp.ofEvents (j0+1+i) fn pos es) (j0+1+i) r) (Th:D'.stage<=6->Has C i (val i) w'):
  (jf P ty Wg C n val ini b5 S j0 Wp) j (upd D i D') (upd V i V') (j1 cf w w' (j0+1+i)) RO ((gs.map (woken P g g' w')).setIfInBounds (j0+1+i) g') w' (t++MemOp.ofEvents (j0+1+i) fn pos es) q d0:=by
 have bO:∀b,cf b≠0->b<w.heap.size:=λb hb=>Nat.lt_of_not_le λx=>hb (h.tD b x);have FO:∀b k,k≠j0+1+i->k≠0->(j1 cf w w' (j0+1+i) b=k↔cf b=k):=λb k aq aT=>by grind [j1]
 have hold:∀b,b<w.heap.size->j1 cf w w' (j0+1+i) b=cf b:=λb hb=>if_neg (by omega);have B7:CM (j1 cf w w' (j0+1+i)) RO S Wg C:=by
  have key:∀b,cf b=0->b<w.heap.size->j1 cf w w' (j0+1+i) b=0:=λb U ab=>(hold b ab).trans U;have ahI:Wg<w.heap.size:=by obtain⟨_,_,x⟩:=h.live;exact(Array.getElem?_eq_some_iff.1 x).1
  have hC:C<w.heap.size:=by obtain⟨_,x,_⟩:=h.pay;grind
  refine⟨key _ h.gT.zA ahI,key _ h.gT.zB hC,λb hb=>?_,λcm b hb=>?_,h.gT.LO,h.gT.U9,h.gT.ts⟩
  ·exact key _ (h.gT.K0 b hb) (Nat.lt_of_lt_of_le (h.xB b hb) h.hR)
  ·have:=h.gT.ro cm b hb;exact⟨key _ this.1 (h.qn cm b hb),this.2⟩
 have A:=B7.apart (j0:=j0) (n:=n);have B8:hl (hP λb=>S b\/b=Wg) (xe (j1 cf w w' (j0+1+i)) C j0 n) (vv RO j0) w'.heap.size t j0 (j0+j):=by
  refine(h.qE.grow (Own':=xe (j1 cf w w' (j0+1+i)) C j0 n) (Rd':=vv RO j0) (λk l _ _ ak=>?_) (λk l _ _ ak=>?_) (λ_ _ _ _=>Iff.rfl)).mono ej.size
  ·rcases ak with⟨b,U,ab,al⟩|ak
   ·exact .inl ⟨b,U,by grind,al⟩
   ·exact .inr ak
  ·rcases ak with⟨b,U,ab,al⟩|ak
   ·unfold j1 at ab;split at ab
    ·rename_i aj;refine .inr ?_;cases l with
     |cell a=>simp only[py,Option.some.injEq]at U;subst U;exact Oh h.qE.seen aj.1
     |obj r=>simp only[py,Option.some.injEq]at U;subst U;exact YH h.qE.seen aj.1
     |_=>cases U
    ·exact .inl (.inl ⟨b,U,ab,al⟩)
   ·exact .inl (.inr ak)
 have aU:j0+1+i<gs.size:=(Array.getElem?_eq_some_iff.1 aN).1;have jg:=g_of_ofEvents (g:=j0+1+i) (fn:=fn) (pos:=pos) (es:=es);refine⟨by simp[h.size],λk x aq mG aj=>?_,λcm e1=>?_,B8.appW A (by omega) (by omega) fU cD hm gX,h.norel.app K1,by rw[Deaf_other t (by omega) _ jg,h.deaf0],λcm e1=>?_,λcm e1 bh=>?_,λcm e1 bh=>?_,ej.pay h.pay,λcm U ab=>(ej.cells cm (by omega)).trans (h.rest cm U ab),ej.live h.live,B7,h.jn,λb hb=>?_,λb hb=>?_,λcm b hb=>Nat.lt_of_lt_of_le (h.qn cm b hb) ej.size,h.B6,Nat.le_trans h.hR ej.size,h.xB,λb hb U ab=>?_,ej.os.trans h.os,ej.out.trans h.out⟩
 ·rw[get_map_set _ _ _ _ (by omega)]at aj;obtain⟨y,aF,rfl⟩:=Option.map_eq_some_iff.1 aj;have aH:=h.old k y aq mG aF;rw[woken_quitsD aH,Deaf_other t (by omega) _ jg];exact aH
 ·by_cases e:cm=i
  ·simp_all[upd_same]
  ·obtain⟨x,aj,ao⟩:=h.wk cm e1;refine⟨x,by rw[get_map_set _ _ _ _ (by omega),aj,Option.map_some,ao.woken hW],?_⟩;rw[upd_ne D _ e,upd_ne V _ e];refine ao.keep hW (λb=>FO b _ (by omega) (by omega)) (λ_=>Iff.rfl) ej.size (λb hb=>?_) ej.live ej.pay (ej.cells cm e);rcases hb with hb|hb
   ·refine ej.blk b (bO b (by omega)) (by omega) ?_ ?_
    ·rintro rfl;have:=h.gT.zB;omega
    ·rintro rfl;have:=h.gT.zA;omega
   ·have:=h.gT.ro cm b hb;exact ej.blk b (h.qn cm b hb) (by omega) this.2.2.1 this.2.1
 ·by_cases e:cm=i
  ·subst e;rw[Deaf_own,h.deafW cm e1,upd_same];exact iY
  ·rw[Deaf_other t (by omega) _ jg,h.deafW cm e1,upd_ne D _ e]
 ·by_cases e:cm=i
  ·subst e;rw[upd_same]at bh;exact lU bh
  ·rw[upd_ne D _ e]at bh;obtain⟨r,ad⟩:=h.rel cm e1 bh;exact⟨r,ad.appOther jg (by omega)⟩
 ·by_cases e:cm=i
  ·subst e;rw[upd_same]at bh;exact Th bh
  ·rw[upd_ne D _ e]at bh;exact(ej.cells cm e).trans (h.has cm e1 bh)
 ·exact(if_neg (by omega)).trans (h.tD b (Nat.le_trans ej.size hb))
 ·unfold j1 at hb⊢;split
  ·rename_i aj;have:=h.hR;omega
  ·rename_i aj;rw[if_neg aj]at hb;exact h.xA b hb
 ·refine(ej.blk b (Nat.lt_of_lt_of_le hb h.hR) (λx=>?_) ab U).trans (h.base b hb U ab);have:=(h.xA b (by omega)).2.2;omega
end
end
section
open Go Go.Conc
open Go.ConcN (CTag WD Vc Ssum Fsum sumTo upd sumTo_upd upd_ne upd_same cnt pend PayAt Has WgLive RelBy Apart CT Ok0 OkW RW get_map_set get_map_set_same cell_of_block Deaf_absent Deaf_still)
open Go.ConcR (KK WgAt stA smA rd wr mk Payload Bk g_of_ofEvents)
section
variable[Payload]{P:Program}{ty:TypeId}{Wg C n:Nat}{val ini:Nat->Value}{σ:Type}{lt:σ->σ->Prop}{b5:Nat->σ->(Nat->Prop)->(Nat->Prop)->Goroutine->World->Prop}{S:Nat->Prop}{j0:Nat}{Wp:World}
 {j:Nat} {D:Nat->WD} {V:Nat->Option σ} {cf:Nat->Nat} {RO:Nat->Nat->Prop} {gs:Array Goroutine} {w w':World} {t:Trace} {q:Nat->Nat} {d0:Nat}
theorem Vx{g:Nat}{fn:FuncId}{pos:String}{es:Array Event}(hm:∀e∈es,e.mute=true):∀op∈MemOp.ofEvents g fn pos es,op.act.touch?=none:=λop aE=>by
 obtain⟨e,dG,rfl⟩:=Go.Conc.mem_ofEvents aE;exact touch_mute (hm e dG)
theorem XB{g:Nat}{fn:FuncId}{pos:String}{es:Array Event}(hm:∀e∈es,e.mute=true)(a:Addr):∀op∈MemOp.ofEvents g fn pos es,op.act≠.mark (.release a):=λop aE h=>by
 obtain⟨e,dG,rfl⟩:=Go.Conc.mem_ofEvents aE;have U:=hm e dG;have ab:=Go.ConcR.loc_of_ofEvent h;obtain⟨loc,wr,amG⟩:=e;dsimp only at ab;subst ab;simp[Event.mute]at U
theorem jf.aeu(hW:lM P ty Wg C n val lt b5)(h:(jf P ty Wg C n val ini b5 S j0 Wp) j D V cf RO gs w t q d0){k:Nat}(aq:0<k)(FP:k<=j0){g g':Goroutine}{es:Array Event}{fn:FuncId}{pos:String}{m:Nat}(aN:gs[k]?=some g)(hm:∀e∈es,e.mute=true)(aH:QuitsD P m (deafBehind (Deaf t k) es) g'):
  (jf P ty Wg C n val ini b5 S j0 Wp) j D V cf RO ((gs.map (woken P g g' w)).setIfInBounds k g') w (t++MemOp.ofEvents k fn pos es) (upd q k m) d0:=by
 have jg:=g_of_ofEvents (g:=k) (fn:=fn) (pos:=pos) (es:=es);have aU:k<gs.size:=(Array.getElem?_eq_some_iff.1 aN).1;have A:=h.gT.apart (j0:=j0) (n:=n);refine⟨by simp[h.size],λbB x gx mG aj=>?_,λcm e1=>?_,h.qE.mute A (k:=k) (by omega) (by omega) jg (Vx hm) (λop aE=>by obtain⟨e,he,rfl⟩:=Go.Conc.mem_ofEvents aE;exact low_mute (hm e he) _),h.norel.app (XB hm _),by rw[Deaf_other t (by omega) _ jg,h.deaf0],λcm e1=>by rw[Deaf_other t (by omega) _ jg,h.deafW cm e1],λcm e1 bh=>?_,h.has,h.pay,h.rest,h.live,h.gT,h.jn,h.tD,h.xA,h.qn,h.B6,h.hR,h.xB,h.base,h.os,h.out⟩
 ·by_cases e:k=bB
  ·subst e;rw[get_map_set_same _ _ _ aU]at aj;cases aj;rw[upd_same,Deaf_own];exact aH
  ·rw[get_map_set _ _ _ _ e]at aj;obtain⟨y,aF,rfl⟩:=Option.map_eq_some_iff.1 aj;have aH:=h.old bB y gx mG aF;rw[woken_quitsD aH,Deaf_other t e _ jg,upd_ne q m (Ne.symm e)];exact aH
 ·obtain⟨x,aj,ao⟩:=h.wk cm e1;exact⟨x,by rw[get_map_set _ _ _ _ (by omega),aj,Option.map_some,ao.woken hW],ao⟩
 ·obtain⟨r,ad⟩:=h.rel cm e1 bh;exact⟨r,ad.appOther jg (by omega)⟩
theorem jf.step0(hW:lM P ty Wg C n val lt b5)(h:(jf P ty Wg C n val ini b5 S j0 Wp) j D V cf RO gs w t q d0){a a':Goroutine}{es:Array Event}{fn:FuncId}{pos:String}
  (tp:w'.os=w.os) (rp:w'.output=w.output) (bX:w.heap.size<=w'.heap.size) (lV:∀b,b<w.heap.size->(cf b≠0\/(∃i,RO i b)\/b<Wp.heap.size\/b=C)->b≠Wg->w'.heap[b]?=w.heap[b]?) (qd:WgLive ty Wg w')
  (fU:∀op∈MemOp.ofEvents 0 fn pos es,Ok0 (hP λb=>S b\/b=Wg) (xe cf C j0 n) (vv RO j0) (j0+j) op)
  (cD:∀op∈MemOp.ofEvents 0 fn pos es,∀a,op.act.touch?=some a->¬hP (λb=>S b\/b=Wg) a.loc->a.kind≠.atomic)
  (gX:∀op∈MemOp.ofEvents 0 fn pos es,op.act.low w'.heap.size) (K1:∀op∈MemOp.ofEvents 0 fn pos es,op.act≠.mark (.release (stA Wg))):
  (jf P ty Wg C n val ini b5 S j0 Wp) j D V cf RO ((gs.map (woken P a a' w')).setIfInBounds 0 a') w' (t++MemOp.ofEvents 0 fn pos es) q (deafBehind d0 es):=by
 have jg:=g_of_ofEvents (g:=0) (fn:=fn) (pos:=pos) (es:=es);have A:=h.gT.apart (j0:=j0) (n:=n);have bO:∀b,cf b≠0->b<w.heap.size:=λb hb=>Nat.lt_of_not_le λx=>hb (h.tD b x);have FQ:C<w.heap.size:=by obtain⟨_,x,_⟩:=h.pay;exact(Array.getElem?_eq_some_iff.1 x).1
 have hC:w'.heap[C]?=w.heap[C]?:=lV C FQ (.inr (.inr (.inr rfl))) h.gT.ts;have ry:PayAt C n w->PayAt C n w':=λ⟨cs,ah,aI⟩=>⟨cs,hC.trans ah,aI⟩;refine⟨by simp[h.size],λbB x gx mG aj=>?_,λcm e1=>?_,((h.qE.mono bX).app0 A fU cD gX),h.norel.app K1,by rw[Deaf_own,h.deaf0],λcm e1=>by rw[Deaf_other t (by omega) _ jg,h.deafW cm e1],λcm e1 bh=>?_,λcm e1 bh=>(cell_of_block hC cm).trans (h.has cm e1 bh),ry h.pay,λcm U ab=>(cell_of_block hC cm).trans (h.rest cm U ab),qd,h.gT,h.jn,λb hb=>h.tD b (Nat.le_trans bX hb),h.xA,λi b hb=>Nat.lt_of_lt_of_le (h.qn i b hb) bX,h.B6,Nat.le_trans h.hR bX,h.xB,λb hb U ab=>(lV b (Nat.lt_of_lt_of_le hb h.hR) (.inr (.inr (.inl hb))) U).trans (h.base b hb U ab),tp.trans h.os,rp.trans h.out⟩
 ·rw[get_map_set _ _ _ _ (by omega)]at aj;obtain⟨y,aF,rfl⟩:=Option.map_eq_some_iff.1 aj;have aH:=h.old bB y gx mG aF;rw[woken_quitsD aH,Deaf_other t (by omega) _ jg];exact aH
 ·obtain⟨x,aj,ao⟩:=h.wk cm e1;refine⟨x,by rw[get_map_set _ _ _ _ (by omega),aj,Option.map_some,ao.woken hW],ao.keep hW (λ_=>Iff.rfl) (λ_=>Iff.rfl) bX (λb hb=>?_) (λ_=>qd) ry (cell_of_block hC cm)⟩;rcases hb with hb|hb
  ·refine lV b (bO b (by omega)) (.inl (by omega)) ?_;rintro rfl;have:=h.gT.zA;omega
  ·exact lV b (h.qn cm b hb) (.inr (.inl ⟨cm,hb⟩)) (h.gT.ro cm b hb).2.1
 ·obtain⟨r,ad⟩:=h.rel cm e1 bh;exact⟨r,ad.appOther jg (by omega)⟩
theorem jf.spawn(hW:lM P ty Wg C n val lt b5)(h:(jf P ty Wg C n val ini b5 S j0 Wp) j D V cf RO gs w t q 0){a' child:Goroutine}{x y:MemOp}{bM:Nat->Prop}{s:σ}(aj:x.g=0/\x.act=.go (j0+j+1))(aF:y.g=j0+j+1/\y.act=.start)(aC:j<n)
  (eP:∀b,bM b->b<w.heap.size/\cf b=0/\b≠Wg/\b≠C/\¬S b) (ah:b5 j s (λ_=>False) bM child w):
  (jf P ty Wg C n val ini b5 S j0 Wp) (j+1) (upd D j ⟨7,0,0⟩) (upd V j (some s)) cf (upd RO j bM) ((gs.setIfInBounds 0 a').push child) w (t++#[x,y]) q 0:=by
 have hm:∀op∈#[x,y],op=x\/op=y:=by intro op aE;simpa using aE
 have bh:∀op∈#[x,y],op.act≠.mark .disable/\op.act≠.mark .enable:=by
  intro op aE;rcases hm op aE with rfl|rfl
  ·rw[aj.2];exact⟨by simp,by simp⟩
  ·rw[aF.2];exact⟨by simp,by simp⟩
 have B7:CM cf (upd RO j bM) S Wg C:=⟨h.gT.zA,h.gT.zB,h.gT.K0,λi b hb=>by
  by_cases e:i=j
  ·subst e;rw[upd_same]at hb;exact(eP b hb).2
  ·rw[upd_ne RO _ e]at hb;exact h.gT.ro i b hb,h.gT.LO,h.gT.U9,h.gT.ts⟩
 have A:=B7.apart (j0:=j0) (n:=n);have K2:∀i,i≠j->upd RO j bM i=RO i:=λi e=>upd_ne RO _ e;have B8:hl (hP λb=>S b\/b=Wg) (xe cf C j0 n) (vv (upd RO j bM) j0) w.heap.size t j0 (j0+j):=h.qE.grow (λ_ _ _ _ x=>x) (λ_ _ _ _ x=>.inl x) λk l k1 hU=>by
  unfold vv;constructor
  ·rintro⟨b,U,ab,al⟩;rw[K2 _ (by omega)]at al;exact⟨b,U,ab,al⟩
  ·rintro⟨b,U,ab,al⟩;exact⟨b,U,ab,by rw[K2 _ (by omega)];exact al⟩
 refine⟨by simp[h.size];omega,λk g aq mG aN=>?_,λi aX=>?_,(B8.fork A aj aF h.deaf0),h.norel.app λop aE=>?_,by rw[Deaf_still t 0 _ bh,h.deaf0],λi aX=>?_,λi aX ao=>?_,λi aX ao=>?_,h.pay,λi U ab=>h.rest i (by omega) ab,h.live,B7,aC,h.tD,λb hb=>?_,λi b hb=>?_,λi b hb=>?_,h.hR,h.xB,h.base,h.os,h.out⟩
 ·have aU:k<gs.size:=by have:=h.size;omega
  rw[Array.getElem?_push_lt (by simpa using aU),←Array.getElem?_eq_getElem,Array.getElem?_setIfInBounds_ne (by omega)]at aN;rw[Deaf_still t _ _ bh];exact h.old k g aq mG aN
 ·rcases Nat.lt_or_ge i j with aU|h3
  ·obtain⟨g,aN,Ua⟩:=h.wk i aU;refine⟨g,?_,by rw[upd_ne D _ (by omega),upd_ne V _ (by omega),K2 i (by omega)];exact Ua⟩;rw[Array.getElem?_push_lt (by simp[h.size];omega),←Array.getElem?_eq_getElem,Array.getElem?_setIfInBounds_ne (by omega)];exact aN
  ·obtain rfl:i=j:=by omega
   refine⟨child,?_,?_⟩
   ·rw[show j0+1+i=(gs.setIfInBounds 0 a').size by simp[h.size],Array.getElem?_push_size]
   ·rw[upd_same,upd_same,upd_same];have e:(λb=>cf b=j0+1+i)=λ_=>False:=funext λb=>propext ⟨λhb=>(by have:=(h.xA b (by omega)).2.1;omega),False.elim⟩;rw[e];exact .own ah
 ·rcases hm op aE with rfl|rfl
  ·rw[aj.2];simp
  ·rw[aF.2];simp
 ·rw[Deaf_still t _ _ bh];rcases Nat.lt_or_ge i j with aU|h3
  ·rw[h.deafW i aU,upd_ne D _ (by omega)]
  ·obtain rfl:i=j:=by omega
   rw[upd_same];exact Deaf_absent λa op au e=>by have:=h.qE.ct.gs a op au;omega
 ·rcases Nat.lt_or_ge i j with aU|h3
  ·rw[upd_ne D _ (by omega)]at ao;obtain⟨r,ad⟩:=h.rel i aU ao;refine⟨r,ad.appNot λop aE=>?_⟩;rcases hm op aE with rfl|rfl
   ·rw[aj.1];omega
   ·rw[aF.1];omega
  ·obtain rfl:i=j:=by omega
   rw[upd_same]at ao;simp at ao
 ·rcases Nat.lt_or_ge i j with aU|h3
  ·rw[upd_ne D _ (by omega)]at ao;exact h.has i aU ao
  ·obtain rfl:i=j:=by omega
   rw[upd_same]at ao;simp at ao
 ·have:=h.xA b hb;exact⟨this.1,by omega,this.2.2⟩
 ·by_cases e:i=j
  ·subst e;rw[upd_same]at hb;exact(eP b hb).1
  ·rw[upd_ne RO _ e]at hb;exact h.qn i b hb
 ·by_cases e:i=j
  ·omega
  ·rw[upd_ne RO _ e]at hb;have:=h.B6 i b hb;omega
end
end
section
open Go Go.Conc
open Go.ConcN (CTag WD Vc Ssum Fsum sumTo upd sumTo_upd sumTo_upd_out sumTo_congr upd_ne upd_same cnt pend PayAt Has WgLive RelBy Apart CT Ok0 OkW RW get_map_set get_map_set_same cell_of_block isOpen isW3 isFin OpenSt AllQuit allQuit_of Vc_upd Vc_le)
open Go.ConcR (KK WgAt stA smA rd wr mk Payload Bk g_of_ofEvents ofEvent_mk)
def fL(bM:Nat->Prop)(A:World->Prop):Prop:=∀w fB:World,A w->w.heap.size<=fB.heap.size->(∀b,bM b->fB.heap[b]?=w.heap[b]?)->A fB
structure B9(bM:Nat->Prop)(R:Nat)(w w':World)(es:Array Event):Prop where
 os:w'.os=w.os
 out:w'.output=w.output
 size:w.heap.size<=w'.heap.size
 blk:∀b,b<w.heap.size->¬(bM b/\R<=b)->w'.heap[b]?=w.heap[b]?
 ay:∀e∈es,EvB (λb=>(bM b/\R<=b)\/(w.heap.size<=b/\b<w'.heap.size)) bM e
section
variable[Payload](P:Program)(ty:TypeId)(Wg C n:Nat){σ:Type}(lt:σ->σ->Prop)(b5:Nat->σ->(Nat->Prop)->(Nat->Prop)->Goroutine->World->Prop)(Fin:Nat->(Nat->Prop)->(World->Prop)->Goroutine->Prop)
def dn:Nat->CTag->Nat->Nat->Nat->(Nat->Prop)->Nat->(World->Prop)->Goroutine->Prop
 |0,_,_,_,_,_,_,_,_=>False
 |f+1,tag,c,j,d,bM,R,A,g=>g.status=.running/\fL bM A /\
  ((tag=.anch/\∀w,A w->(∀b,bM b->b<w.heap.size)->R<=w.heap.size->∃g' w' es iQ,stepG P true g w=.go g' w' es/\B9 bM R w w' es/\iQ w'/\dn f tag c j d (λb=>bM b\/(w.heap.size<=b/\b<w'.heap.size)) R iQ g') \/
   (∀w,WgLive ty Wg w->∃g',stepG P true g w=.go g' w #[]/\dn f tag c j d bM R A g') \/
   (∃e,(e=.disable\/e=.enable\/e=.read (smA Wg)\/e=.write (smA Wg))/\∀w,WgLive ty Wg w->∃g',stepG P true g w=.go g' w #[mk e]/\dn f tag c j (deafBehind d #[mk e]) bM R A g') \/
   (tag=.anch/\c<2147483646/\∀w v,v<=c->WgAt ty Wg w ((v:Nat)*KK) 0->∃g',stepG P true g w=.go g' (w.setCell (stA Wg) (.int .u64 (((v:Nat)+1)*KK))) #[rd (stA Wg),wr (stA Wg)]/\dn f (.sp 0 3) (c+1) j d bM R A g') \/
   (tag=.sp 0 3/\d=0/\j<n/\∀w,A w->PayAt C n w->WgLive ty Wg w->(∀b,bM b->b<w.heap.size)->∃g' child s,stepG P true g w=.spawn g' child w #[]/\b5 j s (λ_=>False) bM child w/\Acc lt s/\dn f .anch c (j+1) 0 bM w.heap.size A g') \/
   (tag=.anch/\∀w v,v<=c->WgAt ty Wg w ((v:Nat)*KK) 0->∃g',stepG P true g w=.go g' w #[rd (stA Wg)]/\(v=0->dn f .w4 0 j d bM R A g')/\(v≠0->dn f .anch v j d bM R A g')) \/
   (∃af,af≠0/\tag=.anch/\∀w v,v<=c->WgAt ty Wg w ((v:Nat)*KK) 0->(v=af->∃g',stepG P true g w=.go g' (w.setCell (stA Wg) (.int .u64 ((v:Nat)*KK+1))) #[rd (stA Wg),wr (stA Wg)]/\dn f .w3 v j d bM R A g')/\(v≠af->∃g',stepG P true g w=.go g' w #[rd (stA Wg)]/\dn f .anch v j d bM R A g')) \/
   (tag=.w3/\g.offers=none/\∀w,((∃st,WgAt ty Wg w st 0)->stepG P true g w=.go { g with status:=.blocked } w #[])/\(WgAt ty Wg w 0 1->∃g',stepG P true g w=.go g' (w.setCell (smA Wg) (.int .u32 0)) (semEvents (smA Wg))/\dn f .w4 0 j d bM R A g')) \/
   (tag=.w4/\∀w,WgAt ty Wg w 0 0->∃g',stepG P true g w=.go g' w #[rd (stA Wg)]/\dn f .w4 0 j d bM R A g') \/
   (tag=.w4/\d=0/\∀w,WgLive ty Wg w->∃g',stepG P true g w=.go g' w #[mk (.acquire (stA Wg))]/\Fin j bM A g'))
theorem dn.more{f:Nat}:∀{tag:CTag}{c j d:Nat}{bM:Nat->Prop}{R:Nat}{A:World->Prop}{g:Goroutine},dn P ty Wg C n lt b5 Fin f tag c j d bM R A g->dn P ty Wg C n lt b5 Fin (f+1) tag c j d bM R A g:=by
 induction f with
 |zero=>exact λh=>h.elim
 |succ f az=>
  intro tag c j d bM R A g h;obtain⟨U,ab,h⟩:=h;refine⟨U,ab,?_⟩;rcases h with⟨al,h⟩|h|⟨e,al,h⟩|⟨al,aJ,h⟩|⟨al,aJ,bm,h⟩|⟨al,h⟩|⟨af,al,aJ,h⟩|⟨al,aJ,h⟩|⟨al,h⟩|h
  ·exact .inl ⟨al,λw a b c=>let⟨g',w',es,iQ,k1,k2,bP,cX⟩:=h w a b c;⟨g',w',es,iQ,k1,k2,bP,az cX⟩⟩
  ·exact .inr (.inl λw a=>let⟨g',k1,k2⟩:=h w a;⟨g',k1,az k2⟩)
  ·exact .inr (.inr (.inl ⟨e,al,λw a=>let⟨g',k1,k2⟩:=h w a;⟨g',k1,az k2⟩⟩))
  ·exact .inr (.inr (.inr (.inl ⟨al,aJ,λw v a b=>let⟨g',k1,k2⟩:=h w v a b;⟨g',k1,az k2⟩⟩)))
  ·exact .inr (.inr (.inr (.inr (.inl ⟨al,aJ,bm,λw a b c d=>let⟨g',x,s,k1,k2,bP,cX⟩:=h w a b c d;⟨g',x,s,k1,k2,bP,az cX⟩⟩))))
  ·exact .inr (.inr (.inr (.inr (.inr (.inl ⟨al,λw v a b=>let⟨g',k1,k2,bP⟩:=h w v a b;⟨g',k1,λe=>az (k2 e),λe=>az (bP e)⟩⟩)))))
  ·exact .inr (.inr (.inr (.inr (.inr (.inr (.inl ⟨af,al,aJ,λw v a b=>let⟨k1,k2⟩:=h w v a b;⟨λe=>let⟨g',bP,cX⟩:=k1 e;⟨g',bP,az cX⟩,λe=>let⟨g',bP,cX⟩:=k2 e;⟨g',bP,az cX⟩⟩⟩))))))
  ·exact .inr (.inr (.inr (.inr (.inr (.inr (.inr (.inl ⟨al,aJ,λw=>let⟨k1,k2⟩:=h w;⟨k1,λe=>let⟨g',bP,cX⟩:=k2 e;⟨g',bP,az cX⟩⟩⟩)))))))
  ·exact .inr (.inr (.inr (.inr (.inr (.inr (.inr (.inr (.inl ⟨al,λw a=>let⟨g',k1,k2⟩:=h w a;⟨g',k1,az k2⟩⟩))))))))
  ·exact .inr (.inr (.inr (.inr (.inr (.inr (.inr (.inr (.inr h))))))))
theorem dn.le{f bj:Nat}(h:f<=bj){tag:CTag}{c j d:Nat}{bM:Nat->Prop}{R:Nat}{A:World->Prop}{g:Goroutine}(k:dn P ty Wg C n lt b5 Fin f tag c j d bM R A g):dn P ty Wg C n lt b5 Fin bj tag c j d bM R A g:=by
 induction h with
 |refl=>exact k
 |step _ az=>exact az.more
variable(val ini:Nat->Value)(S:Nat->Prop)(j0:Nat)(Wp:World)
structure jH(tag bt:CTag)(c j d:Nat)(bM:Nat->Prop)(R:Nat)(A:World->Prop)(g0 a:Goroutine)(D:Nat->WD)(V:Nat->Option σ)(cf:Nat->Nat)(RO:Nat->Nat->Prop)(gs:Array Goroutine)(w:World)(t:Trace)(q:Nat->Nat)(st gi:Int):Prop where
 dU:jf P ty Wg C n val ini b5 S j0 Wp j D V cf RO gs w t q d
 a0:gs[0]?=some a
 zC:(a=g0/\bt=tag)\/(a={ g0 with status:=.blocked }/\tag=.w3/\bt=.blk)
 off:a≠g0->g0.offers=none
 run:g0.status=.running
 wg:WgAt ty Wg w st gi
 md:ConcN.Mode j D bt st gi
 cb:Vc j D+pend tag<=c
 qF:A w
 ck:∀b,bM b->b<w.heap.size/\cf b=0/\b≠Wg/\b≠C/\¬S b
 vw:∀i b,RO i b->b<R
 dV:Wp.heap.size<=R
 rw:R<=w.heap.size
 acc:∀i,i<j->Acc (oQ lt) (V i)
structure Over(j:Nat)(bM:Nat->Prop)(A:World->Prop)(g:Goroutine)(gs:Array Goroutine)(w:World)(t:Trace)(q:Nat->Nat):Prop where
 a0:gs[0]?=some g
 ey:Leavers P t gs q
 pa:kM (λb=>S b\/b=Wg) w.heap.size t
 k4:∀op∈t,op.g<gs.size
 has:∀i,i<j->Has C i (val i) w
 pay:PayAt C n w
 rest:∀i,j<=i->i<n->w.cell? ⟨C,i,none⟩=some (ini i)
 live:WgLive ty Wg w
 qF:A w
 ck:∀b,bM b->b<w.heap.size/\b≠Wg/\b≠C/\¬S b
 hR:Wp.heap.size<=w.heap.size
 base:∀b,b<Wp.heap.size->b≠Wg->b≠C->w.heap[b]?=Wp.heap[b]?
 os:w.os=Wp.os
 out:w.output=Wp.output
end
section
variable[Payload]{P:Program}{ty:TypeId}{Wg C n:Nat}{val ini:Nat->Value}{σ:Type}{lt:σ->σ->Prop}{b5:Nat->σ->(Nat->Prop)->(Nat->Prop)->Goroutine->World->Prop}{Fin:Nat->(Nat->Prop)->(World->Prop)->Goroutine->Prop}{S:Nat->Prop}{j0:Nat}{Wp:World}
 {tag bt:CTag} {c j d:Nat} {bM:Nat->Prop} {R:Nat} {A:World->Prop} {g0 a:Goroutine} {D:Nat->WD} {V:Nat->Option σ} {cf:Nat->Nat} {RO:Nat->Nat->Prop} {gs:Array Goroutine} {w:World} {t:Trace} {q:Nat->Nat} {st gi:Int}
theorem jH.at(hW:lM P ty Wg C n val lt b5)(bh:fL bM A)(h:(jH P ty Wg C n lt b5 val ini S j0 Wp) tag bt c j d bM R A g0 a D V cf RO gs w t q st gi)(x:Nat):(jH P ty Wg C n lt b5 val ini S j0 Wp) tag bt c j d bM R A g0 a D V cf RO gs (w.at x) t q st gi:=
 ⟨h.dU.at hW x,h.a0,h.zC,h.off,h.run,h.wg,h.md,h.cb,bh w _ h.qF (Nat.le_refl _) (λ_ _=>rfl),h.ck,h.vw,h.dV,h.rw,h.acc⟩
theorem Oj{g g':Goroutine}{w':World}(rP:g0.status=.running)(ar:a≠g0->g0.offers=none)(h:(a=g0/\bt=tag)\/(a={ g0 with status:=.blocked }/\tag=.w3/\bt=.blk)):
  ∃jy,((woken P g g' w' a=g0/\jy=tag)\/(woken P g g' w' a={ g0 with status:=.blocked }/\tag=.w3/\jy=.blk))/\(jy=bt\/(bt=.blk/\jy=.w3))/\(mayWake P g=true->g'.status=.running->tag≠.blk->jy≠.blk):=by
 rcases h with⟨rfl,rfl⟩|⟨rfl,rfl,rfl⟩
 ·exact⟨bt,.inl ⟨woken_run rP,rfl⟩,.inl rfl,λ_ _ h=>h⟩
 ·unfold Go.Conc.woken;split
  ·have bU:({ g0 with status:=.blocked }:Goroutine)≠g0:=λe=>by have:=congrArg Goroutine.status e;rw[rP]at this;cases this
   exact⟨.w3,.inl ⟨Go.ConcR.again_blocked rP (ar bU) w',rfl⟩,.inr ⟨rfl,rfl⟩,λ_ _ _=>by simp⟩
  ·rename_i ah;exact⟨.blk,.inr ⟨rfl,rfl,rfl⟩,.inl rfl,λU ab=>absurd (by simp[U,ab]) ah⟩
theorem jH.abK(hW:lM P ty Wg C n val lt b5)(h:(jH P ty Wg C n lt b5 val ini S j0 Wp) tag bt c j d bM R A g0 a D V cf RO gs w t q st gi):∃(i:Nat)(g:Goroutine),gs[i]?=some g/\g.status=.running:=by
 have wr:∀i,i<j->(D i).stage≠1->∃(i:Nat)(g:Goroutine),gs[i]?=some g/\g.status=.running:=λi aX ao=>by
  obtain⟨g,aN,vb⟩:=h.dU.wk i aX;refine⟨_,g,aN,?_⟩;generalize D i=x at ao vb;generalize V i=y at vb;cases vb with
  |own h=>exact hW.run h
  |lu h=>exact h.running_of ao
 rcases h.zC with⟨rfl,_⟩|⟨rfl,rfl,rfl⟩
 ·exact⟨0,a,h.a0,h.run⟩
 ·cases h.md with
  |opn U _ _=>exact U.elim
  |reg _ _ al=>
   obtain⟨i,aX,bm⟩:=Go.ConcN.exists_counted al;exact wr i aX (by omega)
  |last L _ ab al _=>exact wr L ab (by omega)
  |fin U _=>exact U.elim
theorem jH.awake(hW:lM P ty Wg C n val lt b5)(h:(jH P ty Wg C n lt b5 val ini S j0 Wp) tag bt c j d bM R A g0 a D V cf RO gs w t q st gi):∀g∈gs,awake g:=by
 intro g aN;obtain⟨i,aX⟩:=Array.mem_iff_getElem?.1 aN;have aU:=(Array.getElem?_eq_some_iff.1 aX).1;have bX:=h.dU.size;rcases Nat.eq_zero_or_pos i with rfl|eb
 ·rw[h.a0]at aX;cases aX;rcases h.zC with⟨rfl,_⟩|⟨rfl,_,_⟩
  ·exact awake_of (.inl h.run)
  ·exact awake_of (.inr (.inl rfl))
 ·rcases Nat.lt_or_ge j0 i with aC|aC
  ·obtain⟨x,aj,ao⟩:=h.dU.wk (i-(j0+1)) (by omega);rw[show j0+1+(i-(j0+1))=i by omega,aX]at aj;cases aj;exact awake_of ((ao.status hW).elim .inl λx=>.inr (.inr x))
  ·exact awake_of ((h.dU.old i g eb aC aX).status.elim .inl λx=>.inr (.inr x))
end
end
section
open Go Go.Conc
open Go.ConcN (CTag WD Vc Ssum Fsum sumTo upd sumTo_upd sumTo_upd_out sumTo_congr upd_ne upd_same cnt pend PayAt Has WgLive RelBy Apart CT Ok0 OkW RW get_map_set get_map_set_same cell_of_block isOpen isW3 isFin OpenSt AllQuit allQuit_of Vc_upd Vc_le)
open Go.ConcR (KK WgAt stA smA rd wr mk Payload Bk g_of_ofEvents ofEvent_mk ofEvent_loc_mark ofEvent_cell)
section
variable{S:Nat->Prop}{Wg N k:Nat}{Own Rd:Nat->Loc->Prop}{fn:FuncId}{pos:String}{es:Array Event}
def Fj(Wg:Nat)(e:Event):Prop:=Bk Wg e\/e=mk (.releaseMerge (stA Wg))
def xf(Wg:Nat)(e:Event):Prop:=Bk Wg e\/e=mk (.read (smA Wg))\/e=mk (.write (smA Wg))\/e=mk (.acquire (stA Wg))
theorem Pc{e:Event}(h:Bk Wg e){x:Touch}(aj:(MemAct.ofEvent e).touch?=some x):hP (λb=>S b\/b=Wg) x.loc/\x.kind=.atomic:=by
 rcases h with U|U|⟨a,wr,rfl,au⟩
 ·rw[ofEvent_loc_mark U]at aj;cases aj
 ·rw[ofEvent_loc_mark U]at aj;cases aj
 ·simp[ofEvent_cell,MemAct.touch?]at aj;subst aj;exact⟨⟨a,rfl,.inr au⟩,rfl⟩
theorem Ro{e:Event}(h:Bk Wg e)(hW:Wg<N):(MemAct.ofEvent e).low N:=by
 rcases h with U|U|⟨a,wr,rfl,au⟩
 ·rw[ofEvent_loc_mark U];trivial
 ·rw[ofEvent_loc_mark U];trivial
 ·show a.block<N;omega
theorem Ib{e:Event}(h:Fj Wg e){x:Touch}(aj:(MemAct.ofEvent e).touch?=some x):hP (λb=>S b\/b=Wg) x.loc/\x.kind=.atomic:=by
 rcases h with h|rfl
 ·exact Pc h aj
 trivial
theorem adu{e:Event}(h:Fj Wg e)(hW:Wg<N):(MemAct.ofEvent e).low N:=by
 rcases h with h|rfl
 ·exact Ro h hW
 assumption
theorem DZ{e:Event}(h:xf Wg e){x:Touch}(aj:(MemAct.ofEvent e).touch?=some x):hP (λb=>S b\/b=Wg) x.loc/\x.kind≠.plain:=by
 rcases h with h|rfl|rfl|rfl
 ·obtain⟨U,ab⟩:=Pc (S:=S) h aj;grind
 ·simp[ofEvent_mk,MemAct.touch?]at aj;subst aj;exact⟨⟨_,rfl,.inr rfl⟩,by simp⟩
 ·simp[ofEvent_mk,MemAct.touch?]at aj;subst aj;exact⟨⟨_,rfl,.inr rfl⟩,by simp⟩
 trivial
theorem Rp{e:Event}(h:xf Wg e)(hW:Wg<N):(MemAct.ofEvent e).low N:=by
 rcases h with h|rfl|rfl|rfl
 ·exact Ro h hW
 all_goals assumption
theorem aae{e:Event}(h:Fj Wg e)(a:Addr):MemAct.ofEvent e≠.mark (.release a):=λaj=>by
 have ab:=Go.ConcR.loc_of_ofEvent aj;rcases h with(U|U|⟨a,wr,rfl,_⟩)|rfl;all_goals grind [mk]
theorem Pd{e:Event}(h:xf Wg e)(a:Addr):MemAct.ofEvent e≠.mark (.release a):=λaj=>by
 have ab:=Go.ConcR.loc_of_ofEvent aj;rcases h with(U|U|⟨a,wr,rfl,_⟩)|rfl|rfl|rfl;all_goals grind [mk]
theorem Ok{B RO:Nat->Prop}{e:Event}(h:EvB B RO e)(a:Addr):MemAct.ofEvent e≠.mark (.release a):=λaj=>(h.still a).2.2 (Go.ConcR.loc_of_ofEvent aj)
theorem abL(tag:CTag):pend tag<=1:=by cases tag<;>simp only[pend]<;>first|omega|grind
end
section
variable[Payload]{P:Program}{ty:TypeId}{Wg C n:Nat}{val ini:Nat->Value}{σ:Type}{lt:σ->σ->Prop}{b5:Nat->σ->(Nat->Prop)->(Nat->Prop)->Goroutine->World->Prop}{S:Nat->Prop}{j0:Nat}{Wp:World}
 {tag bt:CTag} {c j d:Nat} {bM:Nat->Prop} {R:Nat} {A:World->Prop} {g0 a:Goroutine} {D:Nat->WD} {V:Nat->Option σ} {cf:Nat->Nat} {RO:Nat->Nat->Prop} {gs:Array Goroutine} {w:World} {t:Trace} {q:Nat->Nat} {st gi:Int}
theorem jf.hW{j:Nat}{d0:Nat}(h:jf P ty Wg C n val ini b5 S j0 Wp j D V cf RO gs w t q d0):Wg<w.heap.size:=by obtain⟨_,_,x⟩:=h.live;exact(Array.getElem?_eq_some_iff.1 x).1
theorem jf.hC{j:Nat}{d0:Nat}(h:jf P ty Wg C n val ini b5 S j0 Wp j D V cf RO gs w t q d0):C<w.heap.size:=by obtain⟨_,x,_⟩:=h.pay;grind
theorem jH.worker(hW:lM P ty Wg C n val lt b5)(aI:n<=2147483000)(bh:fL bM A)(h:(jH P ty Wg C n lt b5 val ini S j0 Wp) tag bt c j d bM R A g0 a D V cf RO gs w t q st gi)(kr:tag≠.blk){i:Nat}(aX:i<j){g:Goroutine}(aN:gs[j0+1+i]?=some g)(aB:g.status=.running)(sl:Option (Nat×Nat)):
  ∃ed w' ops,runT P (crowd gs w sl) (j0+1+i)=(.next (crowd ed w' sl),ops)/\∃a' jy D' V' xC fv gz,(jH P ty Wg C n lt b5 val ini S j0 Wp) tag jy c j d bM R A g0 a' D' V' xC RO ed w' (t++ops) q fv gz /\
   (Ssum j D'<Ssum j D\/(Ssum j D'=Ssum j D/\tX (oQ lt) j V' V)\/(Ssum j D'=Ssum j D/\V'=V/\Fsum j D'<Fsum j D)):=by
 obtain⟨g1,tA,vb⟩:=h.dU.wk i aX;obtain rfl:g1=g:=by grind
 have aU:j0+1+i<gs.size:=(Array.getElem?_eq_some_iff.1 aN).1;have ahJ:(j0+1+i==0)=false:=by simp
 have fin:∀{g':Goroutine}{w':World}{es:Array Event}{V':Option σ}{D':WD}{fv gz:Int},stepG P false g1 w=.go g' w' es ->
   jf P ty Wg C n val ini b5 S j0 Wp j (upd D i D') (upd V i V') (j1 cf w w' (j0+1+i)) RO ((gs.map (woken P g1 g' w')).setIfInBounds (j0+1+i) g') w' (t++MemOp.ofEvents (j0+1+i) g1.frame.fn g1.frame.place es) q d ->
   w.heap.size<=w'.heap.size->(∀b,b<w.heap.size->cf b=0->b≠C->b≠Wg->w'.heap[b]?=w.heap[b]?)->WgAt ty Wg w' fv gz->Acc (oQ lt) V'->cnt D'<=cnt (D i) ->
   (∀tag',(tag'=bt\/(bt=.blk/\tag'=.w3))->(mayWake P g1=true->g'.status=.running->tag'≠.blk)->ConcN.Mode j (upd D i D') tag' fv gz) ->
   (Ssum j (upd D i D')<Ssum j D\/(Ssum j (upd D i D')=Ssum j D/\tX (oQ lt) j (upd V i V') V)\/(Ssum j (upd D i D')=Ssum j D/\upd V i V'=V/\Fsum j (upd D i D')<Fsum j D)) ->
   ∃ed w' ops,runT P (crowd gs w sl) (j0+1+i)=(.next (crowd ed w' sl),ops)/\∃a' jy D' V' xC fv gz,(jH P ty Wg C n lt b5 val ini S j0 Wp) tag jy c j d bM R A g0 a' D' V' xC RO ed w' (t++ops) q fv gz /\
    (Ssum j D'<Ssum j D\/(Ssum j D'=Ssum j D/\tX (oQ lt) j V' V)\/(Ssum j D'=Ssum j D/\V'=V/\Fsum j D'<Fsum j D)):=by
  intro g' w' es V' D' fv gz hgo fH bX lV gA va Bx jZ Ca;obtain⟨jy,fg,kW,qo⟩:=Oj (P:=P) (g:=g1) (g':=g') (w':=w') h.run h.off h.zC;refine⟨_,_,_,runT_crowd_go aN (by grind),woken P g1 g' w' a,jy,upd D i D',upd V i V',j1 cf w w' (j0+1+i),fv,gz,⟨fH,?_,fg,λe=>h.off λe'=>e (by rw[e'];exact woken_run h.run),h.run,gA,jZ jy kW (λU ab=>qo U ab kr),?_,?_,λb hb=>?_,h.vw,h.dV,Nat.le_trans h.rw bX,λcm e1=>?_⟩,Ca⟩
  ·rw[get_map_set _ _ _ _ (by omega),h.a0];rfl
  ·have:=Vc_upd D D' aX;have:=h.cb;omega
  ·refine bh w w' h.qF bX λb hb=>?_;obtain⟨k1,k2,bP,cX,_⟩:=h.ck b hb;grind
  ·obtain⟨k1,k2,bP,cX,fi⟩:=h.ck b hb;grind [j1]
  ·by_cases e:cm=i
   ·grind [upd_same]
   ·rw[upd_ne V _ e];exact h.acc cm e1
 have Fl:=sumTo_upd D (j:=j) (i:=i);have So:=h.acc i aX;generalize pF:D i=amH at vb;generalize FR:V i=amI at vb;cases vb with
 |@own s ahK=>
  obtain⟨g',w',es,hgo,ar,aev⟩:=hW.step ahK (Nat.lt_of_lt_of_le aX h.dU.jn) h.dU.pay h.dU.live (λx=>by have:=h.dU.gT.zB;omega) (λx=>(h.dU.gT.ro i C x).2.2.1 rfl);have FT:w'.heap[Wg]?=w.heap[Wg]?:=ar.blk Wg h.dU.hW (by have:=h.dU.gT.zA;omega) (Ne.symm h.dU.gT.ts);have qd:WgLive ty Wg w->WgLive ty Wg w':=λ⟨x,y,z⟩=>⟨x,y,FT.trans z⟩;have ej:Kb ty Wg C n i (λb=>cf b=j0+1+i) w w':=⟨ar.os,ar.out,ar.size,λb U ab al _=>ar.blk b U ab al,ar.pay,ar.cells,qd⟩;have Ub:∀b,(cf b=j0+1+i\/(w.heap.size<=b/\b<w'.heap.size))↔j1 cf w w' (j0+1+i) b=j0+1+i:=λb=>by grind [j1]
  have afQ:∀b,(cf b=j0+1+i\/(w.heap.size<=b/\b<w'.heap.size))\/RO i b->b<w'.heap.size:=λb hb=>by
   rcases hb with(hb|hb)|hb
   ·have:b<w.heap.size:=Nat.lt_of_not_le λx=>by have:=h.dU.tD b x;omega
    exact Nat.lt_of_lt_of_le this ar.size
   ·exact hb.2
   ·exact Nat.lt_of_lt_of_le (h.dU.qn i b hb) ar.size
  have evs:∀op∈MemOp.ofEvents (j0+1+i) g1.frame.fn g1.frame.place es,∃e∈es,op={ g:=j0+1+i,fn:=g1.frame.fn,pos:=g1.frame.place,act:=.ofEvent e }:=λop aE=>by
   obtain⟨e,he,rfl⟩:=Go.Conc.mem_ofEvents aE;exact⟨e,he,rfl⟩
  have c1:i<n:=Nat.lt_of_lt_of_le aX h.dU.jn;have IE:∀x:Bool,∀y,(MemAct.ofEvent (⟨.cell ⟨C,i,none⟩,x,false⟩:Event)).touch?=some y->y.kind=.plain/\y.loc=.cell ⟨C,i,none⟩:=λx y aF=>by
   simp only[ofEvent_cell0,MemAct.touch?,Option.some.injEq]at aF;subst aF;exact⟨rfl,rfl⟩
  have Qn:∀{V':Option σ}{D':WD},D'.stage=7->D'.deaf=0->pE P ty Wg C n val b5 i (λb=>j1 cf w w' (j0+1+i) b=j0+1+i) (RO i) g' w' V' D'->jf P ty Wg C n val ini b5 S j0 Wp j (upd D i D') (upd V i V') (j1 cf w w' (j0+1+i)) RO ((gs.map (woken P g1 g' w')).setIfInBounds (j0+1+i) g') w' (t++MemOp.ofEvents (j0+1+i) g1.frame.fn g1.frame.place es) q d:=by
   intro V' D' cS aT ao;refine h.dU.stepW hW aX aN ej ao (λop aE=>?_) (λop aE x aj _=>?_) (λop aE x aj=>?_) (λop aE=>?_) (λop aE=>?_) ?_ (λh=>by omega) (λh=>by omega)
   ·obtain⟨e,he,rfl⟩:=evs op aE;refine⟨rfl,λx aj=>?_⟩;rcases ar.ay e he with hb|⟨y,rfl⟩
    ·obtain⟨_,_,b,ab,al⟩:=hb.plain aj;rcases al with al|⟨al,aJ⟩
     ·exact .inr (.inl (.inl ⟨b,ab,(Ub b).1 al,by omega⟩))
     ·exact .inr (.inr ⟨⟨b,ab,by omega,by rw[show j0+1+i-(j0+1)=i by omega];exact al⟩,aJ⟩)
    ·exact .inr (.inl (.inr ⟨i,rfl,c1,(IE y x aj).2⟩))
   ·obtain⟨e,he,rfl⟩:=evs op aE;rcases ar.ay e he with hb|⟨y,rfl⟩
    ·rw[(hb.plain aj).1];simp
    ·rw[(IE y x aj).1];simp
   ·obtain⟨e,he,rfl⟩:=evs op aE;rcases ar.ay e he with hb|⟨y,rfl⟩
    ·exact(hb.plain aj).2.1
    ·rw[(IE y x aj).2];rfl
   ·obtain⟨e,he,rfl⟩:=evs op aE;rcases ar.ay e he with hb|⟨y,rfl⟩
    ·exact hb.low afQ
    ·show C<w'.heap.size;exact Nat.lt_of_lt_of_le h.dU.hC ar.size
   ·obtain⟨e,he,rfl⟩:=evs op aE;rcases ar.ay e he with hb|⟨y,rfl⟩
    ·exact Ok hb _
    ·simp[ofEvent_cell0]
   ·rw[pF,aT];exact Go.Conc.deafBehind_still (λe he=>by
     rcases ar.ay e he with hb|⟨y,rfl⟩
     ·exact⟨(hb.still (stA Wg)).1,(hb.still (stA Wg)).2.1⟩
     ·simp) 0
  have lV:∀b,b<w.heap.size->cf b=0->b≠C->b≠Wg->w'.heap[b]?=w.heap[b]?:=λb U ab al _=>ar.blk b U (by omega) al;have Tj:WgAt ty Wg w' st gi:=FT.trans h.wg;have iB:∀m',Ssum j (upd D i ⟨7,m',0⟩)=Ssum j D:=λm'=>by
   have:=Fl ⟨7,m',0⟩ WD.stage aX;rw[pF]at this;simp only[Ssum]at this⊢;omega
  have rf:∀m' tag',(tag'=bt\/(bt=.blk/\tag'=.w3))->ConcN.Mode j (upd D i ⟨7,m',0⟩) tag' st gi:=λm' tag' a1=>by
   have:=h.md.same (i:=i) m' 0;rw[pF]at this;exact this.retag a1
  rw[FR]at So;rcases aev with⟨s',Tk,afR⟩|⟨m',ak⟩
  ·have hb:(λb=>j1 cf w w' (j0+1+i) b=j0+1+i)=λb=>cf b=j0+1+i\/(w.heap.size<=b/\b<w'.heap.size):=funext λb=>propext (Ub b).symm;refine fin hgo (Qn (V':=some s') (D':=⟨7,0,0⟩) rfl rfl (by rw[hb];exact .own afR)) ar.size lV Tj (So.inv Tk) (by rw[pF];exact Nat.le_refl _) (λtag' a1 _=>rf 0 tag' a1) (.inr (.inl ⟨iB 0,i,aX,?_,λk aq=>upd_ne V _ aq⟩));rw[upd_same,FR];exact Tk
  ·refine fin hgo (Qn (V':=none) (D':=⟨7,m',0⟩) rfl rfl (.lu ak)) ar.size lV Tj oQ.Pb (by rw[pF];exact Nat.le_refl _) (λtag' a1 _=>rf m' tag' a1) (.inr (.inl ⟨iB m',i,aX,?_,λk aq=>upd_ne V _ aq⟩));rw[upd_same,FR];trivial
 |@lu s m aji ak=>
  obtain⟨g',w',es,s',m',dq,fv,gz,ao⟩:=aad ak aX pF aB h.wg h.md (by have:=h.dU.jn;have:=abL bt;omega);have ew:upd V i none=V:=funext λk=>by
   by_cases e:k=i
   ·subst e;rw[upd_same,FR]
   ·rw[upd_ne V _ e]
  have FU:w'.heap[C]?=w.heap[C]?:=ao.as.block C h.dU.gT.ts;have ry:PayAt C n w->PayAt C n w':=λ⟨x,aj,aF⟩=>⟨x,FU.trans aj,aF⟩;have ej:Kb ty Wg C n i (λb=>cf b=j0+1+i) w w':=⟨ao.as.os,ao.as.output,Nat.le_of_eq ao.as.size.symm,λb _ _ _ aJ=>ao.as.block b aJ,ry,λcm _=>cell_of_block FU cm,λ_=>⟨_,_,ao.wg⟩⟩;have Uc:Deaf t (j0+1+i)=aji:=by rw[h.dU.deafW i aX,pF]
  have fR:∀e∈es,Fj Wg e:=λe he=>by
   rcases ao.rel with⟨_,_,gH⟩|⟨_,_,_,gH,_⟩|⟨_,_,hb,_⟩
   ·rw[gH]at he;simp at he
   ·rw[gH]at he;simp at he;exact .inr he
   ·exact .inl (hb e he)
  have fH:jf P ty Wg C n val ini b5 S j0 Wp j (upd D i ⟨s',m',dq⟩) (upd V i none) (j1 cf w w' (j0+1+i)) RO ((gs.map (woken P g1 g' w')).setIfInBounds (j0+1+i) g') w' (t++MemOp.ofEvents (j0+1+i) g1.frame.fn g1.frame.place es) q d:=by
   refine h.dU.stepW hW aX aN ej (.lu ao.ahA) (λop aE=>?_) (λop aE x aj xD=>?_) (λop aE x aj=>?_) (λop aE=>?_) (λop aE=>?_) (by rw[pF];exact ao.ajh) (λbI=>?_) (λbI=>?_)
   ·obtain⟨e,he,rfl⟩:=Go.Conc.mem_ofEvents aE;refine⟨rfl,λx aj=>.inl ?_⟩;obtain⟨U,ab⟩:=Ib (S:=S) (fR e he) aj;exact⟨U,by rw[ab];simp,by rw[ab];simp⟩
   ·obtain⟨e,he,rfl⟩:=Go.Conc.mem_ofEvents aE;exact absurd (Ib (S:=S) (fR e he) aj).1 xD
   ·obtain⟨e,he,rfl⟩:=Go.Conc.mem_ofEvents aE;obtain⟨a,au,_⟩:=(Ib (S:=S) (fR e he) aj).1;rw[au];rfl
   ·obtain⟨e,he,rfl⟩:=Go.Conc.mem_ofEvents aE;exact adu (fR e he) (by rw[ao.as.size];exact h.dU.hW)
   ·obtain⟨e,he,rfl⟩:=Go.Conc.mem_ofEvents aE;exact aae (fR e he) _
   ·rcases ao.rel with⟨_,cS,_⟩|⟨_,_,qp,gH,_⟩|⟨zy,_,hb,zz⟩
    ·simp only at bI;omega
    ·subst gH;exact⟨t.size,RelBy.new (by rw[Uc];exact qp) _ _⟩
    ·obtain⟨r,ad⟩:=h.dU.rel i aX (by rw[pF];exact zy);exact⟨r,ad.book Uc _ _ hb zz⟩
   ·rcases ao.rel with⟨_,cS,_⟩|⟨_,_,_,_,bq⟩|⟨zy,_,_,_⟩
    ·simp only at bI;omega
    ·exact(cell_of_block FU i).trans bq
    ·exact(cell_of_block FU i).trans (h.dU.has i aX (by rw[pF];exact zy))
  have aO:=Fl ⟨s',m',dq⟩ WD.stage aX;have bS:=Fl ⟨s',m',dq⟩ WD.fuel aX;rw[pF]at aO bS;have Bx:cnt ⟨s',m',dq⟩<=cnt (D i):=by
   rcases ao.lt with⟨_,h⟩|⟨h,_⟩
   ·exact h
   ·rw[pF,h];exact Nat.le_refl _
  refine fin ao.go fH (Nat.le_of_eq ao.as.size.symm) (λb _ _ _ aJ=>ao.as.block b aJ) ao.wg oQ.Pb Bx ao.md ?_;rw[ew];simp only[Ssum,Fsum];rcases ao.lt with⟨U,_⟩|⟨U,ab⟩
  ·exact .inl (by simp only at aO;omega)
  ·exact .inr (.inr ⟨by simp only at aO;omega,trivial,by simp only at bS;omega⟩)
end
end
end Go.Proofs.YtlminnpaeaganaaGreat
