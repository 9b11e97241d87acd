/- Part of the proof of RuleKnown. No condition. -/
import Derived.Test.YtlminnpaeaganaaGreatProg
import Derived.Conc.WgGenN3
import Derived.ProofKit
import Derived.Test.YtlminnpaeaganaaGreatMKnownAK
import Derived.Test.YtlminnpaeaganaaGreatMKnownAM
import Derived.Test.YtlminnpaeaganaaGreatMKnownAN
import Derived.Test.YtlminnpaeaganaaGreatMKnownAO
namespace Go.Proofs.YtlminnpaeaganaaGreat
set_option maxRecDepth 100000
set_option linter.all false
section
open Go Go.Conc
open Go.ConcN (CTag WD Vc Ssum Fsum sumTo upd sumTo_upd sumTo_upd_out sumTo_congr upd_ne upd_same cnt pend PayAt Has WgLive RelBy Apart CT Ok0 OkW RW get_map_set get_map_set_same cell_of_block isOpen isW3 isFin OpenSt AllQuit allQuit_of Vc_upd Vc_le bk_dis bk_en bk_rd bk_rw bk_sem Deaf_absent)
open Go.ConcR (KK WgAt stA smA rd wr mk Payload Bk g_of_ofEvents ofEvent_mk ofEvent_loc_mark ofEvent_cell)
section
variable[Payload]{P:Program}{ty:TypeId}{Wg C n:Nat}{val ini:Nat->Value}{σ:Type}{lt:σ->σ->Prop}{b5:Nat->σ->(Nat->Prop)->(Nat->Prop)->Goroutine->World->Prop}{Fin:Nat->(Nat->Prop)->(World->Prop)->Goroutine->Prop}{S:Nat->Prop}{j0:Nat}{Wp:World}
 {tag bt:CTag} {c j d:Nat} {bM:Nat->Prop} {R:Nat} {A:World->Prop} {g0 a:Goroutine} {D:Nat->WD} {V:Nat->Option σ} {cf:Nat->Nat} {RO:Nat->Nat->Prop} {gs:Array Goroutine} {w:World} {t:Trace} {q:Nat->Nat} {st gi:Int}
theorem jH.old(hW:lM P ty Wg C n val lt b5)(kr:tag≠.blk)(h:(jH P ty Wg C n lt b5 val ini S j0 Wp) tag bt c j d bM R A g0 a D V cf RO gs w t q st gi){k:Nat}(aq:0<k)(FP:k<=j0){g:Goroutine}(aN:gs[k]?=some g)(aB:g.status=.running)(sl:Option (Nat×Nat)):
  ∃ed ops,runT P (crowd gs w sl) k=(.next (crowd ed w sl),ops)/\∃a' jy dF,(jH P ty Wg C n lt b5 val ini S j0 Wp) tag jy c j d bM R A g0 a' D V cf RO ed w (t++ops) dF st gi/\sumTo (j0+1) dF<sumTo (j0+1) q:=by
 have aH:=h.dU.old k g aq FP aN;have ahJ:(k==0)=false:=by simp;omega
 cases Ud:q k with
 |zero=>rw[Ud]at aH;rw[aH.1]at aB;cases aB
 |succ m=>
  rw[Ud]at aH;rcases aH with⟨aQ,_⟩|⟨_,g',es,hm,Tl,iX⟩
  ·grind
  have fH:=h.dU.aeu hW (fn:=g.frame.fn) (pos:=g.frame.place) aq FP aN hm iX;obtain⟨jy,fg,kW,qo⟩:=Oj (P:=P) (g:=g) (g':=g') (w':=w) h.run h.off h.zC;refine⟨_,_,runT_crowd_go aN (by grind),woken P g g' w a,jy,upd q k m,⟨fH,?_,fg,λe=>h.off λe'=>e (by rw[e'];exact woken_run h.run),h.run,h.wg,h.md.retag kW,h.cb,h.qF,h.ck,h.vw,h.dV,h.rw,h.acc⟩,?_⟩
  ·rw[get_map_set _ _ _ _ (by omega),h.a0];rfl
  ·have:=sumTo_upd q m id (i:=k) (j:=j0+1) (by omega);simp  at this;grind
theorem jH.afS(hW:lM P ty Wg C n val lt b5)(bh:fL bM A)(h:(jH P ty Wg C n lt b5 val ini S j0 Wp) tag tag c j d bM R A g0 g0 D V cf RO gs w t q st gi){g':Goroutine}{w':World}{es:Array Event}{tag':CTag}{c':Nat}{fv gz:Int}(sl:Option (Nat×Nat))(hgo:stepG P true g0 w=.go g' w' es)(has:Aside Wg w w')(gA:WgAt ty Wg w' fv gz)(fR:∀e∈es,xf Wg e)
  (jZ:ConcN.Mode j D tag' fv gz) (tn:Vc j D+pend tag'<=c') (ad:g'.status=.running):
  ∃ed,runT P (crowd gs w sl) 0=(.next (crowd ed w' sl),MemOp.ofEvents 0 g0.frame.fn g0.frame.place es)/\(jH P ty Wg C n lt b5 val ini S j0 Wp) tag' tag' c' j (deafBehind d es) bM R A g' g' D V cf RO ed w' (t++MemOp.ofEvents 0 g0.frame.fn g0.frame.place es) q fv gz:=by
 have aU:0<gs.size:=by have:=h.dU.size;omega
 have fH:=h.dU.step0 hW (a:=g0) (a':=g') (fn:=g0.frame.fn) (pos:=g0.frame.place) (es:=es) has.os has.output (Nat.le_of_eq has.size.symm) (λb _ _ hb=>has.block b hb) ⟨_,_,gA⟩ (λop aE=>by
   obtain⟨e,he,rfl⟩:=Go.Conc.mem_ofEvents aE;exact⟨rfl,λx aj=>.inl (DZ (S:=S) (fR e he) aj)⟩) (λop aE x aj xD=>by
   obtain⟨e,he,rfl⟩:=Go.Conc.mem_ofEvents aE;exact absurd (DZ (S:=S) (fR e he) aj).1 xD) (λop aE=>by
   obtain⟨e,he,rfl⟩:=Go.Conc.mem_ofEvents aE;exact Rp (fR e he) (by rw[has.size];exact h.dU.hW)) (λop aE=>by
   grind [Go.Conc.mem_ofEvents,Pd])
 refine⟨_,runT_crowd_go h.a0 (show stepG P (0==0) g0 w=_ from hgo),fH,get_map_set_same _ _ _ aU,.inl ⟨rfl,rfl⟩,λe=>absurd rfl e,ad,gA,jZ,tn,bh w w' h.qF (Nat.le_of_eq has.size.symm) λb hb=>has.block b (h.ck b hb).2.2.1,λb hb=>?_,h.vw,h.dV,by rw[has.size];exact h.rw,h.acc⟩;have:=h.ck b hb;exact⟨by rw[has.size];grind,this.2⟩
theorem jH.By(hW:lM P ty Wg C n val lt b5)(h:(jH P ty Wg C n lt b5 val ini S j0 Wp) tag tag c j d bM R A g0 g0 D V cf RO gs w t q st gi){g':Goroutine}{w':World}{es:Array Event}{iQ:World->Prop}(sl:Option (Nat×Nat))(hgo:stepG P true g0 w=.go g' w' es)(ao:B9 bM R w w' es)(K3:iQ w')(ad:g'.status=.running):
  ∃ed,runT P (crowd gs w sl) 0=(.next (crowd ed w' sl),MemOp.ofEvents 0 g0.frame.fn g0.frame.place es)/\(jH P ty Wg C n lt b5 val ini S j0 Wp) tag tag c j d (λb=>bM b\/(w.heap.size<=b/\b<w'.heap.size)) R iQ g' g' D V cf RO ed w' (t++MemOp.ofEvents 0 g0.frame.fn g0.frame.place es) q st gi:=by
 have aU:0<gs.size:=by have:=h.dU.size;omega
 have FT:w'.heap[Wg]?=w.heap[Wg]?:=ao.blk Wg h.dU.hW λx=>(h.ck Wg x.1).2.2.1 rfl;have gA:WgAt ty Wg w' st gi:=FT.trans h.wg;have dB:∀b,((bM b/\R<=b)\/(w.heap.size<=b/\b<w'.heap.size))\/bM b->b<w'.heap.size:=λb hb=>by
  rcases hb with(hb|hb)|hb
  ·exact Nat.lt_of_lt_of_le (h.ck b hb.1).1 ao.size
  ·exact hb.2
  ·exact Nat.lt_of_lt_of_le (h.ck b hb).1 ao.size
 have aV:deafBehind d es=d:=Go.Conc.deafBehind_still (λe he=>⟨((ao.ay e he).still (stA Wg)).1,((ao.ay e he).still (stA Wg)).2.1⟩) d;have new:∀b,w.heap.size<=b->cf b=0/\b≠Wg/\b≠C/\¬S b/\∀i,¬RO i b:=λb hb=>⟨h.dU.tD b hb,by have:=h.dU.hW;omega,by have:=h.dU.hC;omega,λx=>by have:=h.dU.xB b x;have:=h.dU.hR;omega,λi x=>by have:=h.dU.qn i b x;omega⟩;have fH:=h.dU.step0 hW (a:=g0) (a':=g') (fn:=g0.frame.fn) (pos:=g0.frame.place) (es:=es) ao.os ao.out ao.size (λb hb aj hw=>ao.blk b hb λ⟨k1,k2⟩=>by
   obtain⟨_,hF,Gz,Va,_⟩:=h.ck b k1;rcases aj with aj|⟨i,aj⟩|aj|aj
   ·exact aj hF
   ·have:=h.vw i b aj;omega
   ·have:=h.dV;omega
   grind) ⟨_,_,gA⟩ (λop aE=>by
   obtain⟨e,he,rfl⟩:=Go.Conc.mem_ofEvents aE;refine⟨rfl,λx aj=>.inr ?_⟩;obtain⟨_,_,b,hb,dG⟩:=(ao.ay e he).plain aj;have alZ:cf b=0/\b≠Wg/\b≠C/\¬S b:=by
    rcases dG with(dG|dG)|dG
    ·exact(h.ck b dG.1).2
    ·grind
    ·exact(h.ck b dG.1).2
   refine⟨?_,λk k1 hU=>?_,λhw k k1 hU=>?_⟩
   ·rintro⟨y,aF,al0⟩;grind [py]
   ·rintro(⟨a6,U,ab,al⟩|⟨i,_,_,al⟩);all_goals grind [py]
   ·rintro⟨a6,U,ab,al⟩;rw[hb]at U;cases U;rcases dG with(dG|dG)|dG
    ·have:=h.vw _ _ al;omega
    all_goals grind) (λop aE x aj xD=>by
   obtain⟨e,he,rfl⟩:=Go.Conc.mem_ofEvents aE;rw[((ao.ay e he).plain aj).1];simp) (λop aE=>by
   obtain⟨e,he,rfl⟩:=Go.Conc.mem_ofEvents aE;exact(ao.ay e he).low dB) (λop aE=>by
   obtain⟨e,he,rfl⟩:=Go.Conc.mem_ofEvents aE;exact Ok (ao.ay e he) _)
 rw[aV]at fH;refine⟨_,runT_crowd_go h.a0 (show stepG P (0==0) g0 w=_ from hgo),fH,get_map_set_same _ _ _ aU,.inl ⟨rfl,rfl⟩,λe=>absurd rfl e,ad,gA,h.md,h.cb,K3,λb hb=>?_,h.vw,h.dV,Nat.le_trans h.rw ao.size,h.acc⟩;rcases hb with hb|hb
 ·have:=h.ck b hb;grind
 grind
theorem dn.running{f c j d:Nat}{tag:CTag}{bM:Nat->Prop}{R:Nat}{A:World->Prop}{g:Goroutine}(h:dn P ty Wg C n lt b5 Fin f tag c j d bM R A g):g.status=.running:=by
 cases f with
 |zero=>trivial
 |succ f=>exact h.1
theorem wV{es:Array Event}(h:∀e∈es,Bk Wg e):∀e∈es,xf Wg e:=λe he=>.inl (h e he)
theorem XC(hW:lM P ty Wg C n val lt b5)(aI:n<=2147483000){Q:Machine->Outcome->World->Trace->Prop}
  (iJ:∀j bM A g gs w sl t q,Fin j bM A g->Over P ty Wg C n val ini S Wp j bM A g gs w t q->Ends P Q (crowd gs w sl) t):
  ∀(f:Nat)(tag:CTag)(c j d:Nat)(bM:Nat->Prop)(R:Nat)(A:World->Prop)(g0:Goroutine),dn P ty Wg C n lt b5 Fin f tag c j d bM R A g0->tag≠.blk->∀(a:Goroutine)(bt:CTag)(D:Nat->WD)(V:Nat->Option σ)(cf:Nat->Nat)(RO:Nat->Nat->Prop)(gs:Array Goroutine)(w:World)(sl:Option (Nat×Nat))(t:Trace)(q:Nat->Nat)(st gi:Int),
   (jH P ty Wg C n lt b5 val ini S j0 Wp) tag bt c j d bM R A g0 a D V cf RO gs w t q st gi->Ends P Q (crowd gs w sl) t:=by
 intro f;induction f with
 |zero=>exact λ_ _ _ _ _ _ _ _ h=>h.elim
 |succ f B5=>
  intro tag c j d bM R A g0 afT kr;have key:∀(s:Nat)(V:Nat->Option σ)(m:Nat),Acc (tX (oQ lt) j) V->∀(a:Goroutine)(bt:CTag)(D:Nat->WD)(cf:Nat->Nat)(RO:Nat->Nat->Prop)(gs:Array Goroutine)(w:World)(sl:Option (Nat×Nat))(t:Trace)(q:Nat->Nat)(st gi:Int),
    (jH P ty Wg C n lt b5 val ini S j0 Wp) tag bt c j d bM R A g0 a D V cf RO gs w t q st gi->Ssum j D=s->2*sumTo (j0+1) q+2*Fsum j D+(if a.status=.running then 1 else 0)=m->Ends P Q (crowd gs w sl) t:=by
   refine afO λs V m va zD tE K4 a bt D cf RO gs w sl t q st gi h ao hm=>?_;obtain⟨akF,bh,ahL⟩:=afT;obtain⟨i,g,x,fT,aN,aB,eo⟩:=crowd_pick (P:=P) (w:=w) (sl:=sl) (h.awake hW) (h.abK hW);replace h:=h.at hW bh x;have flag:∀a':Goroutine,(if a'.status=GoStatus.running then 1 else 0)<=1:=λa'=>by split<;>omega
   have bX:=h.dU.size;have Tm:i<gs.size:=(Array.getElem?_eq_some_iff.1 aN).1;rcases Nat.eq_zero_or_pos i with rfl|eb
   ·obtain rfl:a=g:=by have:=h.a0;rw[aN]at this;exact(Option.some.inj this).symm
    obtain⟨aK,aO⟩:a=g0/\bt=tag:=h.zC.resolve_right λ⟨e,_⟩=>by rw[e]at aB;cases aB
    replace aO:=aO.symm;subst aK aO;have tF:∀{g':Goroutine}{w':World}{es:Array Event}{tag':CTag}{c':Nat}{fv gz:Int},stepG P true a (w.at x)=.go g' w' es->Aside Wg (w.at x) w'->WgAt ty Wg w' fv gz->(∀e∈es,xf Wg e)->ConcN.Mode j D tag' fv gz->Vc j D+pend tag'<=c'->tag'≠.blk->dn P ty Wg C n lt b5 Fin f tag' c' j (deafBehind d es) bM R A g'->Ends P Q (crowd gs w sl) t:=by
     intro g' w' es tag' c' fv gz U ab al aJ bm bI cS et;obtain⟨ed,ad,sc⟩:=h.afS hW bh fT U ab al aJ bm bI et.running;exact Ends.next (eo.trans ad) (B5 _ _ _ _ _ _ _ _ et cS _ _ _ _ _ _ _ _ _ _ _ _ _ sc)
    have EU:tag=.anch\/tag=.sp 0 3->OpenSt j D/\st=((Vc j D+pend tag:Nat):Int)*KK/\gi=0:=λe=>by
     have:isOpen tag:=by rcases e with rfl|rfl<;>trivial
     obtain⟨U,ab,al,_⟩:=h.md.open_inv this;exact⟨U,ab,al⟩
    rcases ahL with⟨rfl,aq⟩|aq|⟨e,he,aq⟩|⟨rfl,ah,aq⟩|⟨rfl,rfl,aC,aq⟩|⟨rfl,aq⟩|⟨af,e0,rfl,aq⟩|⟨rfl,ahM,aq⟩|⟨rfl,aq⟩|⟨rfl,rfl,aq⟩
    ·obtain⟨g',w',es,iQ,U,ab,al,aJ⟩:=aq (w.at x) h.qF (λb hb=>(h.ck b hb).1) h.rw;obtain⟨ed,ad,sc⟩:=h.By hW fT U ab al aJ.running;exact Ends.next (eo.trans ad) (B5 _ _ _ _ _ _ _ _ aJ (by simp) _ _ _ _ _ _ _ _ _ _ _ _ _ sc)
    ·obtain⟨g',U,ab⟩:=aq (w.at x) h.dU.live;exact tF U (.refl _ _) h.wg (by simp) h.md h.cb kr ab
    ·obtain⟨g',U,ab⟩:=aq (w.at x) h.dU.live;refine tF U (.refl _ _) h.wg (λe' oO=>?_) h.md h.cb kr ab;simp only[List.mem_toArray,List.mem_cons,List.not_mem_nil,or_false]at oO;subst oO;rcases he with rfl|rfl|rfl|rfl
     ·exact .inl (.inl rfl)
     ·exact .inl (.inr (.inl rfl))
     ·exact .inr (.inl rfl)
     ·exact .inr (.inr (.inl rfl))
    ·obtain⟨ar,rfl,rfl⟩:=EU (.inl rfl);have ai:Vc j D<=c:=by have:=h.cb;simp only[pend]at this;omega
     obtain⟨g',U,ab⟩:=aq (w.at x) (Vc j D) ai (by simpa[pend]using h.wg);refine tF (tag':=.sp 0 3) U (aside_setCell _ (stA Wg) _) (h.wg.setSt _) (wV bk_rw) ?_ (by simp only[pend];split<;>omega) (by simp) ab;have e:(((Vc j D:Nat):Int)+1)*KK=((Vc j D+pend (.sp 0 3):Nat):Int)*KK:=by simp[pend]
     rw[e];exact .opn trivial ar (by simp)
    ·obtain⟨ar,rfl,rfl⟩:=EU (.inr rfl);obtain⟨g',child,cc,U,ab,al,aJ⟩:=aq (w.at x) h.qF h.dU.pay h.dU.live (λb hb=>(h.ck b hb).1);have ad:=runT_crowd_spawn (P:=P) (sl:=fT) (i:=0) h.a0 (show stepG P (0==0) a (w.at x)=_ from U);have fH:=h.dU.spawn hW (a':=g') (x:={ g:=0,fn:=a.frame.fn,pos:=a.frame.place,act:=.go gs.size }) (y:={ g:=gs.size,fn:=child.frame.fn,pos:=a.frame.place,act:=.start }) ⟨rfl,by show MemAct.go gs.size=_;rw[show gs.size=j0+j+1 by omega]⟩ ⟨by show gs.size=_;omega,rfl⟩ aC h.ck ab;have Bx:Vc (j+1) (upd D j ⟨7,0,0⟩)=Vc j D+1:=by
      simp only[Vc,sumTo,upd_same];rw[sumTo_upd_out D _ cnt (Nat.le_refl _)];rfl
     have tn:=h.cb;refine Ends.next (eo.trans ad) (B5 _ _ _ _ _ _ _ _ aJ (by simp) g' .anch (upd D j ⟨7,0,0⟩) (upd V j (some cc)) cf (upd RO j bM) _ _ _ _ q _ 0 ⟨?_,?_,.inl ⟨rfl,rfl⟩,λe=>absurd rfl e,aJ.running,h.wg,?_,by rw[Bx];simp only[pend]at tn⊢;simp at tn;omega,h.qF,h.ck,λi b hb=>?_,Nat.le_trans h.dV h.rw,Nat.le_refl _,λi aX=>?_⟩)
     ·exact fH
     ·have bO:0<(gs.setIfInBounds 0 g').size:=by rw[Array.size_setIfInBounds];exact Tm
      rw[Array.getElem?_push_lt bO,←Array.getElem?_eq_getElem bO,Array.getElem?_setIfInBounds_self_of_lt Tm]
     ·have e:((Vc j D+pend (.sp 0 3):Nat):Int)*KK=((Vc (j+1) (upd D j ⟨7,0,0⟩)+pend .anch:Nat):Int)*KK:=by rw[Bx];simp[pend]
      rw[e];refine .opn trivial (λi aX=>?_) (by simp);by_cases e:i=j
      ·subst e;rw[upd_same];simp
      ·rw[upd_ne D _ e];exact ar i (by omega)
     ·by_cases e:i=j
      ·subst e;rw[upd_same]at hb;exact(h.ck b hb).1
      ·rw[upd_ne RO _ e]at hb;exact h.dU.qn i b hb
     ·by_cases e:i=j
      ·subst e;rw[upd_same];exact oQ.acc al
      ·rw[upd_ne V _ e];exact h.acc i (by omega)
    ·obtain⟨ar,rfl,rfl⟩:=EU (.inl rfl);have ai:Vc j D<=c:=by have:=h.cb;simp only[pend]at this;omega
     obtain⟨g',U,ab,al⟩:=aq (w.at x) (Vc j D) ai (by simpa[pend]using h.wg);by_cases aT:Vc j D=0
     ·refine tF (tag':=.w4) U (.refl _ _) h.wg (wV bk_rd) ?_ (by simp[pend,aT]) (by simp) (ab aT);have e:((Vc j D+pend .anch:Nat):Int)*KK=0:=by simp[pend,aT]
      rw[e];exact .fin trivial (allQuit_of ar aT)
     ·exact tF (tag':=.anch) U (.refl _ _) h.wg (wV bk_rd) h.md (by simp[pend]) (by simp) (al aT)
    ·obtain⟨ar,rfl,rfl⟩:=EU (.inl rfl);have ai:Vc j D<=c:=by have:=h.cb;simp only[pend]at this;omega
     obtain⟨afU,aew⟩:=aq (w.at x) (Vc j D) ai (by simpa[pend]using h.wg);by_cases e:Vc j D=af
     ·obtain⟨g',U,ab⟩:=afU e;exact tF (tag':=.w3) U (aside_setCell _ (stA Wg) _) (h.wg.setSt _) (wV bk_rw) (.reg trivial ar (by omega)) (by simp[pend]) (by simp) ab
     ·obtain⟨g',U,ab⟩:=aew e;exact tF (tag':=.anch) U (.refl _ _) h.wg (wV bk_rd) h.md (by simp[pend]) (by simp) ab
    ·obtain⟨lV,JB⟩:=aq (w.at x);have Tn:∀{fv:Int},WgAt ty Wg (w.at x) fv 0->ConcN.Mode j D .blk st gi->Ends P Q (crowd gs w sl) t:=by
      intro fv hw jZ;have hgo:=lV ⟨_,hw⟩;have ad:=runT_crowd_go (P:=P) (sl:=fT) (i:=0) h.a0 (show stepG P (0==0) a (w.at x)=_ from hgo);have aU:0<gs.size:=by omega
      have fH:=h.dU.step0 hW (w':=w.at x) (a:=a) (a':={ a with status:=.blocked }) (fn:=a.frame.fn) (pos:=a.frame.place) (es:=#[]) rfl rfl (Nat.le_refl _) (λb _ _ hb=>rfl) h.dU.live (λop aE=>by simp[MemOp.ofEvents]at aE) (λop aE=>by simp[MemOp.ofEvents]at aE) (λop aE=>by simp[MemOp.ofEvents]at aE) (λop aE=>by simp[MemOp.ofEvents]at aE);refine Ends.next (eo.trans ad) (K4 _ ?_ { a with status:=.blocked } .blk D cf RO _ _ _ _ q st gi ⟨fH,get_map_set_same _ _ _ aU,.inr ⟨rfl,rfl,rfl⟩,λ_=>ahM,h.run,h.wg,jZ,h.cb,h.qF,h.ck,h.vw,h.dV,h.rw,h.acc⟩ ao rfl);rw[←hm,if_pos aB,if_neg (by simp)];omega
     cases jZ:h.md with
     |opn U _ _=>exact U.elim
     |reg U ab al=>exact Tn h.wg (.reg trivial ab al)
     |last L U ab al aJ=>exact Tn h.wg (.last L trivial ab al aJ)
     |sema ab=>
      obtain⟨g',U,al⟩:=JB h.wg;refine tF (tag':=.w4) (c':=0) U (aside_setCell _ (smA Wg) _) (h.wg.setSm 0) (wV bk_sem) (.fin trivial ab) ?_ (by simp) ?_
      ·have:Vc j D=0:=by
        have:sumTo j (λi=>cnt (D i))<=0*j:=Go.ConcN.sumTo_le λi aX=>by simp[cnt,ab i aX]
        simp only[Vc];omega
       simp[pend,this]
      ·have:deafBehind d (semEvents (smA Wg))=d:=by simp[deafBehind,semEvents]
       rw[this];exact al
     |fin U _=>exact U.elim
    ·obtain⟨aH,rfl,rfl⟩:=h.md.fin_inv trivial;obtain⟨g',U,ab⟩:=aq (w.at x) h.wg;have pD:Vc j D=0:=by
      have:sumTo j (λi=>cnt (D i))<=0*j:=Go.ConcN.sumTo_le λi aX=>by simp[cnt,aH i aX]
      simp only[Vc];omega
     exact tF (tag':=.w4) U (.refl _ _) h.wg (wV bk_rd) h.md (by simp[pend,pD]) (by simp) ab
    ·obtain⟨aH,rfl,rfl⟩:=h.md.fin_inv trivial;obtain⟨g',U,ab⟩:=aq (w.at x) h.dU.live;have pD:Vc j D=0:=by
      have:sumTo j (λi=>cnt (D i))<=0*j:=Go.ConcN.sumTo_le λi aX=>by simp[cnt,aH i aX]
      simp only[Vc];omega
     have ad:=runT_crowd_go (P:=P) (sl:=fT) (i:=0) h.a0 (show stepG P (0==0) a (w.at x)=_ from U);have aU:0<gs.size:=by omega
     have fR:∀e∈#[mk (.acquire (stA Wg))],xf Wg e:=λe he=>by simp at he;exact .inr (.inr (.inr he))
     have fH:=h.dU.step0 hW (w':=w.at x) (a:=a) (a':=g') (fn:=a.frame.fn) (pos:=a.frame.place) (es:=#[mk (.acquire (stA Wg))]) rfl rfl (Nat.le_refl _) (λb _ _ hb=>rfl) h.dU.live (λop aE=>by
       obtain⟨e,he,rfl⟩:=Go.Conc.mem_ofEvents aE;exact⟨rfl,λx aj=>.inl (DZ (S:=S) (fR e he) aj)⟩) (λop aE x aj xD=>by
       obtain⟨e,he,rfl⟩:=Go.Conc.mem_ofEvents aE;exact absurd (DZ (S:=S) (fR e he) aj).1 xD) (λop aE=>by
       obtain⟨e,he,rfl⟩:=Go.Conc.mem_ofEvents aE;exact Rp (fR e he) h.dU.hW) (λop aE=>by
       obtain⟨e,he,rfl⟩:=Go.Conc.mem_ofEvents aE;exact Pd (fR e he) _)
     have aK:MemOp.ofEvents 0 a.frame.fn a.frame.place #[mk (.acquire (stA Wg))]=#[{ g:=0,fn:=a.frame.fn,pos:=a.frame.place,act:=.mark (.acquire (stA Wg)) }]:=by rw[ofEvents_eq];simp[ofEvent_mk]
     have aF:(t++#[({ g:=0,fn:=a.frame.fn,pos:=a.frame.place,act:=.mark (.acquire (stA Wg)) }:MemOp)])[t.size]?=some { g:=0,fn:=a.frame.fn,pos:=a.frame.place,act:=.mark (.acquire (stA Wg)) }:=by simp
     have qp:Deaf (t++MemOp.ofEvents 0 a.frame.fn a.frame.place #[mk (.acquire (stA Wg))]) 0=0:=by rw[fH.deaf0];rfl
     refine Ends.next (eo.trans ad) (iJ j bM A g' _ _ _ _ (λk=>if k<=j0 then q k else(D (k-(j0+1))).fuel) ab ⟨get_map_set_same _ _ _ aU,⟨λk g1 aq tA=>?_,λk aq=>?_⟩,?_,λop aE=>?_,λi aX=>fH.has i aX (by rw[aH i aX];omega),fH.pay,fH.rest,fH.live,h.qF,λb hb=>⟨(h.ck b hb).1,(h.ck b hb).2.2⟩,fH.hR,fH.base,fH.os,fH.out⟩)
     ·rcases Nat.lt_or_ge j0 k with aC|aC
      ·rw[if_neg (by omega)];have mG:=(Array.getElem?_eq_some_iff.1 tA).1;rw[fH.size]at mG;obtain⟨y,aF,ao⟩:=fH.wk (k-(j0+1)) (by omega);rw[show j0+1+(k-(j0+1))=k by omega,tA]at aF;cases aF;have zz:=fH.deafW (k-(j0+1)) (by omega);rw[show j0+1+(k-(j0+1))=k by omega]at zz;rw[zz];have tG:=aH (k-(j0+1)) (by omega);generalize D (k-(j0+1))=amJ at ao tG;generalize V (k-(j0+1))=amK at ao;cases ao with
       |own _=>cases tG
       |lu ak=>exact ak.quits tG
      ·rw[if_pos aC];exact fH.old k g1 aq aC tA
     ·refine Deaf_absent λa op au e=>?_;have:=fH.qE.ct.gs a op au;rw[fH.size]at aq;omega
     ·refine fH.qE.finish (q:=t.size) (a:=stA Wg) (by rw[aK,act?_of aF]) (by rw[aK];simp[Trace.g?]) (by rw[aK];exact⟨0,by simp[Trace.g?],by rw[deaf_old (Nat.le_refl _)];exact h.dU.deaf0⟩) fH.norel qp λk aq FP=>?_;obtain⟨r,ad⟩:=h.dU.rel (k-(j0+1)) (by omega) (by rw[aH _ (by omega)];omega);rw[show j0+1+(k-(j0+1))=k by omega]at ad;exact⟨r,ad.appOther g_of_ofEvents (by omega),lt_of_act? ad.act⟩
     ·obtain⟨k,aq⟩:=Array.mem_iff_getElem?.1 aE;have:=fH.qE.ct.gs k op aq;rw[fH.size];omega
   ·rcases Nat.lt_or_ge j0 i with aC|aC
    ·obtain⟨ed,w',ops,ad,a',jy,D',V',xC,fv,gz,sc,aU⟩:=h.worker hW aI bh kr (i:=i-(j0+1)) (by omega) (g:=g) (by rw[show j0+1+(i-(j0+1))=i by omega];exact aN) aB fT;rw[show j0+1+(i-(j0+1))=i by omega]at ad;refine Ends.next (eo.trans ad) ?_;rcases aU with U|⟨U,ab⟩|⟨U,rfl,ab⟩
     ·exact zD _ V' _ (ao▸U) (tX.acc j V' sc.acc) a' jy D' xC RO ed w' fT _ q fv gz sc rfl rfl
     ·exact tE V' _ ab a' jy D' xC RO ed w' fT _ q fv gz sc (U.trans ao) rfl
     ·refine K4 _ ?_ a' jy D' xC RO ed w' fT _ q fv gz sc (U.trans ao) rfl;have:=flag a';rw[←hm];omega
    ·obtain⟨ed,ops,ad,a',jy,dF,sc,aU⟩:=h.old hW kr eb aC aN aB fT;refine Ends.next (eo.trans ad) (K4 _ ?_ a' jy D cf RO ed _ fT _ dF st gi sc ao rfl);have:=flag a';rw[←hm];omega
  intro a bt D V cf RO gs w sl t q st gi h;exact key _ V _ (tX.acc j V h.acc) a bt D cf RO gs w sl t q st gi h rfl rfl
end
end
section
abbrev Tryz.link:Go.Conc.Lib.WgLink:={ add:=102,done:=104,wait:=105,relMerge:=132,disable:=133,enable:=134,inBubble:=135,associate:=136,fatal:=137,uOr:=138,uAdd:=139,raceRead:=140,uLoad:=141,uStore:=142,disassociate:=143,semrelease:=144,acquire:=145,isAssociated:=146,uCas:=147,raceWrite:=148,semacquire:=149,orU64:=165,addU64:=166,loadU64:=167,storeU64:=168,casU64:=169,tWgP:=165,tUP:=167,tAssoc:=168,tWg:=151,tAU:=148,tU64:=83,tUint:=101,tU32:=149,tPU32:=172,tPAU:=189,tPU64:=191,tNoCopy:=144,tANoCopy:=145,tAlign64:=146 }
theorem Tryz.JG:Go.Conc.Lib.WgLib Tryz.prog Tryz.link:=by
 constructor;all_goals first
  |kernel_rfl
  |(intro w;kernel_rfl)
end
section
open Go Go.Conc
noncomputable def iT:Array Oper:=match Tryz.f103.body with
 |some (.seq _ (.region _ ops _))=>ops
 |_=>#[]
noncomputable def B2(o:Oper):Oper:={ o with op:=.assign (.const (.int .i64 990099)) }
noncomputable def opsV:Array Oper:=(iT.modify 13 B2).modify 14 B2
noncomputable def u9:Array Oper:=#[{ dst:=some 5,op:=.move (.const (.bool true)),type:=4,pos := "",after:=#[],guard:=none },
 { dst:=some 0,op:=.move (.const (.int .i64 0)),type:=3,pos := "",after:=#[{ on:=0,ground:=.guard }],guard:=some (0,false) },
 { dst:=some 4,op:=.move (.const (.int .i64 0)),type:=3,pos := "",after:=#[{ on:=0,ground:=.guard }],guard:=some (0,false) },
 { dst:=some 5,op:=.move (.const (.int .i64 0)),type:=3,pos := "",after:=#[{ on:=0,ground:=.guard }],guard:=some (0,false) }]
noncomputable def yW:Func:={ Tryz.f103 with body:=some (.seq (.region 0 u9 false) (.region 1 opsV true)),results:=#[.tmp 17,.tmp 5],resultTypes:=#[4,3] }
noncomputable def sb:Code:=Tryz.f58.body.getD .skip
noncomputable def B3:Code:=match sb with | .seq _ (.seq _ (.seq _ (.seq _ r)))=>r|_=>.skip
noncomputable def l2:Code:=match B3 with | .seq _ r=>r|_=>.skip
noncomputable def rv:Array Oper:=#[{ dst:=some 16,op:=.move (.const (.bool true)),type:=4,pos := "",after:=#[],guard:=none },
 { dst:=some 2,op:=.move (.const (.int .i64 0)),type:=3,pos := "",after:=#[{ on:=0,ground:=.guard }],guard:=some (0,false) },
 { dst:=some 3,op:=.move (.const (.int .i64 0)),type:=3,pos := "",after:=#[{ on:=0,ground:=.guard }],guard:=some (0,false) },
 { dst:=some 4,op:=.move (.const (.int .i64 0)),type:=3,pos := "",after:=#[{ on:=0,ground:=.guard }],guard:=some (0,false) },
 { dst:=some 16,op:=.move (.const (.bool false)),type:=4,pos := "",after:=#[],guard:=none }]
noncomputable def ta:Func:={ Tryz.f58 with nfree:=4,body:=some (.seq (.region 90 rv false) l2) }
noncomputable def cl:Program:={ Tryz.prog with funcs:=(Tryz.prog.funcs.setIfInBounds 103 yW).setIfInBounds 58 ta }
theorem YO:iT.size=15:=by kernel_rfl
theorem abJ:AS opsV 13:=Xw (by kernel_rfl)
theorem O9:cl.funcs[103]?=some yW:=by kernel_rfl
theorem ID:cl.funcs[58]?=some ta:=by kernel_rfl
theorem YP(a0 eD a2 a3 a4:Value):Frame.enter cl 103 #[a0,eD,a2,a3,a4] .normal=⟨103,#[a0,eD,a2,a3,a4,undef,undef,undef,undef,undef,undef,undef,undef,undef,undef,undef,undef,undef,undef],[.code (.seq (.region 0 u9 false) (.region 1 opsV true))],[],.run,.normal,none⟩:=by
 unfold Frame.enter;rw[O9];rfl
theorem YQ{T:Frame->List Frame->World->Prop}(ek:∀f w,¬T f [dv] w){a0 eD a2 a3 a4:Value}{V:World}(h:m7 cl T (Frame.enter cl 103 #[a0,eD,a2,a3,a4] .normal) [dv] V):
  m7 cl T ⟨103,#[undef,eD,a2,a3,undef,undef,undef,undef,undef,undef,undef,undef,undef,undef,undef,undef,undef,undef,undef],[.code (.region 1 opsV true)],[],.run,.normal,none⟩ [dv] V:=by
 rw[YP]at h;have iP:∀(f:Frame)(w:World),¬∀τ d,T f [dv] (a8 w τ d):=λf w x=>ek _ _ (x default 0);have k1:=kF (f1:=⟨103,#[a0,eD,a2,a3,a4,undef,undef,undef,undef,undef,undef,undef,undef,undef,undef,undef,undef,undef,undef],[.code (.region 0 u9 false),.code (.region 1 opsV true)],[],.run,.normal,none⟩) (cs1:=[dv]) (w1:=λτ d=>a8 V τ d) h (iP _ _) λτ d=>⟨#[],rfl⟩;have k2:=kF (f1:=⟨103,#[a0,eD,a2,a3,a4,undef,undef,undef,undef,undef,undef,undef,undef,undef,undef,undef,undef,undef,undef],[.inRegion u9 [0,1,2,3],.code (.region 1 opsV true)],[],.run,.normal,none⟩) (cs1:=[dv]) (w1:=λτ d=>a8 V τ d) (k1 default 0) (iP _ _) λτ d=>⟨#[],rfl⟩;have bP:=kF (f1:=⟨103,#[a0,eD,a2,a3,a4,.bool true,undef,undef,undef,undef,undef,undef,undef,undef,undef,undef,undef,undef,undef],[.inRegion u9 [1,2,3],.code (.region 1 opsV true)],[],.run,.normal,none⟩) (cs1:=[dv]) (w1:=λτ d=>a8 V τ d) (k2 default 0) (iP _ _) λτ d=>⟨_,rfl⟩;have cX:=kF (f1:=⟨103,#[undef,eD,a2,a3,a4,.bool true,undef,undef,undef,undef,undef,undef,undef,undef,undef,undef,undef,undef,undef],[.inRegion u9 [2,3],.code (.region 1 opsV true)],[],.run,.normal,none⟩) (cs1:=[dv]) (w1:=λτ d=>a8 V τ d) (bP default 0) (iP _ _) λτ d=>⟨_,rfl⟩;have fi:=kF (f1:=⟨103,#[undef,eD,a2,a3,undef,.bool true,undef,undef,undef,undef,undef,undef,undef,undef,undef,undef,undef,undef,undef],[.inRegion u9 [3],.code (.region 1 opsV true)],[],.run,.normal,none⟩) (cs1:=[dv]) (w1:=λτ d=>a8 V τ d) (cX default 0) (iP _ _) λτ d=>⟨_,rfl⟩;have ahD:=kF (f1:=⟨103,#[undef,eD,a2,a3,undef,undef,undef,undef,undef,undef,undef,undef,undef,undef,undef,undef,undef,undef,undef],[.inRegion u9 [],.code (.region 1 opsV true)],[],.run,.normal,none⟩) (cs1:=[dv]) (w1:=λτ d=>a8 V τ d) (fi default 0) (iP _ _) λτ d=>⟨_,rfl⟩;have tW:=kF (f1:=⟨103,#[undef,eD,a2,a3,undef,undef,undef,undef,undef,undef,undef,undef,undef,undef,undef,undef,undef,undef,undef],[.code (.region 1 opsV true)],[],.run,.normal,none⟩) (cs1:=[dv]) (w1:=λτ d=>a8 V τ d) (ahD default 0) (iP _ _) λτ d=>⟨#[],rfl⟩;exact tW V.tape V.drawn
end
section
open Go
section
variable(P:Program)(fs:Array Func)
theorem Jc:∀d t o,byteOfCell { P with funcs:=fs } d t o=byteOfCell P d t o
 |0,_,_=>rfl
 |d+1,t,o=>by
  unfold byteOfCell;have e:∀x y,byteOfCell { P with funcs:=fs } d x y=byteOfCell P d x y:=Jc d;simp only[e];rfl
theorem Rk:∀d t o,cellOfByte { P with funcs:=fs } d t o=cellOfByte P d t o
 |0,_,_=>rfl
 |d+1,t,o=>by
  unfold cellOfByte;have e:∀x y,cellOfByte { P with funcs:=fs } d x y=cellOfByte P d x y:=Rk d;simp only[e];rfl
theorem ado(d:Nat)(t:TypeId)(n o:Nat)(b:Int):cellAtBytes { P with funcs:=fs } d t n o b=cellAtBytes P d t n o b:=by
 unfold cellAtBytes;simp only[Jc,Rk];rfl
theorem Ja:∀d t,Program.eqGuardType { P with funcs:=fs } d t=P.eqGuardType d t
 |0,_=>rfl
 |d+1,t=>by
  unfold Program.eqGuardType;have e:∀x,Program.eqGuardType { P with funcs:=fs } d x=P.eqGuardType d x:=Ja d;simp only[e];rfl
theorem Rl:∀n t u,Program.alikeButTags { P with funcs:=fs } n t u=P.alikeButTags n t u
 |0,_,_=>rfl
 |n+1,t,u=>by
  unfold Program.alikeButTags;have e:Program.alikeButTags { P with funcs:=fs } n=P.alikeButTags n:=funext λx=>funext λy=>Rl n x y;rw[e]
theorem Re(t:TypeId):Program.stoodInHeld { P with funcs:=fs } t=P.stoodInHeld t:=by
 have e:Program.alikeButTags { P with funcs:=fs } P.depth=P.alikeButTags P.depth:=funext λx=>funext λy=>Rl P fs _ x y;have aO:Program.stoodInAs { P with funcs:=fs } t=P.stoodInAs t:=by
  show(if P.underlying t matches some (.struct _)then(P.cutTypes.toList.filter λc=>Program.alikeButTags { P with funcs:=fs } P.depth (P.underlyingId c.2) (P.underlyingId t)).map (·.1)else[])=_;rw[e];try rfl
 show((Program.stoodInAs { P with funcs:=fs } t).any λname=>((P.info? t).map (·.hasPointers)).getD true||!Program.vouched name)=_;rw[aO];try rfl
theorem Pa{C:ee}(U:∀f n,C.CL f n->∃fn cC,fs[f]?=some fn/\P.funcs[f]?=some cC/\fn.name ≠ "runtime.NumGoroutine" /\ cC.name ≠ "runtime.NumGoroutine" /\ fn.body.isSome=true/\cC.body.isSome=true)
  (ab:∀f,C.F f->∃fn cC,fs[f]?=some fn/\P.funcs[f]?=some cC/\fn.name ≠ "runtime.NumGoroutine" /\ cC.name ≠ "runtime.NumGoroutine" /\ fn.body.isSome=true/\cC.body.isSome=true):PP C { P with funcs:=fs } P:=
 ⟨λ_=>rfl,λ_=>rfl,rfl,rfl,λt=>(Re P fs t).symm,rfl,λd t=>(Ja P fs d t).symm,λ_=>rfl,λ_=>rfl,λd t o=>(Jc P fs d t o).symm,λd t n o b=>(ado P fs d t n o b).symm,U,ab⟩
end
end
section
open Go Go.Conc
def B4:List Nat:=[91,92,96,101,121,122,123,128,129,130,131,163,164]
def fc:FuncId->Bool:=λf=>B4.contains f
def GA:List Nat:=(List.range 176).filter λf=>!([0,1,2,58,102,103,105,132,133,134,135,136,137,138,139,140,141,142,143,144,145,146,147,148,149,165,166,167,168,169].contains f)
def iC:FuncId->Bool:=λf=>GA.contains f
noncomputable def okF(p p':Program)(F:FuncId->Bool)(f:FuncId):Bool:=match p.funcs[f]?,p'.funcs[f]? with
 |some fn,some cC=>(match fn.body,cC.body with
  |some c,some _=>codeOk p F c
  |_,_=>false)
 |_,_=>false
theorem aeq:B4.all (okF cl Tryz.prog fc)=true:=by kernel_rfl
theorem adp:GA.all (okF Tryz.prog Tryz.prog iC)=true:=by kernel_rfl
theorem C8:cl.funcs=(Tryz.prog.funcs.setIfInBounds 103 yW).setIfInBounds 58 ta:=by kernel_rfl
theorem Qe{f:FuncId}(h:f≠103)(ab:f≠58):cl.funcs[f]?=Tryz.prog.funcs[f]?:=by rw[C8,Array.getElem?_setIfInBounds_ne (Ne.symm ab),Array.getElem?_setIfInBounds_ne (Ne.symm h)]
theorem Rm{p p':Program}{F:FuncId->Bool}{l:List Nat}(lh:l.all (okF p p' F)=true)(ak:∀f,F f=true->f∈l)(ao:∀f,f∈l->p.funcs[f]?=p'.funcs[f]?):∀f,F f=true->∃fn cC c,p.funcs[f]?=some fn/\p'.funcs[f]?=some cC/\fn.body=some c/\cC.body=some c/\cC=fn/\codeOk p F c=true:=λf aQ=>by
 have hm:=ak f aQ;have:=List.all_eq_true.1 lh f hm;unfold okF at this;split at this
 ·rename_i fn cC U ab;have e:=ao f hm;rw[U,ab]at e;cases e;split at this
  ·rename_i c c' al aJ;rw[al]at aJ;cases aJ;exact⟨fn,fn,c,U,ab,al,al,rfl,this⟩
  ·cases this
 ·cases this
theorem Ql{f:FuncId}(h:fc f=true):f∈B4:=by simpa[fc]using h
theorem Rn{f:FuncId}(h:iC f=true):f∈GA:=by simpa[iC]using h
theorem adq:B4.all (λf=>f != 103&&f != 58)=true:=by kernel_rfl
theorem Sn:pk cl Tryz.prog fc:=by
 refine⟨λf aQ=>?_,by kernel_rfl⟩;obtain⟨fn,cC,c,U,ab,al,aJ,e,bm⟩:=Rm aeq (λf h=>Ql h) (λf hm=>by
  have:=List.all_eq_true.1 adq f hm;simp only[Bool.and_eq_true,bne_iff_ne,ne_eq]at this;exact Qe this.1 this.2) f aQ
 subst e;exact⟨_,_,c,U,ab,al,aJ,rfl,rfl,bm⟩
theorem adr:pk Tryz.prog Tryz.prog iC:=by
 refine⟨λf aQ=>?_,by kernel_rfl⟩;obtain⟨fn,cC,c,U,ab,al,aJ,e,bm⟩:=Rm adp (λf h=>Rn h) (λf hm=>rfl) f aQ;subst e;exact⟨_,_,c,U,ab,al,aJ,rfl,rfl,bm⟩
noncomputable def vu(p p':Program)(f:FuncId):Bool:=match p.funcs[f]?,p'.funcs[f]? with
 |some fn,some cC=>fn.name != "runtime.NumGoroutine" && cC.name != "runtime.NumGoroutine" && fn.body.isSome&&cC.body.isSome
 |_,_=>false
theorem aer:B4.all (vu cl Tryz.prog)=true:=by kernel_rfl
theorem ads:GA.all (vu Tryz.prog Tryz.prog)=true:=by kernel_rfl
theorem aes:((List.range Tryz.prog.funcs.size).filter λf=>o4 cl f).all (λf=>vu cl Tryz.prog f)=true:=by kernel_rfl
theorem adt:((List.range Tryz.prog.funcs.size).filter λf=>o4 Tryz.prog f).all (λf=>vu Tryz.prog Tryz.prog f)=true:=by kernel_rfl
theorem ET{p p':Program}{f:FuncId}(h:vu p p' f=true):∃fn cC,p.funcs[f]?=some fn/\p'.funcs[f]?=some cC/\fn.name ≠ "runtime.NumGoroutine" /\ cC.name ≠ "runtime.NumGoroutine" /\ fn.body.isSome=true/\cC.body.isSome=true:=by
 unfold vu at h;split at h
 ·rename_i fn cC U ab;simp only[Bool.and_eq_true,bne_iff_ne,ne_eq]at h;exact⟨fn,cC,U,ab,h.1.1.1,h.1.1.2,h.1.2,h.2⟩
 ·cases h
theorem Nq{p:Program}{f:FuncId}(h:o4 p f=true):f<p.funcs.size:=by
 unfold o4 at h;split at h
 ·rename_i fn U;exact(Array.getElem?_eq_some_iff.1 U).1
 ·cases h
theorem ahE{f:FuncId}(h:o4 cl f=true):vu cl Tryz.prog f=true:=by
 refine List.all_eq_true.1 aes f (List.mem_filter.2 ⟨List.mem_range.2 ?_,h⟩);have:=Nq h;rw[C8]at this;simpa using this
theorem afN{f:FuncId}(h:o4 Tryz.prog f=true):vu Tryz.prog Tryz.prog f=true:=
 List.all_eq_true.1 adt f (List.mem_filter.2 ⟨List.mem_range.2 (Nq h),h⟩)
theorem Ti:PP (bH cl fc) cl Tryz.prog:=by
 have:=Pa (C:=bH cl fc) Tryz.prog ((Tryz.prog.funcs.setIfInBounds 103 yW).setIfInBounds 58 ta) (λf n h=>by
  have ab:o4 cl f=true:=h.1;obtain⟨fn,cC,k1,k2,bP⟩:=ET (ahE ab);rw[C8]at k1;exact⟨fn,cC,k1,k2,bP⟩) (λf h=>by
  obtain⟨fn,cC,k1,k2,bP⟩:=ET (List.all_eq_true.1 aer f (Ql h));rw[C8]at k1;exact⟨fn,cC,k1,k2,bP⟩)
 exact this
theorem aet:PP (bH Tryz.prog iC) Tryz.prog Tryz.prog:=by
 have:=Pa (C:=bH Tryz.prog iC) Tryz.prog Tryz.prog.funcs (λf n h=>ET (afN h.1)) (λf h=>ET (List.all_eq_true.1 ads f (Rn h)));exact this
end
section
open Go Go.Conc Go.RowKit
open Go.ConcN (PayAt Has WgLive AtR0 RW)
open Go.ConcN.Gen (doneN)
open Go.ConcR.Gen (body_done)
open Go.Conc.Lib (doneFn)
open Go.ConcR (stA Payload DC0)
instance:Payload:=⟨142⟩
noncomputable def bot:Frame:={ (default:Frame)with fn:=Tryz.prog.funcs.size,defers:=[],mode:=.panicking [goexitEntry] }
def e6(Wg:Nat):Value:=.pointer (some ⟨Wg,0,none⟩)
def xX(Wg C:Nat)(ae ip pp:Value):Array Value:=#[e6 Wg,ae,ip,pp,e6 C,undef,undef,undef,undef,undef,undef,undef,undef,undef,undef,undef,undef,undef,undef]
def LP(ae ip pp:Value):Array Value:=#[undef,ae,ip,pp,undef,undef,undef,undef,undef,undef,undef,undef,undef,undef,undef,undef,undef,undef,undef]
def call103(Wg C:Nat)(ae ip pp:Value):Deferred:={ target:=.fn (.func 103) #[e6 Wg,ae,ip,pp,e6 C],args:=#[] }
def ko(Wg:Nat):List Deferred:=[dcall 104 #[e6 Wg]]
noncomputable def CN(Wg C:Nat)(ae ip pp:Value):Goroutine:=G ⟨103,xX Wg C ae ip pp,[.code (.region 1 iT true)],ko Wg,.run,.deferred,none⟩ [bot]
def xg(P:Program):Nat->Goroutine->Goroutine->Prop
 |0,g,g'=>g=g'
 |n+1,g,g'=>g.status=.running/\∃g1,(∀w,stepG P false g w=.go g1 w #[])/\xg P n g1 g'
theorem xg.step{P:Program}{n:Nat}{g g1 g':Goroutine}(h:g.status=.running)(ao:∀w,stepG P false g w=.go g1 w #[])(k:xg P n g1 g'):xg P (n+1) g g':=⟨h,g1,ao,k⟩
noncomputable def Kc:Array Oper:=match Tryz.f103.body with
 |some (.seq (.region _ ops _) _)=>ops
 |_=>#[]
theorem abM:Tryz.f103.body=some (.seq (.region 0 Kc false) (.region 1 iT true)):=by kernel_rfl
theorem abN(Wg C:Nat)(ae ip pp:Value):xg Tryz.prog 5 (born Tryz.prog (call103 Wg C ae ip pp)) (CN Wg C ae ip pp):=by
 refine .step (g1:=G ((baseD 103).at ⟨xX Wg C ae ip pp,[]⟩ [.code (.seq (.region 0 Kc false) (.region 1 iT true))]) [bot]) rfl (λw=>?_) ?_
 ·have hb:=abM;have aQ:=Tryz.func103;have aI:Tryz.f103.name ≠ "runtime.NumGoroutine" := by
   have:(Tryz.f103.name == "runtime.NumGoroutine")=false:=by kernel_rfl
   simpa using this
  have a1:Tryz.f103.ntmps=19:=by kernel_rfl
  simp[born,call103,stepG,unwind,callDeferred,invoke,callFunc,aQ,hb,aI,a1,seen,GStep.after,G,Frame.enter,Frame.at,baseD,bot,xX]
 refine .step rfl (λw=>stepG_seq) ?_;refine .step rfl (λw=>stepG_region) ?_;refine .step rfl (λw=>stepG_defer (ops:=Kc) (i:=0) (rest:=[]) (o:={ dst:=none,op:=.defer { callee:=.value (.func 104),args:=#[.tmp 0],argTypes:=#[151] },type:=0,pos := "ask.go:18",after:=#[],guard:=none }) rfl rfl (by decide) rfl) ?_;refine .step rfl (λw=>stepG_region_end) ?_;show _=CN Wg C ae ip pp;simp[Act.put,CN,ko,dcall,Act.eval,xX,Frame.at,baseD,G]
theorem abO:(opsV.toList.all λo=>mx cl fc o.op)=true:=by kernel_rfl
theorem abP:(iT.toList.all λo=>mx cl fc o.op)=true:=by kernel_rfl
theorem YR{p:Program}{F:FuncId->Bool}{ops:Array Oper}(h:(ops.toList.all λo=>mx p F o.op)=true):px p F ops ops:=⟨λ_=>rfl,λ_ _ h _=>h,λ_ _=>rfl,rfl,h⟩
theorem aex:px cl fc opsV iT:=
 MR (MR (YR abP) (opsA:=iT.modify 13 B2) rfl (λ_=>rfl) (λ_=>rfl) (λ_=>rfl)) rfl (λ_=>rfl) (λ_=>rfl) (λ_=>rfl)
noncomputable def Sp(i:Nat):Bool:=match opsV[i]? with
 |some o=>i==13||i==14||!q1 o
 |none=>true
theorem aaf:(List.range 15).all Sp=true:=by kernel_rfl
theorem YS:opsV.size=15:=by kernel_rfl
theorem aey(i:Nat)(o:Oper)(h:opsV[i]?=some o)(aX:i∉[13,14]):q1 o=false:=by
 have aU:i<15:=by have:=(Array.getElem?_eq_some_iff.1 h).1;rw[YS]at this;exact this
 have:=List.all_eq_true.1 aaf i (List.mem_range.2 aU);unfold Sp at this;rw[h]at this;simp only[List.mem_cons,List.not_mem_nil,or_false,not_or]at aX;simpa[aX.1,aX.2]using this
noncomputable def To(i:Nat):Bool:=match iT[i]? with
 |some o=>match o.dst with
  |some d=>decide (5<=d)
  |none=>true
 |none=>true
theorem aag:(List.range 15).all To=true:=by kernel_rfl
theorem afV(i:Nat)(o:Oper)(d:Tmp)(h:iT[i]?=some o)(aV:o.dst=some d):5<=d:=by
 have aU:i<15:=by have:=(Array.getElem?_eq_some_iff.1 h).1;rw[YO]at this;exact this
 have:=List.all_eq_true.1 aag i (List.mem_range.2 aU);unfold To at this;rw[h]at this;dsimp only at this;rw[aV]at this;simpa using this
noncomputable def tH:Oper:=(iT[13]?).getD default
noncomputable def tI:Oper:=(iT[14]?).getD default
theorem Sq:iT[13]?=some tH:=by kernel_rfl
theorem Sr:iT[14]?=some tI:=by kernel_rfl
theorem Fo:tH.op=.indexAddr 142 (.tmp 4) (.tmp 5)/\tH.dst=some 18/\tH.guard=none:=⟨by kernel_rfl,by kernel_rfl,by kernel_rfl⟩
theorem Fp:tI.op=.store 4 (.tmp 18) (.tmp 17)/\tI.dst=none/\tI.guard=none:=⟨by kernel_rfl,by kernel_rfl,by kernel_rfl⟩
theorem afW:∀i∈[13,14],∃o,opsV[i]?=some o/\(∃c,o.op=.assign (.const c))/\o.guard=none/\o.dst≠some 17/\o.dst≠some 5:=by
 intro i aX;simp only[List.mem_cons,List.not_mem_nil,or_false]at aX;rcases aX with rfl|rfl
 ·refine⟨B2 tH,?_,⟨_,rfl⟩,Fo.2.2,by show tH.dst≠_;rw[Fo.2.1];simp,by show tH.dst≠_;rw[Fo.2.1];simp⟩;simp[opsV,Array.getElem?_modify,Sq]
 ·refine⟨B2 tI,?_,⟨_,rfl⟩,Fp.2.2,by show tI.dst≠_;rw[Fp.2.1];simp,by show tI.dst≠_;rw[Fp.2.1];simp⟩;simp[opsV,Array.getElem?_modify,Sr]
theorem Tp:cl.follows .mixedOrders=true:=by kernel_rfl
theorem afX:Tryz.prog.follows .mixedOrders=true:=by kernel_rfl
theorem abQ:(Tryz.prog.funcs[103]?).any (·.norace)=false:=by kernel_rfl
section
variable{Wg C:Nat}{T:Array Value}{b:Bool}{i:Nat}{w:World}
noncomputable def xY(Wg:Nat)(T:Array Value)(todo:List Item):Goroutine:=G ⟨103,T,todo,ko Wg,.run,.deferred,none⟩ [bot]
theorem adv(aJ:T[4]?=some (e6 C))(bm:T[5]?=some (.int .i64 (i:Int)))(aX:i<4):stepG Tryz.prog false (xY Wg T [.inRegion iT [13,14]]) w=.go (xY Wg (T.setIfInBounds 18 (.pointer (some ⟨C,i,none⟩))) [.inRegion iT [14]]) w #[]:=by
 have aE:=Fo;have b8:(⟨T,ko Wg⟩:Act).eval (.tmp 4)=e6 C:=by simp[Act.eval,Array.getD_eq_getD_getElem?,aJ]
 have en:(⟨T,ko Wg⟩:Act).eval (.tmp 5)=.int .i64 (i:Int):=by simp[Act.eval,Array.getD_eq_getD_getElem?,bm]
 have ad:(execOp (⟨T,ko Wg⟩:Act).eval tH).run Tryz.prog w=.ok (.value (.pointer (some ⟨C,i,none⟩))) w:=by
  unfold execOp;simp only[aE.1,b8,en];have hu:=Tryz.underlying142;have aT:(0:Int)<=(i:Int):=by omega
  have U:(i:Int)<4:=by omega
  simp[e6,Instr.indexAt,run_underlying hu,asIntOf,Instr.sureAddr,aT,aX,Addr.add];exact λh=>h.symm
 have he:(execOp (⟨T,ko Wg⟩:Act).eval tH).events Tryz.prog w #[]=#[]:=by
  unfold execOp;simp only[aE.1,b8,en];have hu:=Tryz.underlying142;have aT:(0:Int)<=(i:Int):=by omega
  simp[e6,Instr.indexAt,go_sem,hu,asIntOf,Instr.sureAddr,aT,aX,Addr.add]
 have:=stepG_value (P:=Tryz.prog) (main:=false) (b:=baseD 103) (a:=⟨T,ko Wg⟩) (k:=[]) (cs:=[bot]) (rest:=[14]) Sq (by simp[Region.wanted,aE.2.2]) (by decide) ad;unfold listed at this;rw[he,seen_none]at this;refine Eq.trans this ?_;rw[aE.2.1];rfl
theorem adw(K5:T[18]?=some (.pointer (some ⟨C,i,none⟩)))(K6:T[17]?=some (.bool b)){u:Value}(ah:w.cell? ⟨C,i,none⟩=some u)(bO:w.frozen? ⟨C,i,none⟩=false):
  stepG Tryz.prog false (xY Wg T [.inRegion iT [14]]) w=.go (xY Wg T [.inRegion iT []]) (w.setCell ⟨C,i,none⟩ (.bool b)) #[⟨.cell ⟨C,i,none⟩,true,false⟩]:=by
 have aE:=Fp;have b8:(⟨T,ko Wg⟩:Act).eval (.tmp 18)=.pointer (some ⟨C,i,none⟩):=by simp[Act.eval,Array.getD_eq_getD_getElem?,K5]
 have en:(⟨T,ko Wg⟩:Act).eval (.tmp 17)=.bool b:=by simp[Act.eval,Array.getD_eq_getD_getElem?,K6]
 have hu:=Tryz.underlying4;have ad:(execOp (⟨T,ko Wg⟩:Act).eval tI).run Tryz.prog w=.ok .skip (w.setCell ⟨C,i,none⟩ (.bool b)):=by
  unfold execOp;simp only[aE.1,b8,en];simp[go_sem,stored,ah,bO]
 have he:(execOp (⟨T,ko Wg⟩:Act).eval tI).events Tryz.prog w #[]=#[⟨.cell ⟨C,i,none⟩,true,false⟩]:=by
  unfold execOp;simp only[aE.1,b8,en];simp[go_sem];rw[events_store _ _ _ _ _ _ rfl];simp[storedEv,ah,bO]
 have:=stepG_none (P:=Tryz.prog) (main:=false) (b:=baseD 103) (a:=⟨T,ko Wg⟩) (k:=[]) (cs:=[bot]) (rest:=[]) Sr (by simp[Region.wanted,aE.2.2]) (by decide) ad;unfold listed at this;rw[he,seen_eq (by exact abQ) (by simp)]at this;refine Eq.trans this ?_;rw[aE.2.1];rfl
end
end
section
open Go Go.Conc Go.RowKit
open Go.ConcN (PayAt Has WgLive AtR0 RW cell_of_block)
open Go.ConcN.Gen (doneN)
open Go.ConcR.Gen (body_done)
open Go.ConcR (stA Payload DC0)
abbrev qG:=Frame×List Frame×World
def FV(y x:qG):Prop:=x.2.1≠[]/\∃τ d es,stepG cl true (G x.1 x.2.1) (a8 x.2.2 τ d)=.go (G y.1 y.2.1) y.2.2 es
def oR(a b:Nat×qG):Prop:=(a.1<b.1/\a.1<5)\/(a.1<b.1/\5<=a.1/\(a.2=b.2\/FV a.2 b.2))\/(a.1=b.1/\a.1=5/\FV a.2 b.2)
theorem aah:∀(n:Nat),n<5->∀x:qG,Acc oR (n,x):=by
 intro n;induction n using Nat.strongRecOn with
 |_ n az=>
  intro aI x;refine⟨_,λy aF=>?_⟩;rcases aF with⟨U,ab⟩|⟨U,ab,_⟩|⟨U,ab,_⟩<;>dsimp only at U ab;all_goals grind
theorem abR{x:qG}(h:Acc FV x):∀n,Acc oR (n,x):=by
 induction h with
 |intro x _ T9=>
  intro n;induction n using Nat.strongRecOn with
  |_ n az=>
   refine⟨_,λy aF=>?_⟩;rcases aF with⟨U,ab⟩|⟨U,ab,al⟩|⟨U,ab,al⟩<;>dsimp only at U ab;all_goals grind [aah]
theorem XD{R:Value->World->Prop}{fr:Frame}{cs:List Frame}{w:World}(h:m7 cl (mM R) fr cs w):Acc FV (fr,cs,w):=by
 have:=abH h;generalize(fr,cs,w)=x at this;induction this with
 |intro x _ az=>exact⟨_,λy aF=>az y ⟨λe=>aF.1 (e default 0).1,aF.2⟩⟩
def zg(b:Bool)(i:Nat):Value:=.tuple #[.bool b,.int .i64 (i:Int)]
def Kd(Wg C:Nat)(ae ip pp:Value):Array Value:=#[e6 Wg,ae,ip,pp,e6 C]
noncomputable def Vb(ae ip pp:Value):Frame:=⟨103,LP ae ip pp,[.code (.region 1 opsV true)],[],.run,.normal,none⟩
inductive ku(Wg C:Nat)(bit:Nat->Bool)(i:Nat):Nat×qG->(Nat->Prop)->(Nat->Prop)->Goroutine->World->Prop
 |pre {m:Nat} {B RO M:Nat->Prop} {g:Goroutine} {w V:World} {ae ip pp:Value}:xg Tryz.prog m g (CN Wg C ae ip pp)->m7 cl (mM λv _=>v=zg (bit i) i) (Vb ae ip pp) [dv] V->dN (bH cl fc) (ef M) M V w->cv (bH cl fc) (ef M) (LP ae ip pp) (xX Wg C ae ip pp) ->
   (∀b,M b->RO b)->(∀b,M b->b<w.heap.size)->ku Wg C bit i (6+m,(Vb ae ip pp,[dv],V)) B RO g w
 |walk {B RO ro:Nat->Prop} {ρ:bA} {x:qG} {fr:Frame} {cs:List Frame} {w:World} {ae ip pp:Value}:rO cl Tryz.prog fc ro opsV [13,14] (ko Wg,103,true) bot iT (Kd Wg C ae ip pp) (zg (bit i) i) ρ x (fr,cs) w ->
   (∀a b,ρ a b->B b\/ro b)->(∀b,ro b->RO b)->ku Wg C bit i (5,x) B RO (G fr cs) w
 |p3 {B RO:Nat->Prop} {T:Array Value} {w:World} {x:qG}:T[18]?=some (.pointer (some ⟨C,i,none⟩))->T[17]?=some (.bool (bit i))->ku Wg C bit i (3,x) B RO (xY Wg T [.inRegion iT [14]]) w
 |p2 {B RO:Nat->Prop} {T:Array Value} {w:World} {x:qG}:Has C i (.bool (bit i)) w->ku Wg C bit i (2,x) B RO (xY Wg T [.inRegion iT []]) w
 |gr {B RO:Nat->Prop} {T:Array Value} {w:World} {x:qG}:Has C i (.bool (bit i)) w->ku Wg C bit i (1,x) B RO (xY Wg T []) w
 |qB {B RO:Nat->Prop} {T:Array Value} {w:World} {x:qG}:Has C i (.bool (bit i)) w->ku Wg C bit i (0,x) B RO (G { (⟨103,T,[],ko Wg,.run,.deferred,none⟩:Frame)with mode:=.returning } [bot]) w
section
variable{Wg C:Nat}{bit:Nat->Bool}{i:Nat}
theorem WQ{P:Program}{n:Nat}{g g':Goroutine}(h:xg P n g g')(ad:g'.status=.running):g.status=.running:=by
 cases n with
 |zero=>have:g=g':=h;grind
 |succ n=>exact h.1
theorem ku.keep{s:Nat×qG}{B RO:Nat->Prop}{g:Goroutine}{w fB:World}(h:ku Wg C bit i s B RO g w)(ao:w.heap.size<=fB.heap.size)(hb:∀b,B b\/RO b->fB.heap[b]?=w.heap[b]?)(ah:fB.cell? ⟨C,i,none⟩=w.cell? ⟨C,i,none⟩):ku Wg C bit i s B RO g fB:=by
 cases h with
 |pre U ab al aJ bm bI=>exact .pre U ab (al.keep ao λa b bL=>hb b (.inr (bm b (bL.1▸bL.2)))) aJ bm λb hm=>Nat.lt_of_lt_of_le (bI b hm) ao
 |walk U ab al=>exact .walk (U.keep ao λa b bL=>hb b ((ab a b bL).imp id (al b))) ab al
 |p3 U ab=>exact .p3 U ab
 |p2 h=>exact .p2 (ah.trans h)
 |gr h=>exact .gr (ah.trans h)
 |qB h=>exact .qB (ah.trans h)
theorem Ao{B RO:Nat->Prop}{w:World}:Qm C 4 i B RO w w #[]:=⟨rfl,rfl,Nat.le_refl _,λ_ _ _ _=>rfl,id,λ_ _=>rfl,by simp⟩
theorem adx{σ:bA}{ro B RO:Nat->Prop}{w w':World}{e:Event}(h:ja σ ro e)(xZ:∀a b,σ a b->(B b\/(w.heap.size<=b/\b<w'.heap.size))\/ro b)(dY:∀b,ro b->RO b):EvB (λb=>B b\/(w.heap.size<=b/\b<w'.heap.size)) RO e:=by
 cases h with
 |rd h=>exact .rd ((xZ _ _ h).imp id (dY _))
 |wr h ab=>exact .wr ((xZ _ _ h).resolve_right ab)
 |get h=>exact .get ((xZ _ _ h).imp id (dY _))
 |set h ab=>exact .set ((xZ _ _ h).resolve_right ab)
 |ext=>exact .ext
 |room=>exact .room
theorem abS{p p':Program}{F:FuncId->Bool}{K:ee}{ρ:bA}{Y:List Deferred×FuncId×Bool}{cb:Frame}{f bj:Frame}{cs cs':List Frame}(h:h5 p F p' K ρ Y dv [cb] (f::cs) (bj::cs'))(e:cs'=[cb]):cs=[dv]:=by
 cases h with
 |bot _=>rfl
 |cons _ ab=>
  rw[e]at ab;trivial
theorem WgLive.of_eq{ty:TypeId}{w w':World}(h:WgLive ty Wg w)(e:w'.heap[Wg]?=w.heap[Wg]?):WgLive ty Wg w':=let⟨a,b,c⟩:=h;⟨a,b,e.trans c⟩
theorem aai(T:Array Value):QuitsD Tryz.prog 2 0 (G { (⟨103,T,[],[],.run,.deferred,none⟩:Frame)with mode:=.returning } [bot]):=by
 have aQ:=Tryz.func103;have ad:Tryz.f103.results=#[]:=by kernel_rfl
 refine QuitsD.ctl (g':=G bot []) rfl (λw=>?_) ?_
 ·simp[G,stepG,unwind,doReturn,results,bot,aQ,seen,GStep.after,goexitEntry]
 refine QuitsD.ctl (g':={ G bot []with status:=.finished }) rfl (λw=>?_) ⟨rfl,rfl⟩;simp[G,stepG,unwind,bot,goexitEntry,Frame.catches];rfl
theorem ady(hCW:C≠Wg):lM Tryz.prog Tryz.link.tWg Wg C 4 (λi=>.bool (bit i)) oR (ku Wg C bit):=by
 refine⟨λh=>?_,λh a b c=>h.keep a b c,λ{i s B RO g w} h aX ry qd ahN al1=>?_⟩
 ·cases h with
  |pre U _ _ _ _ _=>exact WQ U rfl
  |_=>rfl
 cases h with
 |@pre m B RO M g w V ae ip pp U ab al aJ bm bI=>
  cases m with
  |zero=>
   have e:g=CN Wg C ae ip pp:=U;subst e;obtain⟨s,g2,d,k1,k2,τ,e,es,bP⟩:=Xx (p:=cl) (p':=Tryz.prog) (F:=fc) (ro:=M) (ops:=opsV) (ops':=iT) (k:=13) (Y:=(ko Wg,103,true)) (cb:=bot) (A:=Kd Wg C ae ip pp) (v0:=zg (bit i) i) (afX.trans Tp.symm) Tp abJ abO aex rfl (tr:=xX Wg C ae ip pp) (λr ad=>by
    have:r<5:=ad
    match r,this with
    |0,_=>rfl
    |1,_=>rfl
    |2,_=>rfl
    |3,_=>rfl
    |4,_=>rfl) (by show 19<=19;omega) ab al (λb hb e3=>absurd (bI b e3) (by omega)) aJ
   exact⟨_,_,_,k1,⟨rfl,rfl,Nat.le_refl _,λ_ _ _ _=>rfl,id,λ_ _=>rfl,by simp⟩,.inl ⟨(5,s),.inr (.inl ⟨by simp,Nat.le_refl _,.inr ⟨by simp,τ,e,es,bP⟩⟩),.walk k2 (λa b bL=>.inr (bL.1▸bL.2)) bm⟩⟩
  |succ m=>
   obtain⟨ad,g1,ao,k⟩:=U;refine⟨g1,w,#[],ao w,Ao,.inl ⟨(6+m,_),.inr (.inl ⟨by grind,by grind,.inl rfl⟩),.pre k ab al aJ bm bI⟩⟩
 |@walk B RO ro ρ x fr cs w ae ip pp U ab al=>
  by_cases Ss:x.2.1=[dv]/\¬uU vr opsV [13,14] x.1
  ·obtain⟨ao,KU⟩:=Ss;obtain⟨k1,⟨CO,hF,⟨Gz,Va,ajj,ajk⟩,_⟩,bP,cX,fi,tW⟩:=YM U ao KU O9 (r:=17) (r2:=5) rfl afW;obtain⟨fn,T,todo,defers,mode,kind,round⟩:=fr;subst k1 CO hF Gz Va bP cX;have t4:T[4]?=some (e6 C):=ajk 4 (by show 4<5;omega);have bX:19<=T.size:=ajj;have get:∀r v,x.1.tmps.getD r undef=v->v≠undef->x.1.tmps[r]?=some v:=λr v e ai=>by
    rw[Array.getD_eq_getD_getElem?]at e;cases aj:x.1.tmps[r]? with
    |none=>grind
    |some y=>grind
   have Ue:x.1.tmps.getD 17 undef=.bool (bit i)/\x.1.tmps.getD 5 undef=.int .i64 (i:Int):=by grind [zg]
   have t17:T[17]?=some (.bool (bit i)):=by
    rcases tW.get 17 with⟨jh,_⟩|⟨a,b,jh,vK,mP⟩
    ·grind
    ·rw[get 17 _ Ue.1 (by simp[undef])]at jh;cases jh;rw[vK];cases mP;rfl
   have t5:T[5]?=some (.int .i64 (i:Int)):=by
    rcases tW.get 5 with⟨jh,_⟩|⟨a,b,jh,vK,mP⟩
    ·grind
    ·rw[get 5 _ Ue.2 (by simp[undef])]at jh;cases jh;rw[vK];cases mP;rfl
   refine⟨_,w,#[],adv t4 t5 aX,Ao,.inl ⟨(3,x),.inl ⟨by simp,by simp⟩,.p3 ?_ ?_⟩⟩;all_goals grind
  ·have fg:x.2.1=[dv]->uU vr opsV [13,14] x.1:=λe=>Classical.byContradiction λaI=>Ss ⟨e,aI⟩;have kW:cs=[bot]->uU (xx (ko Wg) (Kd Wg C ae ip pp)) iT [13,14] fr:=λe=>by
    have aj:=abS U.st e;obtain⟨_,_,bP,_,_,_,LQ⟩:=U.same aj;obtain⟨_,a,l,ak,aI⟩:=fg aj;exact⟨bP,a,l,LQ _ ak,aI⟩
   obtain⟨s',σ,g',bF,es,k1,k2,bP,cX,fi,_⟩:=YJ Ti Sn aey U (λa o d h aV=>afV a o d h aV) fg kW;have gX:∀a b,σ a b->b<bF.heap.size:=λa b bL=>by
    obtain⟨_,_,_,k,_⟩:=bP.wr.obj _ _ bL;exact(Array.getElem?_eq_some_iff.1 k).1
   have xZ:∀a b,σ a b->(B b\/(w.heap.size<=b/\b<bF.heap.size))\/ro b:=λa b bL=>by
    rcases cX.new a b bL with h|h
    ·exact(ab a b h).imp .inl id
    ·exact .inl (.inr ⟨h,gX a b bL⟩)
   have lV:∀b,b<w.heap.size->¬B b->bF.heap[b]?=w.heap[b]?:=λb hb dH=>by
    refine cX.keep b hb ?_;by_cases hex:∃a,ρ a b
    ·obtain⟨a,au⟩:=hex;exact .inr ((ab a b au).resolve_left dH)
    ·exact .inl λa au=>hex ⟨a,au⟩
   have FQ:C<w.heap.size:=by obtain⟨_,y,_⟩:=ry;exact(Array.getElem?_eq_some_iff.1 y).1
   have hC:=lV C FQ ahN;refine⟨_,bF,es,k1,⟨cX.os,cX.out,cX.size,λb hb dH _=>lV b hb dH,λ⟨c,y,z⟩=>⟨c,hC.trans y,z⟩,λcm _=>cell_of_block hC cm,λe he=>.inl (adx (fi e he) xZ al)⟩,.inl ⟨(5,s'),.inr (.inr ⟨rfl,rfl,?_,k2.2⟩),.walk bP xZ al⟩⟩;intro e;have hb:=U.bi;dsimp only at hb e;rw[e]at hb;exact hb
 |@p3 B RO T w x K5 K6=>
  obtain⟨c,ah,aI⟩:=ry;have mX:w.cell? ⟨C,i,none⟩=some (c[i]'(by omega)):=by
   have:i<c.size:=by omega
   simp[World.cell?,ah,this]
  have bO:w.frozen? ⟨C,i,none⟩=false:=by simp[World.frozen?,ah]
  have hb:(w.setCell ⟨C,i,none⟩ (.bool (bit i))).heap[C]?=some (.cells (c.setIfInBounds i (.bool (bit i))) Payload.ety):=by simp[World.setCell,Array.getElem?_modify,ah]
  have aW:=aside_setCell w ⟨C,i,none⟩ (.bool (bit i));refine⟨_,_,_,adw K5 K6 mX bO,⟨aW.os,aW.output,Nat.le_of_eq aW.size.symm,λb _ _ hb=>aW.block b hb,λ_=>⟨_,hb,by simpa using aI⟩,λcm e1=>?_,λe he=>.inr ⟨true,by simpa using he⟩⟩,.inl ⟨(2,x),.inl ⟨by simp,by simp⟩,.p2 ?_⟩⟩
  ·simp[World.cell?,hb,ah,Array.getElem?_setIfInBounds_ne (Ne.symm e1)]
  ·have:i<c.size:=by omega
   simp[Has,World.cell?,hb,this]
 |@p2 B RO T w x bq=>exact⟨_,w,#[],stepG_region_end (b:=baseD 103) (a:=⟨T,ko Wg⟩) (k:=[]),Ao,.inl ⟨(1,x),.inl ⟨by simp,by simp⟩,.gr bq⟩⟩
 |@gr B RO T w x bq=>exact⟨_,w,#[],stepG_end (b:=baseD 103) (a:=⟨T,ko Wg⟩),Ao,.inl ⟨(0,x),.inl ⟨by simp,by simp⟩,.qB bq⟩⟩
 |@qB B RO T w x bq=>
  have H:=Tryz.JG;have ao:=stepG_unwind_enter (P:=Tryz.prog) (main:=false) (w:=w) (b:=baseD 103) (a:=⟨T,ko Wg⟩) (todo:=[]) (ds:=[]) (cs:=[bot]) (f:=Tryz.link.done) (args:=#[e6 Wg]) rfl H.f_done (Go.ConcR.Gen.nm_done Tryz.link) (c:=body_done Tryz.link) rfl;have aV:=@doneN _ Tryz.link Tryz.prog H Go.Proofs.YtlminnpaeaganaaGreat.u7 Go.Proofs.YtlminnpaeaganaaGreat.u7 Wg C 4 0 (i+1) (.bool (bit i)) { (⟨103,T,[],[],.run,.deferred,none⟩:Frame)with mode:=.returning } [bot] 2 rfl (aai T) w ⟨qd,bq⟩;obtain⟨hF,hw⟩:=YN (c:={ (⟨103,T,[],[],.run,.deferred,none⟩:Frame)with mode:=.returning }) (cs:=[bot]) (Wg:=Wg) H;exact⟨_,w,#[],ao,Ao,.inr ⟨_,.r0 (XA aV qd hF hw)⟩⟩
end
end
section
open Go Go.Conc Go.ConcN Go.RowKit Go.Conc.Lib Go.ConcR.Gen Go.ConcN.Gen
open Go.ConcR (KK wgBlock WgAt stA smA rd wr mk DC0 Payload)
section
variable[Payload]{P:Program}{ty:TypeId}{Wg C n:Nat}{σ:Type}{lt:σ->σ->Prop}{b5:Nat->σ->(Nat->Prop)->(Nat->Prop)->Goroutine->World->Prop}{Fin:Nat->(Nat->Prop)->(World->Prop)->Goroutine->Prop}
 {tag:CTag} {c j d R:Nat} {bM:Nat->Prop} {A:World->Prop} {g g1:Goroutine} {Stop:Goroutine->World->Prop}
theorem uV(ty:TypeId)(Wg:Nat):∃w:World,WgLive ty Wg w:=
 ⟨{ (default:World)with heap:=Array.replicate (Wg+1) (wgBlock ty 0 0) },0,0,by show(Array.replicate (Wg+1) (wgBlock ty 0 0))[Wg]?=_;simp⟩
theorem aaj(aW:fL bM A){f:Nat}(aq:∀g1,(∀w,WgLive ty Wg w->Stop g1 w)->(dn P ty Wg C n lt b5 Fin) f tag c j d bM R A g1):∀(m:Nat)(g:Goroutine),(∀w,WgLive ty Wg w->Goes P true (KX ty Wg) DC0 Stop m g w)->(dn P ty Wg C n lt b5 Fin) (f+m) tag c j d bM R A g:=by
 intro m;induction m with
 |zero=>exact λg h=>aq g λw hw=>h w hw w hw
 |succ m az=>
  intro g h;obtain⟨c9,gl⟩:=uV ty Wg;rcases h c9 gl with aT|⟨ad,aT⟩
  ·exact dn.le _ _ _ _ _ _ _ _ (by omega) (aq g aT)
  ·refine⟨ad,aW,.inr (.inl λw hw=>?_)⟩;have U:=aT w hw;obtain⟨g',w',es,aN,⟨rfl,rfl⟩,aI⟩:=goes_elim U;exact⟨g',aN,az g' λw2 kW=>Goes.rely (λ_ _ _ _ x=>x) aI kW⟩
theorem mn(aW:fL bM A){f bj:Nat}(hle:f+200<=bj)(h:jb P ty Wg Stop g)(aq:∀g1,(∀w,WgLive ty Wg w->Stop g1 w)->(dn P ty Wg C n lt b5 Fin) f tag c j d bM R A g1):(dn P ty Wg C n lt b5 Fin) bj tag c j d bM R A g:=dn.le _ _ _ _ _ _ _ _ hle (aaj aW aq 200 g h)
theorem adz(aW:fL bM A)(h:jb P ty Wg (λg _=>g=g1) g){f bj:Nat}(hle:f+200<=bj)(aq:(dn P ty Wg C n lt b5 Fin) f tag c j d bM R A g1):(dn P ty Wg C n lt b5 Fin) bj tag c j d bM R A g:=by
 obtain⟨c9,gl⟩:=uV ty Wg;exact mn aW hle h λg2 ab=>(ab c9 gl)▸aq
theorem yw(aW:fL bM A){e:Mark}(he:e=.disable\/e=.enable\/e=.read (smA Wg)\/e=.write (smA Wg)){f bj:Nat}(hle:f+1<=bj)(h:∀w,WgLive ty Wg w->wT P ty Wg e Stop g w)(aq:∀g1,jb P ty Wg Stop g1->(dn P ty Wg C n lt b5 Fin) f tag c j (deafBehind d #[mk e]) bM R A g1):(dn P ty Wg C n lt b5 Fin) bj tag c j d bM R A g:=by
 obtain⟨c9,gl⟩:=uV ty Wg;refine dn.le _ _ _ _ _ _ _ _ hle (f:=f+1) ⟨(h c9 gl).1,aW,.inr (.inr (.inl ⟨e,he,λw hw=>?_⟩))⟩;obtain⟨_,g',aN,aI⟩:=h w hw;exact⟨g',aN,aq g' aI⟩
section
variable{L:WgLink}{nz:Frame}{nA:Act}{jV:Array Oper}{nB:Nat}{m1:List Nat}{nC:List Item}{cs:List Frame}
theorem Pe(aW:fL bM A){f bj:Nat}(hle:f+401<=bj){tag:CTag}{g:Goroutine}(aq:(dn P L.tWg Wg C n lt b5 Fin) f tag c j 0 bM R A g1)(h:jb P L.tWg Wg (wT P L.tWg Wg .enable λg _=>g=g1) g):(dn P L.tWg Wg C n lt b5 Fin) bj tag c j 1 bM R A g:=
 mn aW (f:=f+201) (by omega) h λg2 ab=>yw aW (f:=f+200) (.inr (.inl rfl)) (by omega) ab λg3 al=>adz aW al (by omega) aq
theorem abT(H:WgLib P L)(aW:fL bM A)(ah:c<2147483646){f bj:Nat}(hle:f+1010<=bj)(aq:(dn P L.tWg Wg C n lt b5 Fin) f (.sp 0 3) (c+1) j 0 bM R A (G (nz.at (nA.put ((jV[nB]?).bind (·.dst)) (.tuple #[])) (.inRegion jV m1::nC)) cs)){g:Goroutine}
  (h:jb P L.tWg Wg (wT P L.tWg Wg .disable (Tg P L.tWg Wg λg _=>g=G (nz.at (nA.put ((jV[nB]?).bind (·.dst)) (.tuple #[])) (.inRegion jV m1::nC)) cs)) g):(dn P L.tWg Wg C n lt b5 Fin) bj .anch c j 0 bM R A g:=by
 obtain⟨f1,aK⟩:∃f1,f1=f+602:=⟨_,rfl⟩;refine mn (f:=f1+1+200+1) aW (by omega) h λg2 ab=>yw (f:=f1+1+200) aW (.inl rfl) (by omega) ab λg3 al=>mn (f:=f1+1) aW (by omega) al λg4 aJ=>?_;obtain⟨c9,gl⟩:=uV L.tWg Wg;refine⟨(aJ c9 gl).1,aW,.inr (.inr (.inr (.inl ⟨rfl,ah,λw v ai hw=>?_⟩)))⟩;obtain⟨g',aN,ms,Ca,aI⟩:=(aJ w ⟨_,_,hw⟩).2 v (by omega) hw;refine⟨g',aN,?_⟩;rcases Ca with rfl|rfl
 ·exact Pe aW (by omega) aq aI
 ·exact mn (f:=f+402) aW (by omega) aI λg5 bm=>yw (f:=f+401) aW (.inr (.inr (.inl rfl))) (by omega) bm λg6 bI=>Pe aW (by omega) aq bI
theorem Qo(aW:fL bM A){iO:Goroutine->World->Prop}(iJ:∀g,jb P L.tWg Wg iO g->Fin j bM A g){c bj:Nat}(hle:402<=bj){g:Goroutine}(h:jb P L.tWg Wg (yS P L.tWg Wg [.enable,.acquire (stA Wg)] iO) g):(dn P L.tWg Wg C n lt b5 Fin) bj .w4 c j 1 bM R A g:=by
 refine mn (f:=202) aW hle h λg2 ab=>yw (f:=201) aW (.inr (.inl rfl)) (by omega) ab λg3 al=>mn (f:=1) aW (by omega) al λg4 aJ=>?_;obtain⟨c9,gl⟩:=uV L.tWg Wg;refine⟨(aJ c9 gl).1,aW,.inr (.inr (.inr (.inr (.inr (.inr (.inr (.inr (.inr ⟨rfl,rfl,λw hw=>?_⟩))))))))⟩;obtain⟨_,g',aN,aI⟩:=aJ w hw;exact⟨g',aN,iJ g' aI⟩
theorem Qp(aW:fL bM A){iO:Goroutine->World->Prop}(iJ:∀g,jb P L.tWg Wg iO g->Fin j bM A g){c bj:Nat}(hle:604<=bj){g:Goroutine}(aJ:∀w,WgLive L.tWg Wg w->T6 P L.tWg Wg iO g w):(dn P L.tWg Wg C n lt b5 Fin) bj .w3 c j 1 bM R A g:=by
 obtain⟨c9,gl⟩:=uV L.tWg Wg;obtain⟨f1,rfl⟩:∃f1,bj=f1+1:=⟨bj-1,by omega⟩;refine⟨(aJ c9 gl).1,aW,.inr (.inr (.inr (.inr (.inr (.inr (.inr (.inl ⟨rfl,(aJ c9 gl).2.1,λw=>⟨λ⟨st,hw⟩=>(aJ w ⟨_,_,hw⟩).2.2.1 ⟨st,hw⟩,λhw=>?_⟩⟩)))))))⟩;obtain⟨g',aN,aI⟩:=(aJ w ⟨_,_,hw⟩).2.2.2 hw;obtain⟨f2,aO⟩:∃f2,f2=402:=⟨_,rfl⟩;refine⟨g',aN,mn (f:=f2+1) aW (by omega) aI λg5 bm=>⟨(bm c9 gl).1,aW,.inr (.inr (.inr (.inr (.inr (.inr (.inr (.inr (.inl ⟨rfl,λw2 kW=>?_⟩))))))))⟩⟩;obtain⟨g6,ahO,ahP⟩:=(bm w2 ⟨_,_,kW⟩).2 kW;exact⟨g6,ahO,Qo aW iJ (by omega) ahP⟩
theorem aak(H:WgLib P L)(aW:fL bM A)(iJ:∀g,jb P L.tWg Wg (λg _=>g=G (nz.at (nA.put ((jV[nB]?).bind (·.dst)) (.tuple #[])) (.inRegion jV m1::nC)) cs) g->Fin j bM A g):∀(c:Nat),c<2147483646->∀(bj:Nat),(c+1)*2000<=bj->∀g w,Be L Wg (nz.at nA (.inRegion jV (nB::m1)::nC)) cs g w->(dn P L.tWg Wg C n lt b5 Fin) bj .anch c j 1 bM R A g:=by
 intro c;induction c using Nat.strongRecOn with
 |_ c az=>
  intro ah bj aQ g w au;obtain⟨c9,gl⟩:=uV L.tWg Wg;obtain⟨f1,aK⟩:∃f1,f1=c*2000+1700:=⟨_,rfl⟩;refine mn (f:=f1+1) aW (by omega) (Xz H au) λg2 ab=>?_;refine⟨(ab c9 gl).1,aW,.inr (.inr (.inr (.inr (.inr (.inl ⟨rfl,λw v ai hw=>?_⟩)))))⟩;obtain⟨g',aN,k1,k2⟩:=(ab w ⟨_,_,hw⟩).2 v (by omega) hw;refine⟨g',aN,λe=>Qo aW iJ (by omega) (k1 e),λe=>?_⟩;obtain⟨f2,aO⟩:∃f2,f2=c*2000+1400:=⟨_,rfl⟩;refine mn (f:=f2+1) aW (by omega) (k2 e) λg3 al=>?_;refine⟨(al c9 gl).1,aW,.inr (.inr (.inr (.inr (.inr (.inr (.inl ⟨v,e,rfl,λw2 v2 gm kW=>?_⟩))))))⟩;obtain⟨CO,hF⟩:=(al w2 ⟨_,_,kW⟩).2 v2 (by omega) kW;refine⟨λaO=>?_,λaO=>?_⟩
  ·obtain⟨g4,K7,ms,Ca,aI⟩:=CO aO;refine⟨g4,K7,?_⟩;rcases Ca with rfl|rfl
   ·exact mn (f:=604) aW (by omega) aI λg5 bm=>Qp aW iJ (by omega) bm
   ·exact mn (f:=805) aW (by omega) aI λg5 bm=>yw (f:=804) aW (.inr (.inr (.inr rfl))) (by omega) bm λg6 bI=>mn (f:=604) aW (by omega) bI λg7 cS=>Qp aW iJ (by omega) cS
  ·obtain⟨g4,K7,aI⟩:=hF aO;have aU:v2<c:=by omega
   obtain⟨f3,bS⟩:∃f3,f3=(v2+1)*2000:=⟨_,rfl⟩;exact⟨g4,K7,mn (f:=f3) aW (by omega) aI λg5 bm=>az v2 aU (by omega) f3 (Nat.le_of_eq bS.symm) g5 c9 (bm c9 gl)⟩
theorem aal(H:WgLib P L)(aW:fL bM A)(iJ:∀g,jb P L.tWg Wg (λg _=>g=G (nz.at (nA.put ((jV[nB]?).bind (·.dst)) (.tuple #[])) (.inRegion jV m1::nC)) cs) g->Fin j bM A g)(ah:c<2147483646){bj:Nat}(hle:(c+1)*2000+401<=bj){g:Goroutine}
  (h:jb P L.tWg Wg (wT P L.tWg Wg .disable (Be L Wg (nz.at nA (.inRegion jV (nB::m1)::nC)) cs)) g):(dn P L.tWg Wg C n lt b5 Fin) bj .anch c j 0 bM R A g:=by
 obtain⟨c9,gl⟩:=uV L.tWg Wg;obtain⟨f1,aK⟩:∃f1,f1=(c+1)*2000:=⟨_,rfl⟩;exact mn (f:=f1+201) aW (by omega) h λg2 ab=>yw (f:=f1+200) aW (.inl rfl) (by omega) ab λg3 al=>mn (f:=f1) aW (by omega) al λg4 aJ=>aak H aW iJ c ah f1 (Nat.le_of_eq aK.symm) g4 c9 (aJ c9 gl)
end
end
end
end Go.Proofs.YtlminnpaeaganaaGreat
