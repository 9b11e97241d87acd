/- Part of the proof of RuleBeside. No condition. -/
import Derived.Test.YtlminnpaeaganaaGreatProg
import Derived.Conc.WgGenN3
import Derived.ProofKit
import Derived.Test.YtlminnpaeaganaaGreatMBesideAJ
import Derived.Test.YtlminnpaeaganaaGreatMBesideAM
namespace Go.Proofs.YtlminnpaeaganaaGreat
set_option maxRecDepth 100000
set_option linter.all false
section
open Go Go.Conc
open Go.ConcN (CTag WD Vc Ssum Fsum sumTo upd sumTo_upd sumTo_upd_out sumTo_congr upd_ne upd_same cnt pend PayAt Has WgLive RelBy Apart CT Ok0 OkW RW get_map_set get_map_set_same cell_of_block isOpen isW3 isFin OpenSt AllQuit allQuit_of Vc_upd Vc_le)
open Go.ConcR (KK WgAt stA smA rd wr mk Payload Bk g_of_ofEvents ofEvent_mk)
def fL(bM:Nat->Prop)(A:World->Prop):Prop:=∀w fB:World,A w->w.heap.size<=fB.heap.size->(∀b,bM b->fB.heap[b]?=w.heap[b]?)->A fB
structure B9(bM:Nat->Prop)(R:Nat)(w w':World)(es:Array Event):Prop where
 os:w'.os=w.os
 out:w'.output=w.output
 size:w.heap.size<=w'.heap.size
 blk:∀b,b<w.heap.size->¬(bM b/\R<=b)->w'.heap[b]?=w.heap[b]?
 ay:∀e∈es,EvB (λb=>(bM b/\R<=b)\/(w.heap.size<=b/\b<w'.heap.size)) bM e
section
variable[Payload](P:Program)(ty:TypeId)(Wg C n:Nat){σ:Type}(lt:σ->σ->Prop)(b5:Nat->σ->(Nat->Prop)->(Nat->Prop)->Goroutine->World->Prop)(Fin:Nat->(Nat->Prop)->(World->Prop)->Goroutine->Prop)
def dn:Nat->CTag->Nat->Nat->Nat->(Nat->Prop)->Nat->(World->Prop)->Goroutine->Prop
 |0,_,_,_,_,_,_,_,_=>False
 |f+1,tag,c,j,d,bM,R,A,g=>g.status=.running/\fL bM A /\
  ((tag=.anch/\∀w,A w->(∀b,bM b->b<w.heap.size)->R<=w.heap.size->∃g' w' es iQ,stepG P true g w=.go g' w' es/\B9 bM R w w' es/\iQ w'/\dn f tag c j d (λb=>bM b\/(w.heap.size<=b/\b<w'.heap.size)) R iQ g') \/
   (∀w,WgLive ty Wg w->∃g',stepG P true g w=.go g' w #[]/\dn f tag c j d bM R A g') \/
   (∃e,(e=.disable\/e=.enable\/e=.read (smA Wg)\/e=.write (smA Wg))/\∀w,WgLive ty Wg w->∃g',stepG P true g w=.go g' w #[mk e]/\dn f tag c j (deafBehind d #[mk e]) bM R A g') \/
   (tag=.anch/\c<2147483646/\∀w v,v<=c->WgAt ty Wg w ((v:Nat)*KK) 0->∃g',stepG P true g w=.go g' (w.setCell (stA Wg) (.int .u64 (((v:Nat)+1)*KK))) #[rd (stA Wg),wr (stA Wg)]/\dn f (.sp 0 3) (c+1) j d bM R A g') \/
   (tag=.sp 0 3/\d=0/\j<n/\∀w,A w->PayAt C n w->WgLive ty Wg w->(∀b,bM b->b<w.heap.size)->∃g' child s,stepG P true g w=.spawn g' child w #[]/\b5 j s (λ_=>False) bM child w/\Acc lt s/\dn f .anch c (j+1) 0 bM w.heap.size A g') \/
   (tag=.anch/\∀w v,v<=c->WgAt ty Wg w ((v:Nat)*KK) 0->∃g',stepG P true g w=.go g' w #[rd (stA Wg)]/\(v=0->dn f .w4 0 j d bM R A g')/\(v≠0->dn f .anch v j d bM R A g')) \/
   (∃af,af≠0/\tag=.anch/\∀w v,v<=c->WgAt ty Wg w ((v:Nat)*KK) 0->(v=af->∃g',stepG P true g w=.go g' (w.setCell (stA Wg) (.int .u64 ((v:Nat)*KK+1))) #[rd (stA Wg),wr (stA Wg)]/\dn f .w3 v j d bM R A g')/\(v≠af->∃g',stepG P true g w=.go g' w #[rd (stA Wg)]/\dn f .anch v j d bM R A g')) \/
   (tag=.w3/\g.offers=none/\∀w,((∃st,WgAt ty Wg w st 0)->stepG P true g w=.go { g with status:=.blocked } w #[])/\(WgAt ty Wg w 0 1->∃g',stepG P true g w=.go g' (w.setCell (smA Wg) (.int .u32 0)) (semEvents (smA Wg))/\dn f .w4 0 j d bM R A g')) \/
   (tag=.w4/\∀w,WgAt ty Wg w 0 0->∃g',stepG P true g w=.go g' w #[rd (stA Wg)]/\dn f .w4 0 j d bM R A g') \/
   (tag=.w4/\d=0/\∀w,WgLive ty Wg w->∃g',stepG P true g w=.go g' w #[mk (.acquire (stA Wg))]/\Fin j bM A g'))
theorem dn.more{f:Nat}:∀{tag:CTag}{c j d:Nat}{bM:Nat->Prop}{R:Nat}{A:World->Prop}{g:Goroutine},dn P ty Wg C n lt b5 Fin f tag c j d bM R A g->dn P ty Wg C n lt b5 Fin (f+1) tag c j d bM R A g:=by
 induction f with
 |zero=>exact λh=>h.elim
 |succ f az=>
  intro tag c j d bM R A g h;obtain⟨U,ab,h⟩:=h;refine⟨U,ab,?_⟩;rcases h with⟨al,h⟩|h|⟨e,al,h⟩|⟨al,aJ,h⟩|⟨al,aJ,bm,h⟩|⟨al,h⟩|⟨af,al,aJ,h⟩|⟨al,aJ,h⟩|⟨al,h⟩|h
  ·exact .inl ⟨al,λw a b c=>let⟨g',w',es,iQ,k1,bf,bP,cX⟩:=h w a b c;⟨g',w',es,iQ,k1,bf,bP,az cX⟩⟩
  ·exact .inr (.inl λw a=>let⟨g',k1,bf⟩:=h w a;⟨g',k1,az bf⟩)
  ·exact .inr (.inr (.inl ⟨e,al,λw a=>let⟨g',k1,bf⟩:=h w a;⟨g',k1,az bf⟩⟩))
  ·exact .inr (.inr (.inr (.inl ⟨al,aJ,λw v a b=>let⟨g',k1,bf⟩:=h w v a b;⟨g',k1,az bf⟩⟩)))
  ·exact .inr (.inr (.inr (.inr (.inl ⟨al,aJ,bm,λw a b c d=>let⟨g',x,s,k1,bf,bP,cX⟩:=h w a b c d;⟨g',x,s,k1,bf,bP,az cX⟩⟩))))
  ·exact .inr (.inr (.inr (.inr (.inr (.inl ⟨al,λw v a b=>let⟨g',k1,bf,bP⟩:=h w v a b;⟨g',k1,λe=>az (bf e),λe=>az (bP e)⟩⟩)))))
  ·exact .inr (.inr (.inr (.inr (.inr (.inr (.inl ⟨af,al,aJ,λw v a b=>let⟨k1,bf⟩:=h w v a b;⟨λe=>let⟨g',bP,cX⟩:=k1 e;⟨g',bP,az cX⟩,λe=>let⟨g',bP,cX⟩:=bf e;⟨g',bP,az cX⟩⟩⟩))))))
  ·exact .inr (.inr (.inr (.inr (.inr (.inr (.inr (.inl ⟨al,aJ,λw=>let⟨k1,bf⟩:=h w;⟨k1,λe=>let⟨g',bP,cX⟩:=bf e;⟨g',bP,az cX⟩⟩⟩)))))))
  ·exact .inr (.inr (.inr (.inr (.inr (.inr (.inr (.inr (.inl ⟨al,λw a=>let⟨g',k1,bf⟩:=h w a;⟨g',k1,az bf⟩⟩))))))))
  ·exact .inr (.inr (.inr (.inr (.inr (.inr (.inr (.inr (.inr h))))))))
theorem dn.le{f bj:Nat}(h:f<=bj){tag:CTag}{c j d:Nat}{bM:Nat->Prop}{R:Nat}{A:World->Prop}{g:Goroutine}(k:dn P ty Wg C n lt b5 Fin f tag c j d bM R A g):dn P ty Wg C n lt b5 Fin bj tag c j d bM R A g:=by
 induction h with
 |refl=>exact k
 |step _ az=>exact az.more
variable(val ini:Nat->Value)(S:Nat->Prop)(j0:Nat)(Wp:World)
structure jH(tag bt:CTag)(c j d:Nat)(bM:Nat->Prop)(R:Nat)(A:World->Prop)(g0 a:Goroutine)(D:Nat->WD)(V:Nat->Option σ)(cf:Nat->Nat)(RO:Nat->Nat->Prop)(gs:Array Goroutine)(w:World)(t:Trace)(q:Nat->Nat)(st gi:Int):Prop where
 dU:jf P ty Wg C n val ini b5 S j0 Wp j D V cf RO gs w t q d
 a0:gs[0]?=some a
 zC:(a=g0/\bt=tag)\/(a={ g0 with status:=.blocked }/\tag=.w3/\bt=.blk)
 off:a≠g0->g0.offers=none
 run:g0.status=.running
 wg:WgAt ty Wg w st gi
 md:ConcN.Mode j D bt st gi
 cb:Vc j D+pend tag<=c
 qF:A w
 ck:∀b,bM b->b<w.heap.size/\cf b=0/\b≠Wg/\b≠C/\¬S b
 vw:∀i b,RO i b->b<R
 dV:Wp.heap.size<=R
 rw:R<=w.heap.size
 acc:∀i,i<j->Acc (oQ lt) (V i)
structure Over(j:Nat)(bM:Nat->Prop)(A:World->Prop)(g:Goroutine)(gs:Array Goroutine)(w:World)(t:Trace)(q:Nat->Nat):Prop where
 a0:gs[0]?=some g
 ey:Leavers P t gs q
 pa:kM (λb=>S b\/b=Wg) w.heap.size t
 k4:∀op∈t,op.g<gs.size
 has:∀i,i<j->Has C i (val i) w
 pay:PayAt C n w
 rest:∀i,j<=i->i<n->w.cell? ⟨C,i,none⟩=some (ini i)
 live:WgLive ty Wg w
 qF:A w
 ck:∀b,bM b->b<w.heap.size/\b≠Wg/\b≠C/\¬S b
 hR:Wp.heap.size<=w.heap.size
 base:∀b,b<Wp.heap.size->b≠Wg->b≠C->w.heap[b]?=Wp.heap[b]?
 os:w.os=Wp.os
 out:w.output=Wp.output
end
section
variable[Payload]{P:Program}{ty:TypeId}{Wg C n:Nat}{val ini:Nat->Value}{σ:Type}{lt:σ->σ->Prop}{b5:Nat->σ->(Nat->Prop)->(Nat->Prop)->Goroutine->World->Prop}{Fin:Nat->(Nat->Prop)->(World->Prop)->Goroutine->Prop}{S:Nat->Prop}{j0:Nat}{Wp:World}
 {tag bt:CTag} {c j d:Nat} {bM:Nat->Prop} {R:Nat} {A:World->Prop} {g0 a:Goroutine} {D:Nat->WD} {V:Nat->Option σ} {cf:Nat->Nat} {RO:Nat->Nat->Prop} {gs:Array Goroutine} {w:World} {t:Trace} {q:Nat->Nat} {st gi:Int}
theorem jH.at(hW:lM P ty Wg C n val lt b5)(bh:fL bM A)(h:(jH P ty Wg C n lt b5 val ini S j0 Wp) tag bt c j d bM R A g0 a D V cf RO gs w t q st gi)(x:Nat):(jH P ty Wg C n lt b5 val ini S j0 Wp) tag bt c j d bM R A g0 a D V cf RO gs (w.at x) t q st gi:=
 ⟨h.dU.at hW x,h.a0,h.zC,h.off,h.run,h.wg,h.md,h.cb,bh w _ h.qF (Nat.le_refl _) (λ_ _=>rfl),h.ck,h.vw,h.dV,h.rw,h.acc⟩
theorem Oj{g g':Goroutine}{w':World}(rP:g0.status=.running)(ar:a≠g0->g0.offers=none)(h:(a=g0/\bt=tag)\/(a={ g0 with status:=.blocked }/\tag=.w3/\bt=.blk)):
  ∃jy,((woken P g g' w' a=g0/\jy=tag)\/(woken P g g' w' a={ g0 with status:=.blocked }/\tag=.w3/\jy=.blk))/\(jy=bt\/(bt=.blk/\jy=.w3))/\(mayWake P g=true->g'.status=.running->tag≠.blk->jy≠.blk):=by
 rcases h with⟨rfl,rfl⟩|⟨rfl,rfl,rfl⟩
 ·exact⟨bt,.inl ⟨woken_run rP,rfl⟩,.inl rfl,λ_ _ h=>h⟩
 ·unfold Go.Conc.woken;split
  ·have bU:({ g0 with status:=.blocked }:Goroutine)≠g0:=λe=>by have:=congrArg Goroutine.status e;rw[rP]at this;cases this
   exact⟨.w3,.inl ⟨Go.ConcR.again_blocked rP (ar bU) w',rfl⟩,.inr ⟨rfl,rfl⟩,λ_ _ _=>by simp⟩
  ·rename_i ah;exact⟨.blk,.inr ⟨rfl,rfl,rfl⟩,.inl rfl,λU ab=>absurd (by simp[U,ab]) ah⟩
theorem jH.abK(hW:lM P ty Wg C n val lt b5)(h:(jH P ty Wg C n lt b5 val ini S j0 Wp) tag bt c j d bM R A g0 a D V cf RO gs w t q st gi):∃(i:Nat)(g:Goroutine),gs[i]?=some g/\g.status=.running:=by
 have wr:∀i,i<j->(D i).stage≠1->∃(i:Nat)(g:Goroutine),gs[i]?=some g/\g.status=.running:=λi hi ao=>by
  obtain⟨g,aN,vb⟩:=h.dU.wk i hi;refine⟨_,g,aN,?_⟩;generalize D i=x at ao vb;generalize V i=y at vb;cases vb with
  |own h=>exact hW.run h
  |lu h=>exact h.running_of ao
 rcases h.zC with⟨rfl,_⟩|⟨rfl,rfl,rfl⟩
 ·exact⟨0,a,h.a0,h.run⟩
 ·cases h.md with
  |opn U _ _=>exact U.elim
  |reg _ _ al=>
   obtain⟨i,hi,bm⟩:=Go.ConcN.exists_counted al;exact wr i hi (by omega)
  |last L _ ab al _=>exact wr L ab (by omega)
  |fin U _=>exact U.elim
theorem jH.awake(hW:lM P ty Wg C n val lt b5)(h:(jH P ty Wg C n lt b5 val ini S j0 Wp) tag bt c j d bM R A g0 a D V cf RO gs w t q st gi):∀g∈gs,awake g:=by
 intro g aN;obtain⟨i,hi⟩:=Array.mem_iff_getElem?.1 aN;have aU:=(Array.getElem?_eq_some_iff.1 hi).1;have bX:=h.dU.size;rcases Nat.eq_zero_or_pos i with rfl|eb
 ·rw[h.a0]at hi;cases hi;rcases h.zC with⟨rfl,_⟩|⟨rfl,_,_⟩
  ·exact awake_of (.inl h.run)
  ·exact awake_of (.inr (.inl rfl))
 ·rcases Nat.lt_or_ge j0 i with aC|aC
  ·obtain⟨x,aj,ao⟩:=h.dU.wk (i-(j0+1)) (by omega);rw[show j0+1+(i-(j0+1))=i by omega,hi]at aj;cases aj;exact awake_of ((ao.status hW).elim .inl λx=>.inr (.inr x))
  ·exact awake_of ((h.dU.old i g eb aC hi).status.elim .inl λx=>.inr (.inr x))
end
end
section
open Go Go.Conc
open Go.ConcN (CTag WD Vc Ssum Fsum sumTo upd sumTo_upd sumTo_upd_out sumTo_congr upd_ne upd_same cnt pend PayAt Has WgLive RelBy Apart CT Ok0 OkW RW get_map_set get_map_set_same cell_of_block isOpen isW3 isFin OpenSt AllQuit allQuit_of Vc_upd Vc_le)
open Go.ConcR (KK WgAt stA smA rd wr mk Payload Bk g_of_ofEvents ofEvent_mk ofEvent_loc_mark ofEvent_cell)
section
variable{S:Nat->Prop}{Wg N k:Nat}{Own Rd:Nat->Loc->Prop}{fn:FuncId}{pos:String}{es:Array Event}
def Fj(Wg:Nat)(e:Event):Prop:=Bk Wg e\/e=mk (.releaseMerge (stA Wg))
def xf(Wg:Nat)(e:Event):Prop:=Bk Wg e\/e=mk (.read (smA Wg))\/e=mk (.write (smA Wg))\/e=mk (.acquire (stA Wg))
theorem Pc{e:Event}(h:Bk Wg e){x:Touch}(aj:(MemAct.ofEvent e).touch?=some x):hP (λb=>S b\/b=Wg) x.loc/\x.kind=.atomic:=by
 rcases h with U|U|⟨a,wr,rfl,au⟩
 ·rw[ofEvent_loc_mark U]at aj;cases aj
 ·rw[ofEvent_loc_mark U]at aj;cases aj
 ·simp[ofEvent_cell,MemAct.touch?]at aj;subst aj;exact⟨⟨a,rfl,.inr au⟩,rfl⟩
theorem Ro{e:Event}(h:Bk Wg e)(hW:Wg<N):(MemAct.ofEvent e).low N:=by
 rcases h with U|U|⟨a,wr,rfl,au⟩
 ·rw[ofEvent_loc_mark U];trivial
 ·rw[ofEvent_loc_mark U];trivial
 ·show a.block<N;omega
theorem Ib{e:Event}(h:Fj Wg e){x:Touch}(aj:(MemAct.ofEvent e).touch?=some x):hP (λb=>S b\/b=Wg) x.loc/\x.kind=.atomic:=by
 rcases h with h|rfl
 ·exact Pc h aj
 trivial
theorem adu{e:Event}(h:Fj Wg e)(hW:Wg<N):(MemAct.ofEvent e).low N:=by
 rcases h with h|rfl
 ·exact Ro h hW
 assumption
theorem DZ{e:Event}(h:xf Wg e){x:Touch}(aj:(MemAct.ofEvent e).touch?=some x):hP (λb=>S b\/b=Wg) x.loc/\x.kind≠.plain:=by
 rcases h with h|rfl|rfl|rfl
 ·obtain⟨U,ab⟩:=Pc (S:=S) h aj;grind
 ·simp[ofEvent_mk,MemAct.touch?]at aj;subst aj;exact⟨⟨_,rfl,.inr rfl⟩,by simp⟩
 ·simp[ofEvent_mk,MemAct.touch?]at aj;subst aj;exact⟨⟨_,rfl,.inr rfl⟩,by simp⟩
 trivial
theorem Rp{e:Event}(h:xf Wg e)(hW:Wg<N):(MemAct.ofEvent e).low N:=by
 rcases h with h|rfl|rfl|rfl
 ·exact Ro h hW
 all_goals assumption
theorem aae{e:Event}(h:Fj Wg e)(a:Addr):MemAct.ofEvent e≠.mark (.release a):=λaj=>by
 have ab:=Go.ConcR.loc_of_ofEvent aj;rcases h with(U|U|⟨a,wr,rfl,_⟩)|rfl;all_goals grind [mk]
theorem Pd{e:Event}(h:xf Wg e)(a:Addr):MemAct.ofEvent e≠.mark (.release a):=λaj=>by
 have ab:=Go.ConcR.loc_of_ofEvent aj;rcases h with(U|U|⟨a,wr,rfl,_⟩)|rfl|rfl|rfl;all_goals grind [mk]
theorem Ok{B RO:Nat->Prop}{e:Event}(h:EvB B RO e)(a:Addr):MemAct.ofEvent e≠.mark (.release a):=λaj=>(h.still a).2.2 (Go.ConcR.loc_of_ofEvent aj)
theorem abL(tag:CTag):pend tag<=1:=by cases tag<;>simp only[pend]<;>first|omega|grind
end
section
variable[Payload]{P:Program}{ty:TypeId}{Wg C n:Nat}{val ini:Nat->Value}{σ:Type}{lt:σ->σ->Prop}{b5:Nat->σ->(Nat->Prop)->(Nat->Prop)->Goroutine->World->Prop}{S:Nat->Prop}{j0:Nat}{Wp:World}
 {tag bt:CTag} {c j d:Nat} {bM:Nat->Prop} {R:Nat} {A:World->Prop} {g0 a:Goroutine} {D:Nat->WD} {V:Nat->Option σ} {cf:Nat->Nat} {RO:Nat->Nat->Prop} {gs:Array Goroutine} {w:World} {t:Trace} {q:Nat->Nat} {st gi:Int}
theorem jf.hW{j:Nat}{d0:Nat}(h:jf P ty Wg C n val ini b5 S j0 Wp j D V cf RO gs w t q d0):Wg<w.heap.size:=by obtain⟨_,_,x⟩:=h.live;exact(Array.getElem?_eq_some_iff.1 x).1
theorem jf.hC{j:Nat}{d0:Nat}(h:jf P ty Wg C n val ini b5 S j0 Wp j D V cf RO gs w t q d0):C<w.heap.size:=by obtain⟨_,x,_⟩:=h.pay;grind
theorem jH.worker(hW:lM P ty Wg C n val lt b5)(aI:n<=2147483000)(bh:fL bM A)(h:(jH P ty Wg C n lt b5 val ini S j0 Wp) tag bt c j d bM R A g0 a D V cf RO gs w t q st gi)(kr:tag≠.blk){i:Nat}(hi:i<j){g:Goroutine}(aN:gs[j0+1+i]?=some g)(aB:g.status=.running)(sl:Option (Nat×Nat)):
  ∃ed w' ops,runT P (crowd gs w sl) (j0+1+i)=(.next (crowd ed w' sl),ops)/\∃a' jy D' V' xC fv gz,(jH P ty Wg C n lt b5 val ini S j0 Wp) tag jy c j d bM R A g0 a' D' V' xC RO ed w' (t++ops) q fv gz /\
   (Ssum j D'<Ssum j D\/(Ssum j D'=Ssum j D/\tX (oQ lt) j V' V)\/(Ssum j D'=Ssum j D/\V'=V/\Fsum j D'<Fsum j D)):=by
 obtain⟨g1,tA,vb⟩:=h.dU.wk i hi;obtain rfl:g1=g:=by grind
 have aU:j0+1+i<gs.size:=(Array.getElem?_eq_some_iff.1 aN).1;have ahJ:(j0+1+i==0)=false:=by simp
 have fin:∀{g':Goroutine}{w':World}{es:Array Event}{V':Option σ}{D':WD}{fv gz:Int},stepG P false g1 w=.go g' w' es ->
   jf P ty Wg C n val ini b5 S j0 Wp j (upd D i D') (upd V i V') (j1 cf w w' (j0+1+i)) RO ((gs.map (woken P g1 g' w')).setIfInBounds (j0+1+i) g') w' (t++MemOp.ofEvents (j0+1+i) g1.frame.fn g1.frame.place es) q d ->
   w.heap.size<=w'.heap.size->(∀b,b<w.heap.size->cf b=0->b≠C->b≠Wg->w'.heap[b]?=w.heap[b]?)->WgAt ty Wg w' fv gz->Acc (oQ lt) V'->cnt D'<=cnt (D i) ->
   (∀tag',(tag'=bt\/(bt=.blk/\tag'=.w3))->(mayWake P g1=true->g'.status=.running->tag'≠.blk)->ConcN.Mode j (upd D i D') tag' fv gz) ->
   (Ssum j (upd D i D')<Ssum j D\/(Ssum j (upd D i D')=Ssum j D/\tX (oQ lt) j (upd V i V') V)\/(Ssum j (upd D i D')=Ssum j D/\upd V i V'=V/\Fsum j (upd D i D')<Fsum j D)) ->
   ∃ed w' ops,runT P (crowd gs w sl) (j0+1+i)=(.next (crowd ed w' sl),ops)/\∃a' jy D' V' xC fv gz,(jH P ty Wg C n lt b5 val ini S j0 Wp) tag jy c j d bM R A g0 a' D' V' xC RO ed w' (t++ops) q fv gz /\
    (Ssum j D'<Ssum j D\/(Ssum j D'=Ssum j D/\tX (oQ lt) j V' V)\/(Ssum j D'=Ssum j D/\V'=V/\Fsum j D'<Fsum j D)):=by
  intro g' w' es V' D' fv gz hgo fH bX lV gA va Bx jZ Ca;obtain⟨jy,fg,kW,qo⟩:=Oj (P:=P) (g:=g1) (g':=g') (w':=w') h.run h.off h.zC;refine⟨_,_,_,runT_crowd_go aN (by grind),woken P g1 g' w' a,jy,upd D i D',upd V i V',j1 cf w w' (j0+1+i),fv,gz,⟨fH,?_,fg,λe=>h.off λe'=>e (by rw[e'];exact woken_run h.run),h.run,gA,jZ jy kW (λU ab=>qo U ab kr),?_,?_,λb hb=>?_,h.vw,h.dV,Nat.le_trans h.rw bX,λcm e1=>?_⟩,Ca⟩
  ·rw[get_map_set _ _ _ _ (by omega),h.a0];rfl
  ·have:=Vc_upd D D' hi;have:=h.cb;omega
  ·refine bh w w' h.qF bX λb hb=>?_;obtain⟨k1,bf,bP,cX,_⟩:=h.ck b hb;grind
  ·obtain⟨k1,bf,bP,cX,fi⟩:=h.ck b hb;grind [j1]
  ·by_cases e:cm=i
   ·grind [upd_same]
   ·rw[upd_ne V _ e];exact h.acc cm e1
 have Fl:=sumTo_upd D (j:=j) (i:=i);have So:=h.acc i hi;generalize pF:D i=amH at vb;generalize FR:V i=amI at vb;cases vb with
 |@own s ahK=>
  obtain⟨g',w',es,hgo,ar,aev⟩:=hW.step ahK (Nat.lt_of_lt_of_le hi h.dU.jn) h.dU.pay h.dU.live (λx=>by have:=h.dU.gT.zB;omega) (λx=>(h.dU.gT.ro i C x).2.2.1 rfl);have FT:w'.heap[Wg]?=w.heap[Wg]?:=ar.blk Wg h.dU.hW (by have:=h.dU.gT.zA;omega) (Ne.symm h.dU.gT.ts);have qd:WgLive ty Wg w->WgLive ty Wg w':=λ⟨x,y,z⟩=>⟨x,y,FT.trans z⟩;have ej:Kb ty Wg C n i (λb=>cf b=j0+1+i) w w':=⟨ar.os,ar.out,ar.size,λb U ab al _=>ar.blk b U ab al,ar.pay,ar.cells,qd⟩;have Ub:∀b,(cf b=j0+1+i\/(w.heap.size<=b/\b<w'.heap.size))↔j1 cf w w' (j0+1+i) b=j0+1+i:=λb=>by grind [j1]
  have afQ:∀b,(cf b=j0+1+i\/(w.heap.size<=b/\b<w'.heap.size))\/RO i b->b<w'.heap.size:=λb hb=>by
   rcases hb with(hb|hb)|hb
   ·have:b<w.heap.size:=Nat.lt_of_not_le λx=>by have:=h.dU.tD b x;omega
    exact Nat.lt_of_lt_of_le this ar.size
   ·exact hb.2
   ·exact Nat.lt_of_lt_of_le (h.dU.qn i b hb) ar.size
  have evs:∀op∈MemOp.ofEvents (j0+1+i) g1.frame.fn g1.frame.place es,∃e∈es,op={ g:=j0+1+i,fn:=g1.frame.fn,pos:=g1.frame.place,act:=.ofEvent e }:=λop aE=>by
   obtain⟨e,he,rfl⟩:=Go.Conc.mem_ofEvents aE;exact⟨e,he,rfl⟩
  have c1:i<n:=Nat.lt_of_lt_of_le hi h.dU.jn;have IE:∀x:Bool,∀y,(MemAct.ofEvent (⟨.cell ⟨C,i,none⟩,x,false⟩:Event)).touch?=some y->y.kind=.plain/\y.loc=.cell ⟨C,i,none⟩:=λx y aF=>by
   simp only[ofEvent_cell0,MemAct.touch?,Option.some.injEq]at aF;subst aF;exact⟨rfl,rfl⟩
  have Qn:∀{V':Option σ}{D':WD},D'.stage=7->D'.deaf=0->pE P ty Wg C n val b5 i (λb=>j1 cf w w' (j0+1+i) b=j0+1+i) (RO i) g' w' V' D'->jf P ty Wg C n val ini b5 S j0 Wp j (upd D i D') (upd V i V') (j1 cf w w' (j0+1+i)) RO ((gs.map (woken P g1 g' w')).setIfInBounds (j0+1+i) g') w' (t++MemOp.ofEvents (j0+1+i) g1.frame.fn g1.frame.place es) q d:=by
   intro V' D' cS aT ao;refine h.dU.stepW hW hi aN ej ao (λop aE=>?_) (λop aE x aj _=>?_) (λop aE x aj=>?_) (λop aE=>?_) (λop aE=>?_) ?_ (λh=>by omega) (λh=>by omega)
   ·obtain⟨e,he,rfl⟩:=evs op aE;refine⟨rfl,λx aj=>?_⟩;rcases ar.ay e he with hb|⟨y,rfl⟩
    ·obtain⟨_,_,b,ab,al⟩:=hb.plain aj;rcases al with al|⟨al,aJ⟩
     ·exact .inr (.inl (.inl ⟨b,ab,(Ub b).1 al,by omega⟩))
     ·exact .inr (.inr ⟨⟨b,ab,by omega,by rw[show j0+1+i-(j0+1)=i by omega];exact al⟩,aJ⟩)
    ·exact .inr (.inl (.inr ⟨i,rfl,c1,(IE y x aj).2⟩))
   ·obtain⟨e,he,rfl⟩:=evs op aE;rcases ar.ay e he with hb|⟨y,rfl⟩
    ·rw[(hb.plain aj).1];simp
    ·rw[(IE y x aj).1];simp
   ·obtain⟨e,he,rfl⟩:=evs op aE;rcases ar.ay e he with hb|⟨y,rfl⟩
    ·exact(hb.plain aj).2.1
    ·rw[(IE y x aj).2];rfl
   ·obtain⟨e,he,rfl⟩:=evs op aE;rcases ar.ay e he with hb|⟨y,rfl⟩
    ·exact hb.low afQ
    ·show C<w'.heap.size;exact Nat.lt_of_lt_of_le h.dU.hC ar.size
   ·obtain⟨e,he,rfl⟩:=evs op aE;rcases ar.ay e he with hb|⟨y,rfl⟩
    ·exact Ok hb _
    ·simp[ofEvent_cell0]
   ·rw[pF,aT];exact Go.Conc.deafBehind_still (λe he=>by
     rcases ar.ay e he with hb|⟨y,rfl⟩
     ·exact⟨(hb.still (stA Wg)).1,(hb.still (stA Wg)).2.1⟩
     ·simp) 0
  have lV:∀b,b<w.heap.size->cf b=0->b≠C->b≠Wg->w'.heap[b]?=w.heap[b]?:=λb U ab al _=>ar.blk b U (by omega) al;have Tj:WgAt ty Wg w' st gi:=FT.trans h.wg;have iB:∀m',Ssum j (upd D i ⟨7,m',0⟩)=Ssum j D:=λm'=>by
   have:=Fl ⟨7,m',0⟩ WD.stage hi;rw[pF]at this;simp only[Ssum]at this⊢;omega
  have rf:∀m' tag',(tag'=bt\/(bt=.blk/\tag'=.w3))->ConcN.Mode j (upd D i ⟨7,m',0⟩) tag' st gi:=λm' tag' a1=>by
   have:=h.md.same (i:=i) m' 0;rw[pF]at this;exact this.retag a1
  rw[FR]at So;rcases aev with⟨s',Tk,afR⟩|⟨m',ak⟩
  ·have hb:(λb=>j1 cf w w' (j0+1+i) b=j0+1+i)=λb=>cf b=j0+1+i\/(w.heap.size<=b/\b<w'.heap.size):=funext λb=>propext (Ub b).symm;refine fin hgo (Qn (V':=some s') (D':=⟨7,0,0⟩) rfl rfl (by rw[hb];exact .own afR)) ar.size lV Tj (So.inv Tk) (by rw[pF];exact Nat.le_refl _) (λtag' a1 _=>rf 0 tag' a1) (.inr (.inl ⟨iB 0,i,hi,?_,λk aq=>upd_ne V _ aq⟩));rw[upd_same,FR];exact Tk
  ·refine fin hgo (Qn (V':=none) (D':=⟨7,m',0⟩) rfl rfl (.lu ak)) ar.size lV Tj oQ.Pb (by rw[pF];exact Nat.le_refl _) (λtag' a1 _=>rf m' tag' a1) (.inr (.inl ⟨iB m',i,hi,?_,λk aq=>upd_ne V _ aq⟩));rw[upd_same,FR];trivial
 |@lu s m aji ak=>
  obtain⟨g',w',es,s',m',dq,fv,gz,ao⟩:=aad ak hi pF aB h.wg h.md (by have:=h.dU.jn;have:=abL bt;omega);have ew:upd V i none=V:=funext λk=>by
   by_cases e:k=i
   ·subst e;rw[upd_same,FR]
   ·rw[upd_ne V _ e]
  have FU:w'.heap[C]?=w.heap[C]?:=ao.as.block C h.dU.gT.ts;have ry:PayAt C n w->PayAt C n w':=λ⟨x,aj,aF⟩=>⟨x,FU.trans aj,aF⟩;have ej:Kb ty Wg C n i (λb=>cf b=j0+1+i) w w':=⟨ao.as.os,ao.as.output,Nat.le_of_eq ao.as.size.symm,λb _ _ _ aJ=>ao.as.block b aJ,ry,λcm _=>cell_of_block FU cm,λ_=>⟨_,_,ao.wg⟩⟩;have Uc:Deaf t (j0+1+i)=aji:=by rw[h.dU.deafW i hi,pF]
  have fR:∀e∈es,Fj Wg e:=λe he=>by
   rcases ao.rel with⟨_,_,gH⟩|⟨_,_,_,gH,_⟩|⟨_,_,hb,_⟩
   ·rw[gH]at he;simp at he
   ·rw[gH]at he;simp at he;exact .inr he
   ·exact .inl (hb e he)
  have fH:jf P ty Wg C n val ini b5 S j0 Wp j (upd D i ⟨s',m',dq⟩) (upd V i none) (j1 cf w w' (j0+1+i)) RO ((gs.map (woken P g1 g' w')).setIfInBounds (j0+1+i) g') w' (t++MemOp.ofEvents (j0+1+i) g1.frame.fn g1.frame.place es) q d:=by
   refine h.dU.stepW hW hi aN ej (.lu ao.ahA) (λop aE=>?_) (λop aE x aj xD=>?_) (λop aE x aj=>?_) (λop aE=>?_) (λop aE=>?_) (by rw[pF];exact ao.ajh) (λbI=>?_) (λbI=>?_)
   ·obtain⟨e,he,rfl⟩:=Go.Conc.mem_ofEvents aE;refine⟨rfl,λx aj=>.inl ?_⟩;obtain⟨U,ab⟩:=Ib (S:=S) (fR e he) aj;exact⟨U,by rw[ab];simp,by rw[ab];simp⟩
   ·obtain⟨e,he,rfl⟩:=Go.Conc.mem_ofEvents aE;exact absurd (Ib (S:=S) (fR e he) aj).1 xD
   ·obtain⟨e,he,rfl⟩:=Go.Conc.mem_ofEvents aE;obtain⟨a,au,_⟩:=(Ib (S:=S) (fR e he) aj).1;rw[au];rfl
   ·obtain⟨e,he,rfl⟩:=Go.Conc.mem_ofEvents aE;exact adu (fR e he) (by rw[ao.as.size];exact h.dU.hW)
   ·obtain⟨e,he,rfl⟩:=Go.Conc.mem_ofEvents aE;exact aae (fR e he) _
   ·rcases ao.rel with⟨_,cS,_⟩|⟨_,_,qp,gH,_⟩|⟨zy,_,hb,zz⟩
    ·simp only at bI;omega
    ·subst gH;exact⟨t.size,RelBy.new (by rw[Uc];exact qp) _ _⟩
    ·obtain⟨r,ad⟩:=h.dU.rel i hi (by rw[pF];exact zy);exact⟨r,ad.book Uc _ _ hb zz⟩
   ·rcases ao.rel with⟨_,cS,_⟩|⟨_,_,_,_,bq⟩|⟨zy,_,_,_⟩
    ·simp only at bI;omega
    ·exact(cell_of_block FU i).trans bq
    ·exact(cell_of_block FU i).trans (h.dU.has i hi (by rw[pF];exact zy))
  have aO:=Fl ⟨s',m',dq⟩ WD.stage hi;have bS:=Fl ⟨s',m',dq⟩ WD.fuel hi;rw[pF]at aO bS;have Bx:cnt ⟨s',m',dq⟩<=cnt (D i):=by
   rcases ao.lt with⟨_,h⟩|⟨h,_⟩
   ·exact h
   ·rw[pF,h];exact Nat.le_refl _
  refine fin ao.go fH (Nat.le_of_eq ao.as.size.symm) (λb _ _ _ aJ=>ao.as.block b aJ) ao.wg oQ.Pb Bx ao.md ?_;rw[ew];simp only[Ssum,Fsum];rcases ao.lt with⟨U,_⟩|⟨U,ab⟩
  ·exact .inl (by simp only at aO;omega)
  ·exact .inr (.inr ⟨by simp only at aO;omega,trivial,by simp only at bS;omega⟩)
end
end
section
open Go Go.Conc
open Go.ConcN (CTag WD Vc Ssum Fsum sumTo upd sumTo_upd sumTo_upd_out sumTo_congr upd_ne upd_same cnt pend PayAt Has WgLive RelBy Apart CT Ok0 OkW RW get_map_set get_map_set_same cell_of_block isOpen isW3 isFin OpenSt AllQuit allQuit_of Vc_upd Vc_le bk_dis bk_en bk_rd bk_rw bk_sem Deaf_absent)
open Go.ConcR (KK WgAt stA smA rd wr mk Payload Bk g_of_ofEvents ofEvent_mk ofEvent_loc_mark ofEvent_cell)
section
variable[Payload]{P:Program}{ty:TypeId}{Wg C n:Nat}{val ini:Nat->Value}{σ:Type}{lt:σ->σ->Prop}{b5:Nat->σ->(Nat->Prop)->(Nat->Prop)->Goroutine->World->Prop}{Fin:Nat->(Nat->Prop)->(World->Prop)->Goroutine->Prop}{S:Nat->Prop}{j0:Nat}{Wp:World}
 {tag bt:CTag} {c j d:Nat} {bM:Nat->Prop} {R:Nat} {A:World->Prop} {g0 a:Goroutine} {D:Nat->WD} {V:Nat->Option σ} {cf:Nat->Nat} {RO:Nat->Nat->Prop} {gs:Array Goroutine} {w:World} {t:Trace} {q:Nat->Nat} {st gi:Int}
theorem jH.old(hW:lM P ty Wg C n val lt b5)(kr:tag≠.blk)(h:(jH P ty Wg C n lt b5 val ini S j0 Wp) tag bt c j d bM R A g0 a D V cf RO gs w t q st gi){k:Nat}(aq:0<k)(FP:k<=j0){g:Goroutine}(aN:gs[k]?=some g)(aB:g.status=.running)(sl:Option (Nat×Nat)):
  ∃ed ops,runT P (crowd gs w sl) k=(.next (crowd ed w sl),ops)/\∃a' jy dF,(jH P ty Wg C n lt b5 val ini S j0 Wp) tag jy c j d bM R A g0 a' D V cf RO ed w (t++ops) dF st gi/\sumTo (j0+1) dF<sumTo (j0+1) q:=by
 have aH:=h.dU.old k g aq FP aN;have ahJ:(k==0)=false:=by simp;omega
 cases Ud:q k with
 |zero=>rw[Ud]at aH;rw[aH.1]at aB;cases aB
 |succ m=>
  rw[Ud]at aH;rcases aH with⟨aQ,_⟩|⟨_,g',es,hm,Tl,iX⟩
  ·grind
  have fH:=h.dU.aeu hW (fn:=g.frame.fn) (pos:=g.frame.place) aq FP aN hm iX;obtain⟨jy,fg,kW,qo⟩:=Oj (P:=P) (g:=g) (g':=g') (w':=w) h.run h.off h.zC;refine⟨_,_,runT_crowd_go aN (by grind),woken P g g' w a,jy,upd q k m,⟨fH,?_,fg,λe=>h.off λe'=>e (by rw[e'];exact woken_run h.run),h.run,h.wg,h.md.retag kW,h.cb,h.qF,h.ck,h.vw,h.dV,h.rw,h.acc⟩,?_⟩
  ·rw[get_map_set _ _ _ _ (by omega),h.a0];rfl
  ·have:=sumTo_upd q m id (i:=k) (j:=j0+1) (by omega);simp  at this;grind
theorem jH.afS(hW:lM P ty Wg C n val lt b5)(bh:fL bM A)(h:(jH P ty Wg C n lt b5 val ini S j0 Wp) tag tag c j d bM R A g0 g0 D V cf RO gs w t q st gi){g':Goroutine}{w':World}{es:Array Event}{tag':CTag}{c':Nat}{fv gz:Int}(sl:Option (Nat×Nat))(hgo:stepG P true g0 w=.go g' w' es)(has:Aside Wg w w')(gA:WgAt ty Wg w' fv gz)(fR:∀e∈es,xf Wg e)
  (jZ:ConcN.Mode j D tag' fv gz) (tn:Vc j D+pend tag'<=c') (ad:g'.status=.running):
  ∃ed,runT P (crowd gs w sl) 0=(.next (crowd ed w' sl),MemOp.ofEvents 0 g0.frame.fn g0.frame.place es)/\(jH P ty Wg C n lt b5 val ini S j0 Wp) tag' tag' c' j (deafBehind d es) bM R A g' g' D V cf RO ed w' (t++MemOp.ofEvents 0 g0.frame.fn g0.frame.place es) q fv gz:=by
 have aU:0<gs.size:=by have:=h.dU.size;omega
 have fH:=h.dU.step0 hW (a:=g0) (a':=g') (fn:=g0.frame.fn) (pos:=g0.frame.place) (es:=es) has.os has.output (Nat.le_of_eq has.size.symm) (λb _ _ hb=>has.block b hb) ⟨_,_,gA⟩ (λop aE=>by
   obtain⟨e,he,rfl⟩:=Go.Conc.mem_ofEvents aE;exact⟨rfl,λx aj=>.inl (DZ (S:=S) (fR e he) aj)⟩) (λop aE x aj xD=>by
   obtain⟨e,he,rfl⟩:=Go.Conc.mem_ofEvents aE;exact absurd (DZ (S:=S) (fR e he) aj).1 xD) (λop aE=>by
   obtain⟨e,he,rfl⟩:=Go.Conc.mem_ofEvents aE;exact Rp (fR e he) (by rw[has.size];exact h.dU.hW)) (λop aE=>by
   grind [Go.Conc.mem_ofEvents,Pd])
 refine⟨_,runT_crowd_go h.a0 (show stepG P (0==0) g0 w=_ from hgo),fH,get_map_set_same _ _ _ aU,.inl ⟨rfl,rfl⟩,λe=>absurd rfl e,ad,gA,jZ,tn,bh w w' h.qF (Nat.le_of_eq has.size.symm) λb hb=>has.block b (h.ck b hb).2.2.1,λb hb=>?_,h.vw,h.dV,by rw[has.size];exact h.rw,h.acc⟩;have:=h.ck b hb;exact⟨by rw[has.size];grind,this.2⟩
theorem jH.By(hW:lM P ty Wg C n val lt b5)(h:(jH P ty Wg C n lt b5 val ini S j0 Wp) tag tag c j d bM R A g0 g0 D V cf RO gs w t q st gi){g':Goroutine}{w':World}{es:Array Event}{iQ:World->Prop}(sl:Option (Nat×Nat))(hgo:stepG P true g0 w=.go g' w' es)(ao:B9 bM R w w' es)(K3:iQ w')(ad:g'.status=.running):
  ∃ed,runT P (crowd gs w sl) 0=(.next (crowd ed w' sl),MemOp.ofEvents 0 g0.frame.fn g0.frame.place es)/\(jH P ty Wg C n lt b5 val ini S j0 Wp) tag tag c j d (λb=>bM b\/(w.heap.size<=b/\b<w'.heap.size)) R iQ g' g' D V cf RO ed w' (t++MemOp.ofEvents 0 g0.frame.fn g0.frame.place es) q st gi:=by
 have aU:0<gs.size:=by have:=h.dU.size;omega
 have FT:w'.heap[Wg]?=w.heap[Wg]?:=ao.blk Wg h.dU.hW λx=>(h.ck Wg x.1).2.2.1 rfl;have gA:WgAt ty Wg w' st gi:=FT.trans h.wg;have dB:∀b,((bM b/\R<=b)\/(w.heap.size<=b/\b<w'.heap.size))\/bM b->b<w'.heap.size:=λb hb=>by
  rcases hb with(hb|hb)|hb
  ·exact Nat.lt_of_lt_of_le (h.ck b hb.1).1 ao.size
  ·exact hb.2
  ·exact Nat.lt_of_lt_of_le (h.ck b hb).1 ao.size
 have aV:deafBehind d es=d:=Go.Conc.deafBehind_still (λe he=>⟨((ao.ay e he).still (stA Wg)).1,((ao.ay e he).still (stA Wg)).2.1⟩) d;have new:∀b,w.heap.size<=b->cf b=0/\b≠Wg/\b≠C/\¬S b/\∀i,¬RO i b:=λb hb=>⟨h.dU.tD b hb,by have:=h.dU.hW;omega,by have:=h.dU.hC;omega,λx=>by have:=h.dU.xB b x;have:=h.dU.hR;omega,λi x=>by have:=h.dU.qn i b x;omega⟩;have fH:=h.dU.step0 hW (a:=g0) (a':=g') (fn:=g0.frame.fn) (pos:=g0.frame.place) (es:=es) ao.os ao.out ao.size (λb hb aj hw=>ao.blk b hb λ⟨k1,bf⟩=>by
   obtain⟨_,hF,Gz,Va,_⟩:=h.ck b k1;rcases aj with aj|⟨i,aj⟩|aj|aj
   ·exact aj hF
   ·have:=h.vw i b aj;omega
   ·have:=h.dV;omega
   grind) ⟨_,_,gA⟩ (λop aE=>by
   obtain⟨e,he,rfl⟩:=Go.Conc.mem_ofEvents aE;refine⟨rfl,λx aj=>.inr ?_⟩;obtain⟨_,_,b,hb,dG⟩:=(ao.ay e he).plain aj;have alZ:cf b=0/\b≠Wg/\b≠C/\¬S b:=by
    rcases dG with(dG|dG)|dG
    ·exact(h.ck b dG.1).2
    ·grind
    ·exact(h.ck b dG.1).2
   refine⟨?_,λk k1 hU=>?_,λhw k k1 hU=>?_⟩
   ·rintro⟨y,aF,al0⟩;grind [py]
   ·rintro(⟨a6,U,ab,al⟩|⟨i,_,_,al⟩);all_goals grind [py]
   ·rintro⟨a6,U,ab,al⟩;rw[hb]at U;cases U;rcases dG with(dG|dG)|dG
    ·have:=h.vw _ _ al;omega
    all_goals grind) (λop aE x aj xD=>by
   obtain⟨e,he,rfl⟩:=Go.Conc.mem_ofEvents aE;rw[((ao.ay e he).plain aj).1];simp) (λop aE=>by
   obtain⟨e,he,rfl⟩:=Go.Conc.mem_ofEvents aE;exact(ao.ay e he).low dB) (λop aE=>by
   obtain⟨e,he,rfl⟩:=Go.Conc.mem_ofEvents aE;exact Ok (ao.ay e he) _)
 rw[aV]at fH;refine⟨_,runT_crowd_go h.a0 (show stepG P (0==0) g0 w=_ from hgo),fH,get_map_set_same _ _ _ aU,.inl ⟨rfl,rfl⟩,λe=>absurd rfl e,ad,gA,h.md,h.cb,K3,λb hb=>?_,h.vw,h.dV,Nat.le_trans h.rw ao.size,h.acc⟩;rcases hb with hb|hb
 ·have:=h.ck b hb;grind
 grind
theorem dn.running{f c j d:Nat}{tag:CTag}{bM:Nat->Prop}{R:Nat}{A:World->Prop}{g:Goroutine}(h:dn P ty Wg C n lt b5 Fin f tag c j d bM R A g):g.status=.running:=by
 cases f with
 |zero=>trivial
 |succ f=>exact h.1
theorem wV{es:Array Event}(h:∀e∈es,Bk Wg e):∀e∈es,xf Wg e:=λe he=>.inl (h e he)
theorem XC(hW:lM P ty Wg C n val lt b5)(aI:n<=2147483000){Q:Machine->Outcome->World->Trace->Prop}
  (iJ:∀j bM A g gs w sl t q,Fin j bM A g->Over P ty Wg C n val ini S Wp j bM A g gs w t q->Ends P Q (crowd gs w sl) t):
  ∀(f:Nat)(tag:CTag)(c j d:Nat)(bM:Nat->Prop)(R:Nat)(A:World->Prop)(g0:Goroutine),dn P ty Wg C n lt b5 Fin f tag c j d bM R A g0->tag≠.blk->∀(a:Goroutine)(bt:CTag)(D:Nat->WD)(V:Nat->Option σ)(cf:Nat->Nat)(RO:Nat->Nat->Prop)(gs:Array Goroutine)(w:World)(sl:Option (Nat×Nat))(t:Trace)(q:Nat->Nat)(st gi:Int),
   (jH P ty Wg C n lt b5 val ini S j0 Wp) tag bt c j d bM R A g0 a D V cf RO gs w t q st gi->Ends P Q (crowd gs w sl) t:=by
 intro f;induction f with
 |zero=>exact λ_ _ _ _ _ _ _ _ h=>h.elim
 |succ f B5=>
  intro tag c j d bM R A g0 afT kr;have key:∀(s:Nat)(V:Nat->Option σ)(m:Nat),Acc (tX (oQ lt) j) V->∀(a:Goroutine)(bt:CTag)(D:Nat->WD)(cf:Nat->Nat)(RO:Nat->Nat->Prop)(gs:Array Goroutine)(w:World)(sl:Option (Nat×Nat))(t:Trace)(q:Nat->Nat)(st gi:Int),
    (jH P ty Wg C n lt b5 val ini S j0 Wp) tag bt c j d bM R A g0 a D V cf RO gs w t q st gi->Ssum j D=s->2*sumTo (j0+1) q+2*Fsum j D+(if a.status=.running then 1 else 0)=m->Ends P Q (crowd gs w sl) t:=by
   refine afO λs V m va zD tE K4 a bt D cf RO gs w sl t q st gi h ao hm=>?_;obtain⟨akF,bh,ahL⟩:=afT;obtain⟨i,g,x,fT,aN,aB,eo⟩:=crowd_pick (P:=P) (w:=w) (sl:=sl) (h.awake hW) (h.abK hW);replace h:=h.at hW bh x;have flag:∀a':Goroutine,(if a'.status=GoStatus.running then 1 else 0)<=1:=λa'=>by split<;>omega
   have bX:=h.dU.size;have Tm:i<gs.size:=(Array.getElem?_eq_some_iff.1 aN).1;rcases Nat.eq_zero_or_pos i with rfl|eb
   ·obtain rfl:a=g:=by have:=h.a0;rw[aN]at this;exact(Option.some.inj this).symm
    obtain⟨aK,aO⟩:a=g0/\bt=tag:=h.zC.resolve_right λ⟨e,_⟩=>by rw[e]at aB;cases aB
    replace aO:=aO.symm;subst aK aO;have tF:∀{g':Goroutine}{w':World}{es:Array Event}{tag':CTag}{c':Nat}{fv gz:Int},stepG P true a (w.at x)=.go g' w' es->Aside Wg (w.at x) w'->WgAt ty Wg w' fv gz->(∀e∈es,xf Wg e)->ConcN.Mode j D tag' fv gz->Vc j D+pend tag'<=c'->tag'≠.blk->dn P ty Wg C n lt b5 Fin f tag' c' j (deafBehind d es) bM R A g'->Ends P Q (crowd gs w sl) t:=by
     intro g' w' es tag' c' fv gz U ab al aJ bm bI cS et;obtain⟨ed,ad,sc⟩:=h.afS hW bh fT U ab al aJ bm bI et.running;exact Ends.next (eo.trans ad) (B5 _ _ _ _ _ _ _ _ et cS _ _ _ _ _ _ _ _ _ _ _ _ _ sc)
    have EU:tag=.anch\/tag=.sp 0 3->OpenSt j D/\st=((Vc j D+pend tag:Nat):Int)*KK/\gi=0:=λe=>by
     have:isOpen tag:=by rcases e with rfl|rfl<;>trivial
     obtain⟨U,ab,al,_⟩:=h.md.open_inv this;exact⟨U,ab,al⟩
    rcases ahL with⟨rfl,aq⟩|aq|⟨e,he,aq⟩|⟨rfl,ah,aq⟩|⟨rfl,rfl,aC,aq⟩|⟨rfl,aq⟩|⟨af,e0,rfl,aq⟩|⟨rfl,ahM,aq⟩|⟨rfl,aq⟩|⟨rfl,rfl,aq⟩
    ·obtain⟨g',w',es,iQ,U,ab,al,aJ⟩:=aq (w.at x) h.qF (λb hb=>(h.ck b hb).1) h.rw;obtain⟨ed,ad,sc⟩:=h.By hW fT U ab al aJ.running;exact Ends.next (eo.trans ad) (B5 _ _ _ _ _ _ _ _ aJ (by simp) _ _ _ _ _ _ _ _ _ _ _ _ _ sc)
    ·obtain⟨g',U,ab⟩:=aq (w.at x) h.dU.live;exact tF U (.refl _ _) h.wg (by simp) h.md h.cb kr ab
    ·obtain⟨g',U,ab⟩:=aq (w.at x) h.dU.live;refine tF U (.refl _ _) h.wg (λe' oO=>?_) h.md h.cb kr ab;simp only[List.mem_toArray,List.mem_cons,List.not_mem_nil,or_false]at oO;subst oO;rcases he with rfl|rfl|rfl|rfl
     ·exact .inl (.inl rfl)
     ·exact .inl (.inr (.inl rfl))
     ·exact .inr (.inl rfl)
     ·exact .inr (.inr (.inl rfl))
    ·obtain⟨ar,rfl,rfl⟩:=EU (.inl rfl);have ai:Vc j D<=c:=by have:=h.cb;simp only[pend]at this;omega
     obtain⟨g',U,ab⟩:=aq (w.at x) (Vc j D) ai (by simpa[pend]using h.wg);refine tF (tag':=.sp 0 3) U (aside_setCell _ (stA Wg) _) (h.wg.setSt _) (wV bk_rw) ?_ (by simp only[pend];split<;>omega) (by simp) ab;have e:(((Vc j D:Nat):Int)+1)*KK=((Vc j D+pend (.sp 0 3):Nat):Int)*KK:=by simp[pend]
     rw[e];exact .opn trivial ar (by simp)
    ·obtain⟨ar,rfl,rfl⟩:=EU (.inr rfl);obtain⟨g',child,cc,U,ab,al,aJ⟩:=aq (w.at x) h.qF h.dU.pay h.dU.live (λb hb=>(h.ck b hb).1);have ad:=runT_crowd_spawn (P:=P) (sl:=fT) (i:=0) h.a0 (show stepG P (0==0) a (w.at x)=_ from U);have fH:=h.dU.spawn hW (a':=g') (x:={ g:=0,fn:=a.frame.fn,pos:=a.frame.place,act:=.go gs.size }) (y:={ g:=gs.size,fn:=child.frame.fn,pos:=a.frame.place,act:=.start }) ⟨rfl,by show MemAct.go gs.size=_;rw[show gs.size=j0+j+1 by omega]⟩ ⟨by show gs.size=_;omega,rfl⟩ aC h.ck ab;have Bx:Vc (j+1) (upd D j ⟨7,0,0⟩)=Vc j D+1:=by
      simp only[Vc,sumTo,upd_same];rw[sumTo_upd_out D _ cnt (Nat.le_refl _)];rfl
     have tn:=h.cb;refine Ends.next (eo.trans ad) (B5 _ _ _ _ _ _ _ _ aJ (by simp) g' .anch (upd D j ⟨7,0,0⟩) (upd V j (some cc)) cf (upd RO j bM) _ _ _ _ q _ 0 ⟨?_,?_,.inl ⟨rfl,rfl⟩,λe=>absurd rfl e,aJ.running,h.wg,?_,by rw[Bx];simp only[pend]at tn⊢;simp at tn;omega,h.qF,h.ck,λi b hb=>?_,Nat.le_trans h.dV h.rw,Nat.le_refl _,λi hi=>?_⟩)
     ·exact fH
     ·have bO:0<(gs.setIfInBounds 0 g').size:=by rw[Array.size_setIfInBounds];exact Tm
      rw[Array.getElem?_push_lt bO,←Array.getElem?_eq_getElem bO,Array.getElem?_setIfInBounds_self_of_lt Tm]
     ·have e:((Vc j D+pend (.sp 0 3):Nat):Int)*KK=((Vc (j+1) (upd D j ⟨7,0,0⟩)+pend .anch:Nat):Int)*KK:=by rw[Bx];simp[pend]
      rw[e];refine .opn trivial (λi hi=>?_) (by simp);by_cases e:i=j
      ·subst e;rw[upd_same];simp
      ·rw[upd_ne D _ e];exact ar i (by omega)
     ·by_cases e:i=j
      ·subst e;rw[upd_same]at hb;exact(h.ck b hb).1
      ·rw[upd_ne RO _ e]at hb;exact h.dU.qn i b hb
     ·by_cases e:i=j
      ·subst e;rw[upd_same];exact oQ.acc al
      ·rw[upd_ne V _ e];exact h.acc i (by omega)
    ·obtain⟨ar,rfl,rfl⟩:=EU (.inl rfl);have ai:Vc j D<=c:=by have:=h.cb;simp only[pend]at this;omega
     obtain⟨g',U,ab,al⟩:=aq (w.at x) (Vc j D) ai (by simpa[pend]using h.wg);by_cases aT:Vc j D=0
     ·refine tF (tag':=.w4) U (.refl _ _) h.wg (wV bk_rd) ?_ (by simp[pend,aT]) (by simp) (ab aT);have e:((Vc j D+pend .anch:Nat):Int)*KK=0:=by simp[pend,aT]
      rw[e];exact .fin trivial (allQuit_of ar aT)
     ·exact tF (tag':=.anch) U (.refl _ _) h.wg (wV bk_rd) h.md (by simp[pend]) (by simp) (al aT)
    ·obtain⟨ar,rfl,rfl⟩:=EU (.inl rfl);have ai:Vc j D<=c:=by have:=h.cb;simp only[pend]at this;omega
     obtain⟨afU,aew⟩:=aq (w.at x) (Vc j D) ai (by simpa[pend]using h.wg);by_cases e:Vc j D=af
     ·obtain⟨g',U,ab⟩:=afU e;exact tF (tag':=.w3) U (aside_setCell _ (stA Wg) _) (h.wg.setSt _) (wV bk_rw) (.reg trivial ar (by omega)) (by simp[pend]) (by simp) ab
     ·obtain⟨g',U,ab⟩:=aew e;exact tF (tag':=.anch) U (.refl _ _) h.wg (wV bk_rd) h.md (by simp[pend]) (by simp) ab
    ·obtain⟨lV,JB⟩:=aq (w.at x);have Tn:∀{fv:Int},WgAt ty Wg (w.at x) fv 0->ConcN.Mode j D .blk st gi->Ends P Q (crowd gs w sl) t:=by
      intro fv hw jZ;have hgo:=lV ⟨_,hw⟩;have ad:=runT_crowd_go (P:=P) (sl:=fT) (i:=0) h.a0 (show stepG P (0==0) a (w.at x)=_ from hgo);have aU:0<gs.size:=by omega
      have fH:=h.dU.step0 hW (w':=w.at x) (a:=a) (a':={ a with status:=.blocked }) (fn:=a.frame.fn) (pos:=a.frame.place) (es:=#[]) rfl rfl (Nat.le_refl _) (λb _ _ hb=>rfl) h.dU.live (λop aE=>by simp[MemOp.ofEvents]at aE) (λop aE=>by simp[MemOp.ofEvents]at aE) (λop aE=>by simp[MemOp.ofEvents]at aE) (λop aE=>by simp[MemOp.ofEvents]at aE);refine Ends.next (eo.trans ad) (K4 _ ?_ { a with status:=.blocked } .blk D cf RO _ _ _ _ q st gi ⟨fH,get_map_set_same _ _ _ aU,.inr ⟨rfl,rfl,rfl⟩,λ_=>ahM,h.run,h.wg,jZ,h.cb,h.qF,h.ck,h.vw,h.dV,h.rw,h.acc⟩ ao rfl);rw[←hm,if_pos aB,if_neg (by simp)];omega
     cases jZ:h.md with
     |opn U _ _=>exact U.elim
     |reg U ab al=>exact Tn h.wg (.reg trivial ab al)
     |last L U ab al aJ=>exact Tn h.wg (.last L trivial ab al aJ)
     |sema ab=>
      obtain⟨g',U,al⟩:=JB h.wg;refine tF (tag':=.w4) (c':=0) U (aside_setCell _ (smA Wg) _) (h.wg.setSm 0) (wV bk_sem) (.fin trivial ab) ?_ (by simp) ?_
      ·have:Vc j D=0:=by
        have:sumTo j (λi=>cnt (D i))<=0*j:=Go.ConcN.sumTo_le λi hi=>by simp[cnt,ab i hi]
        simp only[Vc];omega
       simp[pend,this]
      ·have:deafBehind d (semEvents (smA Wg))=d:=by simp[deafBehind,semEvents]
       rw[this];exact al
     |fin U _=>exact U.elim
    ·obtain⟨aH,rfl,rfl⟩:=h.md.fin_inv trivial;obtain⟨g',U,ab⟩:=aq (w.at x) h.wg;have pD:Vc j D=0:=by
      have:sumTo j (λi=>cnt (D i))<=0*j:=Go.ConcN.sumTo_le λi hi=>by simp[cnt,aH i hi]
      simp only[Vc];omega
     exact tF (tag':=.w4) U (.refl _ _) h.wg (wV bk_rd) h.md (by simp[pend,pD]) (by simp) ab
    ·obtain⟨aH,rfl,rfl⟩:=h.md.fin_inv trivial;obtain⟨g',U,ab⟩:=aq (w.at x) h.dU.live;have pD:Vc j D=0:=by
      have:sumTo j (λi=>cnt (D i))<=0*j:=Go.ConcN.sumTo_le λi hi=>by simp[cnt,aH i hi]
      simp only[Vc];omega
     have ad:=runT_crowd_go (P:=P) (sl:=fT) (i:=0) h.a0 (show stepG P (0==0) a (w.at x)=_ from U);have aU:0<gs.size:=by omega
     have fR:∀e∈#[mk (.acquire (stA Wg))],xf Wg e:=λe he=>by simp at he;exact .inr (.inr (.inr he))
     have fH:=h.dU.step0 hW (w':=w.at x) (a:=a) (a':=g') (fn:=a.frame.fn) (pos:=a.frame.place) (es:=#[mk (.acquire (stA Wg))]) rfl rfl (Nat.le_refl _) (λb _ _ hb=>rfl) h.dU.live (λop aE=>by
       obtain⟨e,he,rfl⟩:=Go.Conc.mem_ofEvents aE;exact⟨rfl,λx aj=>.inl (DZ (S:=S) (fR e he) aj)⟩) (λop aE x aj xD=>by
       obtain⟨e,he,rfl⟩:=Go.Conc.mem_ofEvents aE;exact absurd (DZ (S:=S) (fR e he) aj).1 xD) (λop aE=>by
       obtain⟨e,he,rfl⟩:=Go.Conc.mem_ofEvents aE;exact Rp (fR e he) h.dU.hW) (λop aE=>by
       obtain⟨e,he,rfl⟩:=Go.Conc.mem_ofEvents aE;exact Pd (fR e he) _)
     have aK:MemOp.ofEvents 0 a.frame.fn a.frame.place #[mk (.acquire (stA Wg))]=#[{ g:=0,fn:=a.frame.fn,pos:=a.frame.place,act:=.mark (.acquire (stA Wg)) }]:=by rw[ofEvents_eq];simp[ofEvent_mk]
     have aF:(t++#[({ g:=0,fn:=a.frame.fn,pos:=a.frame.place,act:=.mark (.acquire (stA Wg)) }:MemOp)])[t.size]?=some { g:=0,fn:=a.frame.fn,pos:=a.frame.place,act:=.mark (.acquire (stA Wg)) }:=by simp
     have qp:Deaf (t++MemOp.ofEvents 0 a.frame.fn a.frame.place #[mk (.acquire (stA Wg))]) 0=0:=by rw[fH.deaf0];rfl
     refine Ends.next (eo.trans ad) (iJ j bM A g' _ _ _ _ (λk=>if k<=j0 then q k else(D (k-(j0+1))).fuel) ab ⟨get_map_set_same _ _ _ aU,⟨λk g1 aq tA=>?_,λk aq=>?_⟩,?_,λop aE=>?_,λi hi=>fH.has i hi (by rw[aH i hi];omega),fH.pay,fH.rest,fH.live,h.qF,λb hb=>⟨(h.ck b hb).1,(h.ck b hb).2.2⟩,fH.hR,fH.base,fH.os,fH.out⟩)
     ·rcases Nat.lt_or_ge j0 k with aC|aC
      ·rw[if_neg (by omega)];have mG:=(Array.getElem?_eq_some_iff.1 tA).1;rw[fH.size]at mG;obtain⟨y,aF,ao⟩:=fH.wk (k-(j0+1)) (by omega);rw[show j0+1+(k-(j0+1))=k by omega,tA]at aF;cases aF;have zz:=fH.deafW (k-(j0+1)) (by omega);rw[show j0+1+(k-(j0+1))=k by omega]at zz;rw[zz];have tG:=aH (k-(j0+1)) (by omega);generalize D (k-(j0+1))=amJ at ao tG;generalize V (k-(j0+1))=amK at ao;cases ao with
       |own _=>cases tG
       |lu ak=>exact ak.quits tG
      ·rw[if_pos aC];exact fH.old k g1 aq aC tA
     ·refine Deaf_absent λa op au e=>?_;have:=fH.qE.ct.gs a op au;rw[fH.size]at aq;omega
     ·refine fH.qE.finish (q:=t.size) (a:=stA Wg) (by rw[aK,act?_of aF]) (by rw[aK];simp[Trace.g?]) (by rw[aK];exact⟨0,by simp[Trace.g?],by rw[deaf_old (Nat.le_refl _)];exact h.dU.deaf0⟩) fH.norel qp λk aq FP=>?_;obtain⟨r,ad⟩:=h.dU.rel (k-(j0+1)) (by omega) (by rw[aH _ (by omega)];omega);rw[show j0+1+(k-(j0+1))=k by omega]at ad;exact⟨r,ad.appOther g_of_ofEvents (by omega),lt_of_act? ad.act⟩
     ·obtain⟨k,aq⟩:=Array.mem_iff_getElem?.1 aE;have:=fH.qE.ct.gs k op aq;rw[fH.size];omega
   ·rcases Nat.lt_or_ge j0 i with aC|aC
    ·obtain⟨ed,w',ops,ad,a',jy,D',V',xC,fv,gz,sc,aU⟩:=h.worker hW aI bh kr (i:=i-(j0+1)) (by omega) (g:=g) (by rw[show j0+1+(i-(j0+1))=i by omega];exact aN) aB fT;rw[show j0+1+(i-(j0+1))=i by omega]at ad;refine Ends.next (eo.trans ad) ?_;rcases aU with U|⟨U,ab⟩|⟨U,rfl,ab⟩
     ·exact zD _ V' _ (ao▸U) (tX.acc j V' sc.acc) a' jy D' xC RO ed w' fT _ q fv gz sc rfl rfl
     ·exact tE V' _ ab a' jy D' xC RO ed w' fT _ q fv gz sc (U.trans ao) rfl
     ·refine K4 _ ?_ a' jy D' xC RO ed w' fT _ q fv gz sc (U.trans ao) rfl;have:=flag a';rw[←hm];omega
    ·obtain⟨ed,ops,ad,a',jy,dF,sc,aU⟩:=h.old hW kr eb aC aN aB fT;refine Ends.next (eo.trans ad) (K4 _ ?_ a' jy D cf RO ed _ fT _ dF st gi sc ao rfl);have:=flag a';rw[←hm];omega
  intro a bt D V cf RO gs w sl t q st gi h;exact key _ V _ (tX.acc j V h.acc) a bt D cf RO gs w sl t q st gi h rfl rfl
end
end
section
abbrev Tryz.link:Go.Conc.Lib.WgLink:={ add:=102,done:=104,wait:=105,relMerge:=132,disable:=133,enable:=134,inBubble:=135,associate:=136,fatal:=137,uOr:=138,uAdd:=139,raceRead:=140,uLoad:=141,uStore:=142,disassociate:=143,semrelease:=144,acquire:=145,isAssociated:=146,uCas:=147,raceWrite:=148,semacquire:=149,orU64:=165,addU64:=166,loadU64:=167,storeU64:=168,casU64:=169,tWgP:=165,tUP:=167,tAssoc:=168,tWg:=151,tAU:=148,tU64:=83,tUint:=101,tU32:=149,tPU32:=172,tPAU:=189,tPU64:=191,tNoCopy:=144,tANoCopy:=145,tAlign64:=146 }
theorem Tryz.JG:Go.Conc.Lib.WgLib Tryz.prog Tryz.link:=by
 constructor;all_goals first
  |kernel_rfl
  |(intro w;kernel_rfl)
end
section
open Go Go.Conc
noncomputable def iT:Array Oper:=match Tryz.f103.body with
 |some (.seq _ (.region _ ops _))=>ops
 |_=>#[]
noncomputable def B2(o:Oper):Oper:={ o with op:=.assign (.const (.int .i64 990099)) }
noncomputable def opsV:Array Oper:=(iT.modify 13 B2).modify 14 B2
noncomputable def u9:Array Oper:=#[{ dst:=some 5,op:=.move (.const (.bool true)),type:=4,pos := "",after:=#[],guard:=none },
 { dst:=some 0,op:=.move (.const (.int .i64 0)),type:=3,pos := "",after:=#[{ on:=0,ground:=.guard }],guard:=some (0,false) },
 { dst:=some 4,op:=.move (.const (.int .i64 0)),type:=3,pos := "",after:=#[{ on:=0,ground:=.guard }],guard:=some (0,false) },
 { dst:=some 5,op:=.move (.const (.int .i64 0)),type:=3,pos := "",after:=#[{ on:=0,ground:=.guard }],guard:=some (0,false) }]
noncomputable def yW:Func:={ Tryz.f103 with body:=some (.seq (.region 0 u9 false) (.region 1 opsV true)),results:=#[.tmp 17,.tmp 5],resultTypes:=#[4,3] }
noncomputable def sb:Code:=Tryz.f58.body.getD .skip
noncomputable def B3:Code:=match sb with | .seq _ (.seq _ (.seq _ (.seq _ r)))=>r|_=>.skip
noncomputable def l2:Code:=match B3 with | .seq _ r=>r|_=>.skip
noncomputable def rv:Array Oper:=#[{ dst:=some 16,op:=.move (.const (.bool true)),type:=4,pos := "",after:=#[],guard:=none },
 { dst:=some 2,op:=.move (.const (.int .i64 0)),type:=3,pos := "",after:=#[{ on:=0,ground:=.guard }],guard:=some (0,false) },
 { dst:=some 3,op:=.move (.const (.int .i64 0)),type:=3,pos := "",after:=#[{ on:=0,ground:=.guard }],guard:=some (0,false) },
 { dst:=some 4,op:=.move (.const (.int .i64 0)),type:=3,pos := "",after:=#[{ on:=0,ground:=.guard }],guard:=some (0,false) },
 { dst:=some 16,op:=.move (.const (.bool false)),type:=4,pos := "",after:=#[],guard:=none }]
noncomputable def ta:Func:={ Tryz.f58 with nfree:=4,body:=some (.seq (.region 90 rv false) l2) }
noncomputable def cl:Program:={ Tryz.prog with funcs:=(Tryz.prog.funcs.setIfInBounds 103 yW).setIfInBounds 58 ta }
theorem YO:iT.size=15:=by kernel_rfl
theorem abJ:AS opsV 13:=Xw (by kernel_rfl)
theorem O9:cl.funcs[103]?=some yW:=by kernel_rfl
theorem ID:cl.funcs[58]?=some ta:=by kernel_rfl
theorem YP(a0 eD a2 a3 a4:Value):Frame.enter cl 103 #[a0,eD,a2,a3,a4] .normal=⟨103,#[a0,eD,a2,a3,a4,undef,undef,undef,undef,undef,undef,undef,undef,undef,undef,undef,undef,undef,undef],[.code (.seq (.region 0 u9 false) (.region 1 opsV true))],[],.run,.normal,none⟩:=by
 unfold Frame.enter;rw[O9];rfl
theorem YQ{T:Frame->List Frame->World->Prop}(ek:∀f w,¬T f [dv] w){a0 eD a2 a3 a4:Value}{V:World}(h:m7 cl T (Frame.enter cl 103 #[a0,eD,a2,a3,a4] .normal) [dv] V):
  m7 cl T ⟨103,#[undef,eD,a2,a3,undef,undef,undef,undef,undef,undef,undef,undef,undef,undef,undef,undef,undef,undef,undef],[.code (.region 1 opsV true)],[],.run,.normal,none⟩ [dv] V:=by
 rw[YP]at h;have iP:∀(f:Frame)(w:World),¬∀τ d,T f [dv] (a8 w τ d):=λf w x=>ek _ _ (x default 0);have k1:=kF (f1:=⟨103,#[a0,eD,a2,a3,a4,undef,undef,undef,undef,undef,undef,undef,undef,undef,undef,undef,undef,undef,undef],[.code (.region 0 u9 false),.code (.region 1 opsV true)],[],.run,.normal,none⟩) (cs1:=[dv]) (w1:=λτ d=>a8 V τ d) h (iP _ _) λτ d=>⟨#[],rfl⟩;have bf:=kF (f1:=⟨103,#[a0,eD,a2,a3,a4,undef,undef,undef,undef,undef,undef,undef,undef,undef,undef,undef,undef,undef,undef],[.inRegion u9 [0,1,2,3],.code (.region 1 opsV true)],[],.run,.normal,none⟩) (cs1:=[dv]) (w1:=λτ d=>a8 V τ d) (k1 default 0) (iP _ _) λτ d=>⟨#[],rfl⟩;have bP:=kF (f1:=⟨103,#[a0,eD,a2,a3,a4,.bool true,undef,undef,undef,undef,undef,undef,undef,undef,undef,undef,undef,undef,undef],[.inRegion u9 [1,2,3],.code (.region 1 opsV true)],[],.run,.normal,none⟩) (cs1:=[dv]) (w1:=λτ d=>a8 V τ d) (bf default 0) (iP _ _) λτ d=>⟨_,rfl⟩;have cX:=kF (f1:=⟨103,#[undef,eD,a2,a3,a4,.bool true,undef,undef,undef,undef,undef,undef,undef,undef,undef,undef,undef,undef,undef],[.inRegion u9 [2,3],.code (.region 1 opsV true)],[],.run,.normal,none⟩) (cs1:=[dv]) (w1:=λτ d=>a8 V τ d) (bP default 0) (iP _ _) λτ d=>⟨_,rfl⟩;have fi:=kF (f1:=⟨103,#[undef,eD,a2,a3,undef,.bool true,undef,undef,undef,undef,undef,undef,undef,undef,undef,undef,undef,undef,undef],[.inRegion u9 [3],.code (.region 1 opsV true)],[],.run,.normal,none⟩) (cs1:=[dv]) (w1:=λτ d=>a8 V τ d) (cX default 0) (iP _ _) λτ d=>⟨_,rfl⟩;have ahD:=kF (f1:=⟨103,#[undef,eD,a2,a3,undef,undef,undef,undef,undef,undef,undef,undef,undef,undef,undef,undef,undef,undef,undef],[.inRegion u9 [],.code (.region 1 opsV true)],[],.run,.normal,none⟩) (cs1:=[dv]) (w1:=λτ d=>a8 V τ d) (fi default 0) (iP _ _) λτ d=>⟨_,rfl⟩;have tW:=kF (f1:=⟨103,#[undef,eD,a2,a3,undef,undef,undef,undef,undef,undef,undef,undef,undef,undef,undef,undef,undef,undef,undef],[.code (.region 1 opsV true)],[],.run,.normal,none⟩) (cs1:=[dv]) (w1:=λτ d=>a8 V τ d) (ahD default 0) (iP _ _) λτ d=>⟨#[],rfl⟩;exact tW V.tape V.drawn
end
section
open Go
section
variable(P:Program)(fs:Array Func)
theorem Jc:∀d t o,byteOfCell { P with funcs:=fs } d t o=byteOfCell P d t o
 |0,_,_=>rfl
 |d+1,t,o=>by
  unfold byteOfCell;have e:∀x y,byteOfCell { P with funcs:=fs } d x y=byteOfCell P d x y:=Jc d;simp only[e];rfl
theorem Rk:∀d t o,cellOfByte { P with funcs:=fs } d t o=cellOfByte P d t o
 |0,_,_=>rfl
 |d+1,t,o=>by
  unfold cellOfByte;have e:∀x y,cellOfByte { P with funcs:=fs } d x y=cellOfByte P d x y:=Rk d;simp only[e];rfl
theorem ado(d:Nat)(t:TypeId)(n o:Nat)(b:Int):cellAtBytes { P with funcs:=fs } d t n o b=cellAtBytes P d t n o b:=by
 unfold cellAtBytes;simp only[Jc,Rk];rfl
theorem Ja:∀d t,Program.eqGuardType { P with funcs:=fs } d t=P.eqGuardType d t
 |0,_=>rfl
 |d+1,t=>by
  unfold Program.eqGuardType;have e:∀x,Program.eqGuardType { P with funcs:=fs } d x=P.eqGuardType d x:=Ja d;simp only[e];rfl
theorem Rl:∀n t u,Program.alikeButTags { P with funcs:=fs } n t u=P.alikeButTags n t u
 |0,_,_=>rfl
 |n+1,t,u=>by
  unfold Program.alikeButTags;have e:Program.alikeButTags { P with funcs:=fs } n=P.alikeButTags n:=funext λx=>funext λy=>Rl n x y;rw[e]
theorem Re(t:TypeId):Program.stoodInHeld { P with funcs:=fs } t=P.stoodInHeld t:=by
 have e:Program.alikeButTags { P with funcs:=fs } P.depth=P.alikeButTags P.depth:=funext λx=>funext λy=>Rl P fs _ x y;have aO:Program.stoodInAs { P with funcs:=fs } t=P.stoodInAs t:=by
  show(if P.underlying t matches some (.struct _)then(P.cutTypes.toList.filter λc=>Program.alikeButTags { P with funcs:=fs } P.depth (P.underlyingId c.2) (P.underlyingId t)).map (·.1)else[])=_;rw[e];try rfl
 show((Program.stoodInAs { P with funcs:=fs } t).any λname=>((P.info? t).map (·.hasPointers)).getD true||!Program.vouched name)=_;rw[aO];try rfl
theorem Pa{C:ee}(U:∀f n,C.CL f n->∃fn cC,fs[f]?=some fn/\P.funcs[f]?=some cC/\fn.name ≠ "runtime.NumGoroutine" /\ cC.name ≠ "runtime.NumGoroutine" /\ fn.body.isSome=true/\cC.body.isSome=true)
  (ab:∀f,C.F f->∃fn cC,fs[f]?=some fn/\P.funcs[f]?=some cC/\fn.name ≠ "runtime.NumGoroutine" /\ cC.name ≠ "runtime.NumGoroutine" /\ fn.body.isSome=true/\cC.body.isSome=true):PP C { P with funcs:=fs } P:=
 ⟨λ_=>rfl,λ_=>rfl,rfl,rfl,λt=>(Re P fs t).symm,rfl,λd t=>(Ja P fs d t).symm,λ_=>rfl,λ_=>rfl,λd t o=>(Jc P fs d t o).symm,λd t n o b=>(ado P fs d t n o b).symm,U,ab⟩
end
end
section
open Go Go.Conc
def B4:List Nat:=[91,92,96,101,121,122,123,128,129,130,131,163,164]
def fc:FuncId->Bool:=λf=>B4.contains f
def GA:List Nat:=(List.range 176).filter λf=>!([0,1,2,58,102,103,105,132,133,134,135,136,137,138,139,140,141,142,143,144,145,146,147,148,149,165,166,167,168,169].contains f)
def iC:FuncId->Bool:=λf=>GA.contains f
noncomputable def okF(p p':Program)(F:FuncId->Bool)(f:FuncId):Bool:=match p.funcs[f]?,p'.funcs[f]? with
 |some fn,some cC=>(match fn.body,cC.body with
  |some c,some _=>codeOk p F c
  |_,_=>false)
 |_,_=>false
theorem aeq:B4.all (okF cl Tryz.prog fc)=true:=by kernel_rfl
theorem adp:GA.all (okF Tryz.prog Tryz.prog iC)=true:=by kernel_rfl
theorem C8:cl.funcs=(Tryz.prog.funcs.setIfInBounds 103 yW).setIfInBounds 58 ta:=by kernel_rfl
theorem Qe{f:FuncId}(h:f≠103)(ab:f≠58):cl.funcs[f]?=Tryz.prog.funcs[f]?:=by rw[C8,Array.getElem?_setIfInBounds_ne (Ne.symm ab),Array.getElem?_setIfInBounds_ne (Ne.symm h)]
theorem Rm{p p':Program}{F:FuncId->Bool}{l:List Nat}(lh:l.all (okF p p' F)=true)(ak:∀f,F f=true->f∈l)(ao:∀f,f∈l->p.funcs[f]?=p'.funcs[f]?):∀f,F f=true->∃fn cC c,p.funcs[f]?=some fn/\p'.funcs[f]?=some cC/\fn.body=some c/\cC.body=some c/\cC=fn/\codeOk p F c=true:=λf aQ=>by
 have hm:=ak f aQ;have:=List.all_eq_true.1 lh f hm;unfold okF at this;split at this
 ·rename_i fn cC U ab;have e:=ao f hm;rw[U,ab]at e;cases e;split at this
  ·rename_i c c' al aJ;rw[al]at aJ;cases aJ;exact⟨fn,fn,c,U,ab,al,al,rfl,this⟩
  ·cases this
 ·cases this
theorem Ql{f:FuncId}(h:fc f=true):f∈B4:=by simpa[fc]using h
theorem Rn{f:FuncId}(h:iC f=true):f∈GA:=by simpa[iC]using h
theorem adq:B4.all (λf=>f != 103&&f != 58)=true:=by kernel_rfl
theorem Sn:pk cl Tryz.prog fc:=by
 refine⟨λf aQ=>?_,by kernel_rfl⟩;obtain⟨fn,cC,c,U,ab,al,aJ,e,bm⟩:=Rm aeq (λf h=>Ql h) (λf hm=>by
  have:=List.all_eq_true.1 adq f hm;simp only[Bool.and_eq_true,bne_iff_ne,ne_eq]at this;exact Qe this.1 this.2) f aQ
 subst e;exact⟨_,_,c,U,ab,al,aJ,rfl,rfl,bm⟩
theorem adr:pk Tryz.prog Tryz.prog iC:=by
 refine⟨λf aQ=>?_,by kernel_rfl⟩;obtain⟨fn,cC,c,U,ab,al,aJ,e,bm⟩:=Rm adp (λf h=>Rn h) (λf hm=>rfl) f aQ;subst e;exact⟨_,_,c,U,ab,al,aJ,rfl,rfl,bm⟩
noncomputable def vu(p p':Program)(f:FuncId):Bool:=match p.funcs[f]?,p'.funcs[f]? with
 |some fn,some cC=>fn.name != "runtime.NumGoroutine" && cC.name != "runtime.NumGoroutine" && fn.body.isSome&&cC.body.isSome
 |_,_=>false
theorem aer:B4.all (vu cl Tryz.prog)=true:=by kernel_rfl
theorem ads:GA.all (vu Tryz.prog Tryz.prog)=true:=by kernel_rfl
theorem aes:((List.range Tryz.prog.funcs.size).filter λf=>o4 cl f).all (λf=>vu cl Tryz.prog f)=true:=by kernel_rfl
theorem adt:((List.range Tryz.prog.funcs.size).filter λf=>o4 Tryz.prog f).all (λf=>vu Tryz.prog Tryz.prog f)=true:=by kernel_rfl
theorem ET{p p':Program}{f:FuncId}(h:vu p p' f=true):∃fn cC,p.funcs[f]?=some fn/\p'.funcs[f]?=some cC/\fn.name ≠ "runtime.NumGoroutine" /\ cC.name ≠ "runtime.NumGoroutine" /\ fn.body.isSome=true/\cC.body.isSome=true:=by
 unfold vu at h;split at h
 ·rename_i fn cC U ab;simp only[Bool.and_eq_true,bne_iff_ne,ne_eq]at h;exact⟨fn,cC,U,ab,h.1.1.1,h.1.1.2,h.1.2,h.2⟩
 ·cases h
theorem Nq{p:Program}{f:FuncId}(h:o4 p f=true):f<p.funcs.size:=by
 unfold o4 at h;split at h
 ·rename_i fn U;exact(Array.getElem?_eq_some_iff.1 U).1
 ·cases h
theorem ahE{f:FuncId}(h:o4 cl f=true):vu cl Tryz.prog f=true:=by
 refine List.all_eq_true.1 aes f (List.mem_filter.2 ⟨List.mem_range.2 ?_,h⟩);have:=Nq h;rw[C8]at this;simpa using this
theorem afN{f:FuncId}(h:o4 Tryz.prog f=true):vu Tryz.prog Tryz.prog f=true:=
 List.all_eq_true.1 adt f (List.mem_filter.2 ⟨List.mem_range.2 (Nq h),h⟩)
theorem Ti:PP (bH cl fc) cl Tryz.prog:=by
 have:=Pa (C:=bH cl fc) Tryz.prog ((Tryz.prog.funcs.setIfInBounds 103 yW).setIfInBounds 58 ta) (λf n h=>by
  have ab:o4 cl f=true:=h.1;obtain⟨fn,cC,k1,bf,bP⟩:=ET (ahE ab);rw[C8]at k1;exact⟨fn,cC,k1,bf,bP⟩) (λf h=>by
  obtain⟨fn,cC,k1,bf,bP⟩:=ET (List.all_eq_true.1 aer f (Ql h));rw[C8]at k1;exact⟨fn,cC,k1,bf,bP⟩)
 exact this
theorem aet:PP (bH Tryz.prog iC) Tryz.prog Tryz.prog:=by
 have:=Pa (C:=bH Tryz.prog iC) Tryz.prog Tryz.prog.funcs (λf n h=>ET (afN h.1)) (λf h=>ET (List.all_eq_true.1 ads f (Rn h)));exact this
end
end Go.Proofs.YtlminnpaeaganaaGreat
