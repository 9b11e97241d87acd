/- Part of the proof of TopTwins. No condition. -/
import Derived.RangeFuncRecord
import Derived.RangeFuncLeaves
import Derived.OrdersIn
import Derived.Test.YtjfejoadcdoobaaMTopTwinsAE
namespace Go.Proofs.Ytjfejoadcdoobaa
set_option maxRecDepth 100000
set_option linter.all false
section
open Go Go.RowKit
variable[Sp]
section
variable{P:Program}{φ:Phi}{w:World}{A:Anchor}{N n:Nat}{s:St}{a:Act}{K:St->Prop}{Q:Exit->Act->World->Prop}{r:Option Nat}{m:Mem}
mutual
theorem sub1_new{a0:Nat}(hA:∀i b,φ.arr i=some b->i<a0){e:Eff}(he:a0<=e.id):∀(q:PV)(c:Value),VRel φ w q c->q.sub1 e=q
 |.sl (some i) sz off len cs,c,h=>by
  simp only[VRel]at h;obtain⟨_,a,cap,_,_,h⟩:=h;rcases h with h|⟨b,_,hp,hat⟩
  ·exact absurd h.1 (by simp)
  ·have hi:i≠e.id:=by have:=hA i b hp.1;omega
   have hl:=subAt_new hA he b cs off hat;cases e<;>simp only[PV.sub1,Eff.id]at hi⊢<;>rw[if_neg hi,hl]
 |.sl none sz off len cs,c,h=>by
  simp only[VRel]at h;obtain⟨hl,a,cap,_,_,h⟩:=h;rcases h with h|⟨b,_,hp,hat⟩
  ·have:cs=[]:=List.eq_nil_of_length_eq_zero (by rw[hl,h.2.1];simp);subst this;simp[PV.sub1,subL1]
  ·simp only[PV.sub1];rw[subAt_new hA he b cs off hat]
 |.eref (some i) off cs,c,h=>by
  simp only[VRel]at h;obtain⟨b,_,hp,hat⟩:=h;have hi:i≠e.id:=by have:=hA i b hp.1;omega
  have hl:=subAt_new hA he b cs off hat;cases e<;>simp only[PV.sub1,Eff.id]at hi⊢<;>rw[if_neg hi,hl]
 |.eref none off cs,c,h=>by
  simp only[VRel]at h;obtain⟨b,_,hp,hat⟩:=h;simp only[PV.sub1];rw[subAt_new hA he b cs off hat]
 |.fn f caps,c,h=>by
  simp only[VRel]at h;obtain⟨vs,_,h⟩:=h;simp only[PV.sub1];rw[subL_new hA he caps vs h]
 |.agg cs,c,h=>by
  simp only[VRel]at h;obtain⟨vs,_,h⟩:=h;simp only[PV.sub1];rw[subL_new hA he cs vs h]
 |.tup cs,c,h=>by
  simp only[VRel]at h;obtain⟨vs,_,h⟩:=h;simp only[PV.sub1];rw[subL_new hA he cs vs h]
 |.mp it none sz cs,c,h=>by simp only[PV.sub1]
 |.mp it (some i) sz cs,c,h=>by
  simp only[VRel]at h;obtain⟨b,_,hp,_⟩:=h;have hi:i≠e.id:=by have:=hA i b hp;omega
  cases e<;>simp only[PV.sub1,Eff.id]at hi⊢<;>rw[if_neg hi]
 |.int _ _,_,_ | .bool _,_,_ | .str _,_,_ | .undef,_,_ | .bad,_,_ | .nilp,_,_ | .nilfn,_,_ | .snil,_,_ | .dead _,_,_ | .yld _,_,_ | .ptr _ _,_,_ | .hd _ _ _,_,_=>by simp only[PV.sub1]
theorem subL_new{a0:Nat}(hA:∀i b,φ.arr i=some b->i<a0){e:Eff}(he:a0<=e.id):∀(l:List PV)(vs:List Value),VRelL φ w l vs->subL1 e l=l
 |[],_,_=>rfl
 |p::l,vs,h=>by
  simp only[VRelL]at h;obtain⟨v,vs',_,h0,h1⟩:=h;simp only[subL1];rw[sub1_new hA he p v h0,subL_new hA he l vs' h1]
theorem subAt_new{a0:Nat}(hA:∀i b,φ.arr i=some b->i<a0){e:Eff}(he:a0<=e.id)(b:Nat):∀(l:List PV)(off:Nat),VRelAt φ w b l off->subL1 e l=l
 |[],_,_=>rfl
 |p::l,off,h=>by
  simp only[VRelAt]at h;obtain⟨⟨c,_,h0⟩,h1⟩:=h;simp only[subL1];rw[sub1_new hA he p c h0,subAt_new hA he b l (off+1) h1]
end
theorem sub_dropNew{a0:Nat}(hA:∀i b,φ.arr i=some b->i<a0){q:PV}{c:Value}(h:VRel φ w q c):∀E:List Eff,q.sub (dropNew a0 E)=q.sub E
 |[]=>rfl
 |e::E=>by
  simp only[dropNew];split
  ·rename_i he;rw[sub_dropNew hA h E];show _=PV.sub E (q.sub1 e);rw[sub1_new hA he q c h]
  ·rfl
theorem Step.drop{φ0:Phi}{w0:World}{a0:Nat}(hA:∀i b,φ0.arr i=some b->i<a0){E:List Eff}(h:Step φ0 w0 φ w E):Step φ0 w0 φ w (dropNew a0 E):=
 ⟨λq c hq=>by rw[sub_dropNew hA hq];exact h.tr q c hq,h.os,h.output,h.size,h.rest⟩
theorem Anch.add{a0:Nat}(hA:∀i b,A.φ0.arr i=some b->i<a0){eff E:List Eff}(h:Anch A φ w (eff++E)):Anch A φ w (addEff a0 eff E):=by
 cases eff with
 |nil=>exact⟨h.st.drop hA,h.re⟩
 |cons e es=>exact h
def ORel(φ:Phi)(w:World):Option PV->Option Value->Prop
 |none,none=>True
 |some p,some v=>VRel φ w p v
 |_,_=>False
theorem bound_ok{lo:Option PV}{vlo:Option Value}{d l y:Nat}(h:aBnd d lo=some l)(hr:ORel φ w lo vlo)(hy:l<=y)(c:BoundsCode):
  (match vlo with|some v=>Instr.sliceBound v y c|none=>pure d:Sem Nat).run P w=.ok l w:=by
 cases lo with
 |none=>cases vlo with
  |none=>simp only[aBnd]at h;injection h with h;subst h;simp
  |some v=>exact hr.elim
 |some p=>cases vlo with
  |none=>exact hr.elim
  |some v=>
   cases p with
   |int k nn=>
    simp only[aBnd]at h;split at h
    ·rename_i h0;injection h with h;have e:v=.int k nn:=hr;subst e;subst h;simp[Instr.sliceBound,asIntOf,h0,show nn<=(y:Int)by omega]
    ·cases h
   |_=>simp[aBnd]at h
theorem slice_ok{t:TypeId}{x pv:PV}{lo hi:Option PV}{vx:Value}{vlo vhi:Option Value}(h:aSlice P t x lo hi=some pv)(hx:VRel φ w x vx)(hlo:ORel φ w lo vlo)(hhi:ORel φ w hi vhi):
  ∃v,(Instr.sliceAt t vx vlo vhi none).run P w=.ok v w/\VRel φ w pv v:=by
 unfold aSlice at h;split at h
 ·rename_i e id sz off len cs hu;split at h
  ·rename_i l hh hl1 hh1;split at h
   ·rename_i hc;obtain⟨hle,hlen,hsz,hin⟩:=hc;have hs:=run_sizeOf (w:=w) hin;obtain⟨hcs,ax,cap,rfl,hcap,hp⟩:=hx;have hrun:(Instr.sliceAt t (.slice ax len cap) vlo vhi none).run P w=.ok (.slice (if cap=l then ax else ax.map (·.add (l*sz))) (hh-l) (cap-l)) w:=by
     have hb:(Instr.sliceBounds true len cap vlo vhi none).run P w=.ok (l,hh,cap) w:=by
      have h1:=bound_ok (P:=P) hh1 hhi (y:=cap) (by omega) .sliceAcap;have h2:=bound_ok (P:=P) hl1 hlo (y:=hh) hle .sliceB;cases vhi<;>cases vlo<;>simp[Instr.sliceBounds]at h1 h2⊢<;>simp[*]
     simp[Instr.sliceAt,Instr.slice,run_underlying hu,hb,hs,hsz]
    refine⟨_,hrun,?_⟩;split at h
    ·rename_i he;injection h with h;subst h;subst he;have hax:ax.isSome:=by
      rcases hp with hp|⟨b,rfl,_,_⟩
      ·exact hp.2.2
      ·rfl
     exact⟨by simp,_,_,by rw[Nat.sub_self],by omega,.inl ⟨rfl,rfl,by split<;>simpa using hax⟩⟩
    ·rename_i he;injection h with h;subst h;rw[if_neg (by omega)];rcases hp with hp|⟨b,rfl,hp,hat⟩
     ·omega
     ·refine⟨?_,_,_,rfl,by omega,.inr ⟨b,by simp[add_mk],place_any hp ?_,vrelAt_take (vrelAt_drop hat _) _⟩⟩
      ·rw[List.length_take,List.length_drop,hcs,←Nat.sub_mul];exact Nat.min_eq_left (Nat.mul_le_mul_right _ (by omega))
      ·rw[Nat.add_assoc,←Nat.add_mul];have:l+(cap-l)=cap:=by omega
       rw[this];exact Nat.le_refl _
   ·cases h
  ·cases h
 ·rename_i e hu;split at h
  ·rename_i l hh hl1 hh1;split at h
   ·rename_i hc;obtain⟨rfl,rfl,hin⟩:=hc;injection h with h;subst h;have hs:=run_sizeOf (w:=w) hin;have hx':vx=.slice none 0 0:=hx;subst hx';refine⟨.slice none 0 0,?_,rfl⟩;have hb:(Instr.sliceBounds true 0 0 vlo vhi none).run P w=.ok (0,0,0) w:=by
     have h1:=bound_ok (P:=P) hh1 hhi (y:=0) (by omega) .sliceAcap;have h2:=bound_ok (P:=P) hl1 hlo (y:=0) (by omega) .sliceB;cases vhi<;>cases vlo<;>simp[Instr.sliceBounds]at h1 h2⊢<;>simp[*]
    simp[Instr.sliceAt,Instr.slice,run_underlying hu,hb,hs]
   ·cases h
  ·cases h
 ·rename_i c hu;split at h
  ·rename_i l hh hl1 hh1;split at h
   ·rename_i hc;injection h with h;subst h;have hx':vx=.string c:=hx;subst hx';have hb:(Instr.sliceBounds false c.size c.size vlo vhi none).run P w=.ok (l,hh,c.size) w:=by
     have h1:=bound_ok (P:=P) hh1 hhi (y:=c.size) hc.2 .sliceAlen;have h2:=bound_ok (P:=P) hl1 hlo (y:=hh) hc.1 .sliceB;cases vhi<;>cases vlo<;>simp[Instr.sliceBounds]at h1 h2⊢<;>simp[*]
    refine⟨.string (c.extract l hh),?_,rfl⟩;simp[Instr.sliceAt,Instr.slice,run_underlying hu,hb]
   ·cases h
  ·cases h
 ·cases h
theorem readY_now(hst:Anch A φ w s.eff)(hY:ReadY s.a0.ys A.φ0 A.w0):ReadY s.nowY φ w:=by
 intro y hy t;obtain⟨y0,h0,rfl⟩:=List.mem_map.1 hy;exact hst.st.tr _ _ (hY y0 h0 t)
theorem good_call{o:Oper}{c:Call}{f:Operand}{g:FuncId}{caps:List PV}(ho:o.op=.call c)(hcal:c.callee=.value f)(h:SRel φ w N s a)(hst:Anch A φ w s.eff)(hd:∀t,o.dst=some t->t<N)
  (hA:∀i b,A.φ0.arr i=some b->i<s.a0.a) (hf:s.ev f=.fn g caps) (hg:∃fn,P.funcs[fnG g]?=some fn/\fn.name ≠ "runtime.NumGoroutine" /\ fn.body.isSome)
  (hY:ReadY s.a0.ys A.φ0 A.w0) (hK:ECallsY P s.nowY (fnG g) (fnA g (c.args.toList.map s.ev) caps) s.m λv E m'=>K ((s.after E m').put o.dst v)):o.wpX r P a w (Good A N a.defers K) Q:=by
 have hdf:∀c,o.op≠.defer c:=λc e=>by rw[ho]at e;cases e
 refine wpX_of_run hdf ?_;have hfv:=h.ev f;rw[hf]at hfv;obtain⟨vs,hv,hvs⟩:=hfv;obtain⟨fn,hfn,hname,hbody⟩:=hg;obtain⟨code,hcode⟩:=Option.isSome_iff_exists.1 hbody;have hrel:VRelL φ w (fnA g (c.args.toList.map s.ev) caps) (fnA g (c.args.toList.map a.eval) vs):=by
  unfold fnA;split
  ·exact vrelL_append (h.evs _) hvs
  ·exact vrelL_append hvs (h.evs _)
 have hrun:(execOp a.eval o).run P w=.ok (.enter (fnG g) (fnA g (c.args.toList.map a.eval) vs).toArray) w:=by
  have hargs:c.args.map a.eval=(c.args.toList.map a.eval).toArray:=by
   obtain⟨l⟩:=c.args;simp
  obtain⟨g',F,C,e1,e2,e3⟩:=fnV_form g vs (c.args.toList.map a.eval);rw[e2]at hv;rw[e1]at hfn;rw[e3,e1,←hargs];simp[execOp,ho,resolve,hcal,hv,Deferred.ofValue,invoke,callFunc,hfn,hname,hcode]
 rw[hrun];simp only[Oper.uponX];refine(hK φ _ w h.mem hrel (readY_now hst hY)).mono ?_;rintro e w' ⟨v,pv,E,m',φ',rfl,hpv,hm',hstep,hk⟩;refine⟨_,φ',?_,?_,put_defers _ _ _,hk⟩
 ·have h1:SRel φ' w' N (s.after E m') a:=⟨λt=>hstep.tr _ _ (h.tmp t),h.size,hm'⟩;exact h1.put hd hpv
 ·rw[St.put_eff,St.after_eff];exact Anch.add hA (hst.trans hstep)
theorem good_yield{o:Oper}{c:Call}{f:Operand}{l:Nat}{y:YRec}{st:LoopState}{pd:Option Code}(ho:o.op=.call c)(hcal:c.callee=.value f)(h:SRel φ w N s a)(hst:Anch A φ w s.eff)(hd:∀t,o.dst=some t->t<N)
  (hA:∀i b,A.φ0.arr i=some b->i<s.a0.a) (hf:s.ev f=.yld l) (hY:ReadY s.a0.ys A.φ0 A.w0) (hrc:(l,{ y.o with state:=st,pending:=pd })∈s.m.rc) (hn:c.args.size=y.o.params.size)
  (hK:EYield P s.nowY y.o l (c.args.toList.map s.ev) s.m λv E m'=>K ((s.after E m').put o.dst v)):o.wpX r P a w (Good A N a.defers K) Q:=by
 have hdf:∀c,o.op≠.defer c:=λc e=>by rw[ho]at e;cases e
 refine wpX_of_run hdf ?_;have hfv:=h.ev f;rw[hf]at hfv;have hv:a.eval f=.func (.yield l) #[] #[]:=hfv;have hheap:=h.mem.rcs _ _ hrc;have hargs:c.args.map a.eval=(c.args.toList.map a.eval).toArray:=by
  obtain⟨l⟩:=c.args;simp
 have hrun:(execOp a.eval o).run P w=.ok (.round l y.o.fn ((y.o.params.zip (c.args.toList.map a.eval).toArray).foldl (λtmps (t,a)=>tmps.setIfInBounds t a) y.o.tmps) y.o.assign y.o.body) w:=by
  rw[←hargs];have hy:=run_yield (P:=P) (args:=c.args.map a.eval) hheap (by simpa using hn);simp[execOp,ho,resolve,hcal,hv,Deferred.ofValue,invoke,hy]
 rw[hrun];simp only[Oper.uponX];refine(hK φ _ w 0 h.mem (h.evs _) (readY_now hst hY)).mono ?_;rintro e w' ⟨v,pv,E,m',φ',rfl,hpv,hm',hstep,hk⟩;refine⟨_,φ',?_,?_,put_defers _ _ _,hk⟩
 ·have h1:SRel φ' w' N (s.after E m') a:=⟨λt=>hstep.tr _ _ (h.tmp t),h.size,hm'⟩;exact h1.put hd hpv
 ·rw[St.put_eff,St.after_eff];exact Anch.add hA (hst.trans hstep)
theorem opW_sound{o:Oper}(h:SRel φ w N s a)(hst:Anch A φ w s.eff)(hd:∀t,o.dst=some t->t<N)(hA:∀i b,A.φ0.arr i=some b->i<s.a0.a)(hY:ReadY s.a0.ys A.φ0 A.w0)(hK:opW P s o K):
  o.wpX r P a w (Good A N a.defers K) Q:=by
 obtain⟨dst,op,type,pos,after,guard⟩:=o;simp only at hd;cases op with
 |move x=>exact good_val (by simp) h hst hd (by simp[execOp]) (h.ev x) hK
 |assign x=>exact good_val (by simp) h hst hd (by simp[execOp]) (h.ev x) hK
 |pick c x y=>
  obtain⟨t,hc,hK⟩:=hK;have e:=h.ev c;rw[hc]at e;have e:=rel_bool e;cases t
  ·exact good_val (by simp) h hst hd (by simp[execOp,e,asBool]) (h.ev y) hK
  ·exact good_val (by simp) h hst hd (by simp[execOp,e,asBool]) (h.ev x) hK
 |binOp op t x y yt=>
  obtain⟨pv,hb,hK⟩:=hK;obtain⟨v,hr,hv⟩:=bin_ok hb (h.ev x) (h.ev y) x y;refine good_val (by simp) h hst hd (v:=v) ?_ hv hK;show((do eqGuard op t x y (a.eval x) (a.eval y);binOp op t (a.eval x) (a.eval y):Sem Value) >>= λu=>pure (Next.value u)).run P w=_;rw[Sem.run_bind,hr];rfl
 |unOp op t x=>
  obtain⟨pv,hb,hK⟩:=hK;obtain⟨v,hr,hv⟩:=un_ok (P:=P) hb (h.ev x);exact good_val (by simp) h hst hd (by simp[execOp,hr]) hv hK
 |convert src dt x=>
  obtain⟨pv,hb,hK⟩:=hK;obtain⟨v,hr,hv⟩:=conv_ok hb (h.ev x);exact good_val (by simp) h hst hd (by simp[execOp,hr]) hv hK
 |extract x i=>
  simp only[opW]at hK;split at hK
  ·rename_i vs he;obtain⟨pv,hb,hK⟩:=hK;have e:=h.ev x;rw[he]at e;obtain⟨us,e,hus⟩:=e;obtain⟨v,hv,hr⟩:=vrelL_get hus hb;exact good_val (by simp) h hst hd (by simp[execOp,e,Instr.extract,hv]) hr hK
  ·exact hK.elim
 |fieldAddr t x f=>
  obtain⟨pv,hb,hK⟩:=hK;obtain⟨v,hr,hv⟩:=field_ok hb (h.ev x);exact good_val (by simp) h hst hd (by simp[execOp,hr]) hv hK
 |field t x f=>
  obtain⟨pv,hb,hK⟩:=hK;obtain⟨v,hr,hv⟩:=fieldV_ok hb (h.ev x);exact good_val (by simp) h hst hd (by simp[execOp,hr]) hv hK
 |indexAddr t x i=>
  obtain⟨pv,hb,hK⟩:=hK;obtain⟨v,hr,hv⟩:=indexAddr_ok hb (h.ev x) (h.ev i);exact good_val (by simp) h hst hd (by simp[execOp,hr]) hv hK
 |index t x i=>
  obtain⟨pv,hb,hK⟩:=hK;obtain⟨v,hr,hv⟩:=index_ok hb (h.ev x) (h.ev i);exact good_val (by simp) h hst hd (by simp[execOp,hr]) hv hK
 |load t x=>
  obtain⟨pv,hb,hK⟩:=hK;obtain⟨v,hr,hv⟩:=load_ok hb h.mem (h.ev x);exact good_val (by simp) h hst hd (by simp[execOp,hr]) hv hK
 |build t parts=>
  obtain⟨pv,hb,hK⟩:=hK;obtain⟨v,hr,hv⟩:=build_ok h hb;exact good_val (by simp) h hst hd (by simp only[execOp,Sem.run_bind,hr,Result.andThen_ok,Sem.run_pure]) hv hK
 |nilCheck x=>
  simp only[opW]at hK;split at hK
  ·rename_i i off he;have e:=h.ev x;rw[he]at e;obtain⟨b,hb,e⟩:=e;exact good_val (by simp) h hst hd (v:=.pointer (some ⟨b,off,none⟩)) (pv:=.ptr i off) (by simp[execOp,e]) ⟨b,hb,rfl⟩ hK
  ·rename_i f caps he;have e:=h.ev x;rw[he]at e;obtain⟨vs,e,hvs⟩:=e;exact good_val (by simp) h hst hd (v:=fnV f vs) (pv:=.fn f caps) (by obtain⟨g',F,C,_,e2,_⟩:=fnV_form f vs [];rw[e2]at e⊢;simp[execOp,e]) ⟨vs,rfl,hvs⟩ hK
  ·exact hK.elim
 |box t x=>
  obtain⟨hk,hK⟩:=hK;exact good_box (by simp) h hst hd (e:=t) (cs:=(a.eval x).cells.toList) (by simp[execOp,Instr.box,newVar,newRow]) (rel_cells (h.ev x) hk) hK
 |alloc t=>
  obtain⟨z,hz,hK⟩:=hK;obtain⟨i,zv,hi,hzv,rfl⟩:=zeroCs_some hz;exact good_box (by simp) h hst hd (e:=t) (cs:=zv.cells.toList) (by simp[execOp,Instr.alloc,zeroValue,typeInfo,hi,hzv,newVar,newRow]) (vrelL_const φ w _) hK
 |makeMap t r=>
  obtain⟨rfl,hK⟩:=hK;split at hK
  ·rename_i kt e hu;rcases hK with hK|⟨sc,hK⟩
   ·exact good_makeMap rfl h hst hd hu hK
   ·exact good_makeTab rfl h hst hd hK
  ·exact hK.elim
 |mapUpdate t m k x=>
  obtain⟨hdst,hK⟩:=hK;split at hK
  ·rename_i kt e id sz cs key hu hx hk;obtain⟨h1,h2,h3,h4,h5,h6⟩:=hK;exact good_update (.inl rfl) h hst hd (λ_ _ _ ha=>Anch.add hA ha) hu h1 hdst hx hk h2 h3 h4 h5 h6
  ·rename_i kt e sc id sz cs hu hx;obtain⟨h1,cs',h2,h3⟩:=hK;exact good_updateT (.inl rfl) h hst hd (λ_ _ _ ha=>Anch.add hA ha) hu h1 hdst hx h2 h3
  ·exact hK.elim
 |insert t m k x=>
  obtain⟨hdst,hK⟩:=hK;split at hK
  ·rename_i kt e id sz cs key hu hx hk;obtain⟨h1,h2,h3,h4,h5,h6⟩:=hK;exact good_update (.inr rfl) h hst hd (λ_ _ _ ha=>Anch.add hA ha) hu h1 hdst hx hk h2 h3 h4 h5 h6
  ·rename_i kt e sc id sz cs hu hx;obtain⟨h1,cs',h2,h3⟩:=hK;exact good_updateT (.inr rfl) h hst hd (λ_ _ _ ha=>Anch.add hA ha) hu h1 hdst hx h2 h3
  ·exact hK.elim
 |lookup t m k ok=>
  simp only[opW]at hK;split at hK
  ·rename_i kt e sc id sz cs hu hx;obtain⟨h1,v,h2,h3⟩:=hK;exact good_lookup rfl h hst hd hu h1 hx h2 h3
  ·exact hK.elim
 |range t x=>
  simp only[opW]at hK;split at hK
  ·rename_i kt e sz cs hu hx;exact good_range rfl h hst hd hu hx hK.1 hK.2
  ·rename_i c hu hx;exact good_rangeS rfl h hst hd hu hx hK
  ·exact hK.elim
 |next x str=>
  simp only[opW]at hK;split at hK
  ·rename_i id c pos hx;obtain⟨rfl,h0,hK⟩:=hK;exact good_nextS rfl h hst hd (λ_ _ _ ha=>Anch.add hA ha) hx hK
  ·rename_i id sz cs hx;obtain⟨rfl,hK⟩:=hK;exact good_next rfl h hst hd (λ_ _ _ ha=>Anch.add hA ha) hK.1 hx hK.2.1 hK.2.2
  ·exact hK.elim
 |entry x=>
  simp only[opW]at hK;split at hK
  ·rename_i id sz cs hx;exact good_entry rfl h hst hd hx hK.2.1 hK.2.2
  ·exact hK.elim
 |makeFunc fn first caps=>
  cases fn with
  |func f=>
   rcases hK with⟨hlt,rfl,hK⟩|⟨rfl,hK⟩
   ·obtain⟨l⟩:=caps;exact good_val (by simp) h hst hd (v:=.func (.func f) #[] (l.map a.eval).toArray) (pv:=.fn f (l.map s.ev)) (by simp[execOp,Instr.makeFunc]) ⟨l.map a.eval,(fnV_lt hlt _).symm,h.evs l⟩ hK
   ·obtain⟨l⟩:=first
    exact good_val (by simp) h hst hd (v:=.func (.func f) (l.map a.eval).toArray #[]) (pv:=.fn (f+fnB) (l.map s.ev)) (by simp[execOp,Instr.makeFunc]) ⟨l.map a.eval,(fnV_add f _).symm,h.evs l⟩ hK
  |_=>exact hK.elim
 |slice t x lo hi mx=>
  cases mx with
  |some _=>exact hK.elim
  |none=>
   obtain⟨pv,hb,hK⟩:=hK;obtain⟨v,hr,hv⟩:=slice_ok (vlo:=lo.map a.eval) (vhi:=hi.map a.eval) hb (h.ev x) (by cases lo<;>simp[ORel,h.ev]) (by cases hi<;>simp[ORel,h.ev]);exact good_val (by simp) h hst hd (by simp[execOp,hr]) hv hK
 |buildSlice t len parts=>
  simp only[opW]at hK;split at hK
  ·rename_i e z hu hz;rw[hu]at hz;obtain⟨hi,hzl,hpos,hbig,cs,hf,hK⟩:=hK;rcases hK with hK|hK|hK
   ·exact good_buildSlice rfl h hst hd hu hz hi hzl hpos hbig hf hK
   ·exact good_buildAnon rfl h hst hd hu hz hi hzl hpos hbig hf hK
   ·exact good_buildHd rfl h hst hd hu hz hi hzl hpos hbig hf hK
  ·exact hK.elim
 |makeSlice t l c=>
  simp only[opW]at hK;split at hK
  ·rename_i e ln cn hu hl hc;obtain⟨z,hz,hzl,hpos,hi,h0,hle,hby,h63,hK⟩:=hK;exact good_make rfl h hst hd hu hl hc hz hzl hpos hi h0 hle hby h63 hK
  ·exact hK.elim
 |store t x y=>
  obtain⟨hdst,hK⟩:=hK;simp only at hdst;subst hdst;simp only[aStore]at hK;split at hK
  ·rename_i id off hx;obtain⟨hid,hi,hc,h1,l,hβ,hf,hK⟩:=hK;have hk:(s.ev y).known=true:=by cases hy:s.ev y<;>first|rfl|(rw[hy]at h1;simp[PV.cells,PV.one]at h1)
   have e:=h.ev x;rw[hx]at e;obtain⟨w',hr,hm',hstep⟩:=store_box hi hc h1 h.mem hid hβ hf e (h.ev y) hk;refine wpX_of_run (by simp) ?_;have hrun:(execOp a.eval ⟨none,.store t x y,type,pos,after,guard⟩).run P w=.ok .skip w':=by simp[execOp,hr]
   rw[hrun];refine⟨s.setBox id (splice l off (s.ev y).cells),φ,⟨λu=>hstep.tr _ _ (h.tmp u),h.size,hm'⟩,?_,rfl,hK⟩;have:=hst.trans hstep;simpa using this
  ·rename_i id off cs hx;obtain⟨hi,hpos,hc,h1,hle,hn,hK⟩:=hK;have hk:(s.ev y).known=true:=by cases hy:s.ev y<;>first|rfl|(rw[hy]at h1;simp[PV.cells,PV.one]at h1)
   have e:=h.ev x;rw[hx]at e;obtain⟨w',hr,hm',hstep⟩:=store_arr hi hpos hc h1 hle hn h.mem e (h.ev y) hk;refine wpX_of_run (by simp) ?_;have hrun:(execOp a.eval ⟨none,.store t x y,type,pos,after,guard⟩).run P w=.ok .skip w':=by simp[execOp,hr]
   rw[hrun];refine⟨s.hit (wrs id off (s.ev y).cells),φ,⟨λu=>hstep.tr _ _ (h.tmp u),h.size,hm'⟩,?_,rfl,hK⟩;rw[St.hit_eff];exact Anch.add hA (hst.trans hstep)
  ·exact hK.elim
 |call c=>
  simp only[opW]at hK;split at hK
  ·rename_i f hcal;split at hK
   ·rename_i g caps hf;exact good_call rfl hcal h hst hd hA hf hK.1 hY hK.2
   ·rename_i l hf;obtain⟨y,st,pd,h1,h2,h3,h4,h5⟩:=hK;exact good_yield rfl hcal h hst hd hA hf hY h3 h4 h5
   ·exact hK.elim
  ·rename_i hcal;split at hK
   ·rename_i t x ht hx;obtain⟨pv,hb,hK⟩:=hK;obtain⟨callee,args,ts⟩:=c;obtain⟨l⟩:=args;simp only at hcal hx ht;subst hcal;subst hx;obtain⟨v,hr,hv⟩:=len_ok (P:=P) ht hb (h.ev x) type;exact good_val (by simp) h hst hd (by simp[execOp,resolve,invoke,builtin,hr]) hv hK
   ·exact hK.elim
  ·rename_i hcal;obtain⟨pv,hb,hK⟩:=hK;obtain⟨callee,args,ts⟩:=c;obtain⟨l⟩:=args;simp only at hcal;subst hcal;obtain⟨v,hr,hv⟩:=(mm_ok (P:=P) (pv:=pv) (h.evs l) ts type).1 hb;exact good_val (by simp) h hst hd (by simp[execOp,resolve,invoke,builtin,hr]) hv hK
  ·rename_i hcal;obtain⟨pv,hb,hK⟩:=hK;obtain⟨callee,args,ts⟩:=c;obtain⟨l⟩:=args;simp only at hcal;subst hcal;obtain⟨v,hr,hv⟩:=(mm_ok (P:=P) (pv:=pv) (h.evs l) ts type).2 hb;exact good_val (by simp) h hst hd (by simp[execOp,resolve,invoke,builtin,hr]) hv hK
  ·rename_i hcal;split at hK
   ·rename_i t t' x y ht hx;obtain⟨rfl,hK⟩:=hK;obtain⟨callee,args,ts⟩:=c;obtain⟨l⟩:=args;simp only at hcal hx ht;subst hcal;subst hx;subst ht;exact good_append rfl h hst hd (λi φ w hs=>Anch.add hA hs) hK
   ·exact hK.elim
  ·exact hK.elim
 |_=>exact hK.elim
end
end
section
open Go Go.RowKit
variable[Sp]
inductive Ex where
 |normal
 |exit (id:Nat)
 |ret
def Ex.of:Exit->Option Ex
 |.normal=>some .normal
 |.exit i=>some (.exit i)
 |.ret=>some .ret
 |_=>none
def Marks(φ:Phi)(w w0:World)(tl:List Deferred):List Deferred->Prop
 |[]=>tl=[]
 |d::ds=>((∃D,d={ target:=.collected D,args:=#[] }/\w0.heap.size<=D/\w.heap[D]?=some (.deferred (some []))/\¬φ.own D/\∀d'∈ds,d'≠d)/\Marks φ w w0 tl ds)\/(tl=d::ds/\∀x∈tl,∃f c,x.target=.fn f c)
theorem Marks.rest{φ φ':Phi}{w w' w0:World}{tl:List Deferred}(r:Rest φ w φ' w'):∀{ds:List Deferred},Marks φ w w0 tl ds->Marks φ' w' w0 tl ds
 |[],h=>h
 |d::ds,.inr h=>.inr h
 |d::ds,.inl ⟨⟨D,h1,h2,h3,h4,h5⟩,h⟩=>by
  have hlt:D<w.heap.size:=(Array.getElem?_eq_some_iff.1 h3).1;obtain⟨k1,k2⟩:=r.rest D hlt h4 (λo e=>by rw[h3]at e;cases e);exact .inl ⟨⟨D,h1,h2,k1.trans h3,k2,h5⟩,Marks.rest r h⟩
def Old(A:Anchor)(s:St):Prop:=(∀i b,A.φ0.arr i=some b->i<s.a0.a)/\(∀i b,A.φ0.box i=some b->i<s.a0.n)/\ReadY s.a0.ys A.φ0 A.w0
def GoodC(A:Anchor)(N:Nat)(Q:Ex->St->Prop):Exit->Act->World->Prop:=λe a' w'=>
 ∃ex s' φ',Ex.of e=some ex/\SRel φ' w' N s' a'/\Anch A φ' w' s'.eff/\Marks φ' w' A.w0 A.tl a'.defers/\Old A s'/\Q ex s'
def dstOk(N:Nat)(o:Oper):Bool:=match o.dst with
 |some d=>decide (d<N)
 |none=>true
def dstsOk(N:Nat):Code->Bool
 |.region _ ops _=>ops.toList.all (dstOk N)
 |.seq a b=>dstsOk N a&&dstsOk N b
 |.cond _ a b=>dstsOk N a&&dstsOk N b
 |.block _ c=>dstsOk N c
 |.loop c=>dstsOk N c
 |.rangeFunc _ ps a b=>ps.toList.all (λd=>decide (d<N))&&dstsOk N a&&dstsOk N b
 |.scope c=>dstsOk N c
 |_=>true
def noRange:Code->Bool
 |.seq x y=>noRange x&&noRange y
 |.cond _ x y=>noRange x&&noRange y
 |.block _ x=>noRange x
 |.loop x=>noRange x
 |.rangeFunc _ _ _ _=>false
 |.scope x=>noRange x
 |_=>true
def okC(r:Option Nat)(N:Nat)(c:Code):Bool:=dstsOk N c&&(r.isNone||noRange c)
theorem okC_dsts{r:Option Nat}{N:Nat}{c:Code}(h:okC r N c=true):dstsOk N c=true:=by simp only[okC,Bool.and_eq_true]at h;exact h.1
theorem okC_none{N:Nat}{c:Code}(h:dstsOk N c=true):okC none N c=true:=by simp[okC,h]
theorem okC_some{l N:Nat}{c:Code}(h:dstsOk N c=true)(k:noRange c=true):okC (some l) N c=true:=by simp[okC,h,k]
theorem okC_seq{r:Option Nat}{N:Nat}{x y:Code}(h:okC r N (.seq x y)=true):okC r N x=true/\okC r N y=true:=by
 simp only[okC,dstsOk,noRange,Bool.and_eq_true,Bool.or_eq_true]at h⊢;exact⟨⟨h.1.1,h.2.imp_right And.left⟩,h.1.2,h.2.imp_right And.right⟩
theorem okC_cond{r:Option Nat}{N:Nat}{c:Operand}{x y:Code}(h:okC r N (.cond c x y)=true):okC r N x=true/\okC r N y=true:=by
 simp only[okC,dstsOk,noRange,Bool.and_eq_true,Bool.or_eq_true]at h⊢;exact⟨⟨h.1.1,h.2.imp_right And.left⟩,h.1.2,h.2.imp_right And.right⟩
def CodeSem(P:Program)(c:Code)(s:St)(Q:Ex->St->Prop):Prop:=
 ∀(A:Anchor)(φ:Phi)(w:World)(N n:Nat)(r:Option Nat)(a:Act),okC r N c=true->SRel φ w N s a->Anch A φ w s.eff->Old A s->Marks φ w A.w0 A.tl a.defers ->
  c.wpX r P (GoodC A N Q) a w
theorem keeps_re(φ:Phi)(w:World)(τ:Tape)(d:Nat):Keeps φ w φ (re w τ d):=⟨λ_ _ h=>h,λ_ _ h=>h,λ_ _ h=>h,Nat.le_refl _,λ_ _ _=>rfl,λ_ _ _=>rfl⟩
theorem MRel.re{φ:Phi}{w:World}{m:Mem}(h:MRel φ m w)(τ:Tape)(d:Nat):MRel φ m (re w τ d):=by
 refine⟨λi hi=>?_,h.boxn,h.arr,h.boxinj,h.arrinj,h.sep,h.rcs⟩;rcases h.box i hi with h|⟨b,cs,e,h1,h2,h3⟩
 ·exact .inl h
 ·exact .inr ⟨b,cs,e,h1,h2,brel_keeps (keeps_re φ w τ d) h3⟩
theorem SRel.re{φ:Phi}{w:World}{N:Nat}{s:St}{a:Act}(h:SRel φ w N s a)(τ:Tape)(d:Nat):SRel φ (re w τ d) N s a:=⟨λt=>VRel.keeps (keeps_re φ w τ d) _ _ (h.tmp t),h.size,h.mem.re τ d⟩
theorem step_re(φ:Phi)(w:World)(τ:Tape)(d:Nat):Step φ w φ (Go.Proofs.Ytjfejoadcdoobaa.re w τ d) []:=⟨λq c h=>VRel.keeps (keeps_re φ w τ d) _ _ h,rfl,rfl,Nat.le_refl _,λ_ _ h _=>⟨rfl,h⟩⟩
theorem Anch.rew{A:Anchor}{φ:Phi}{w:World}{E:List Eff}(h:Anch A φ w E)(τ:Tape)(d:Nat):Anch A φ (Go.Proofs.Ytjfejoadcdoobaa.re w τ d) E:=by
 have:=h.trans (step_re φ w τ d);rwa[List.append_nil]at this
def guardW(ops:Array Oper)(s:St)(o:Oper)(X Y:Prop):Prop:=match o.guard with
 |none=>X
 |some (j,want)=>match(ops[j]?).bind (·.dst)with
  |some d=>match s.g d with
   |.bool b=>if b=want then X else Y
   |.undef=>Y
   |_=>False
  |none=>Y
def Silent(s s1:St):Prop:=s1.a0=s.a0/\∀(φ:Phi)(w:World)(N:Nat)(a:Act)(A:Anchor),SRel φ w N s a->Anch A φ w s.eff->Old A s->∃φ',SRel φ' w N s1 a/\Anch A φ' w s1.eff
theorem Silent.refl(s:St):Silent s s:=⟨rfl,λφ _ _ _ _ h1 h2 _=>⟨φ,h1,h2⟩⟩
theorem Silent.trans{s s1 s2:St}(h:Silent s s1)(k:Silent s1 s2):Silent s s2:=
 ⟨k.1.trans h.1,λφ w N a A h1 h2 h3=>by
  obtain⟨φ',g1,g2⟩:=h.2 φ w N a A h1 h2 h3;exact k.2 φ' w N a A g1 g2 (by unfold Old at h3⊢;rw[h.1];exact h3)⟩
def opsW(P:Program)(ops:Array Oper):List Oper->St->(St->Prop)->Prop
 |[],s,K=>K s
 |o::rest,s,K=>guardW ops s o (∃s1,Silent s s1/\opW P s1 o λs'=>opsW P ops rest s' K) (opsW P ops rest (s.put o.dst .undef) K)
def vc(P:Program):Code->St->(Ex->St->Prop)->Prop
 |.skip,s,Q=>Q .normal s
 |.region _ ops false,s,Q=>opsW P ops ops.toList s (Q .normal)
 |.seq x y,s,Q=>vc P x s λe s'=>match e with
  |.normal=>vc P y s' Q
  |.exit i=>Q (.exit i) s'
  |.ret=>Q .ret s'
 |.cond c x y,s,Q=>∃t,s.ev c=.bool t/\(if t=true then vc P x s Q else vc P y s Q)
 |.block id c,s,Q=>vc P c s λe s'=>match e with
  |.normal=>Q .normal s'
  |.exit i=>if i=id then Q .normal s' else Q (.exit i) s'
  |.ret=>Q .ret s'
 |.exit id,s,Q=>Q (.exit id) s
 |.ret,s,Q=>Q .ret s
 |c,s,Q=>CodeSem P c s Q
section
variable{P:Program}{φ:Phi}{w:World}{A:Anchor}{N n:Nat}{s:St}{a:Act}{r:Option Nat}
theorem aStore_imp{t:TypeId}{x v:PV}{K K':St->Prop}(hk:∀s',s'.a0=s.a0->K s'->K' s')(h:aStore P s t x v K):aStore P s t x v K':=by
 unfold aStore at *;split at h
 ·obtain⟨h1,h2,h3,h4,l,h5,h6,h7⟩:=h;exact⟨h1,h2,h3,h4,l,h5,h6,hk _ (by simp) h7⟩
 ·obtain⟨h1,h2,h3,h4,h5,h6,h7⟩:=h;exact⟨h1,h2,h3,h4,h5,h6,hk _ (by simp) h7⟩
 ·exact h.elim
theorem aAppend_imp{d:Option Tmp}{t:TypeId}{x y:PV}{K K':St->Prop}(hk:∀s',s'.a0=s.a0->K s'->K' s')(h:aAppend P s d t x y K):aAppend P s d t x y K':=by
 unfold aAppend at *;split at h
 ·obtain⟨h1,h2,h3,h⟩:=h;refine⟨h1,h2,h3,?_⟩;split at h
  ·obtain⟨h4,h⟩:=h;refine⟨h4,?_⟩;split at h
   ·obtain⟨h5,h6,h⟩:=h;exact⟨h5,h6,hk _ (by split<;>simp) h⟩
   ·obtain⟨h5,h6,h7,h8,h9,h⟩:=h;exact⟨h5,h6,h7,h8,h9,hk _ (by simp) h⟩
   ·exact h.elim
  ·exact h.elim
 ·exact h.elim
theorem opW_imp{o:Oper}{K K':St->Prop}(hk:∀s',s'.a0=s.a0->K s'->K' s')(h:opW P s o K):opW P s o K':=by
 obtain⟨dst,op,type,pos,after,guard⟩:=o;cases op with
 |move x=>exact hk _ (by simp) h
 |assign x=>exact hk _ (by simp) h
 |pick c x y=>obtain⟨t,h1,h2⟩:=h;exact⟨t,h1,hk _ (by simp) h2⟩
 |binOp op t x y yt=>obtain⟨t,h1,h2⟩:=h;exact⟨t,h1,hk _ (by simp) h2⟩
 |unOp op t x=>obtain⟨t,h1,h2⟩:=h;exact⟨t,h1,hk _ (by simp) h2⟩
 |convert a b x=>obtain⟨t,h1,h2⟩:=h;exact⟨t,h1,hk _ (by simp) h2⟩
 |fieldAddr t x f=>obtain⟨t,h1,h2⟩:=h;exact⟨t,h1,hk _ (by simp) h2⟩
 |field t x f=>obtain⟨t,h1,h2⟩:=h;exact⟨t,h1,hk _ (by simp) h2⟩
 |indexAddr t x f=>obtain⟨t,h1,h2⟩:=h;exact⟨t,h1,hk _ (by simp) h2⟩
 |index t x f=>obtain⟨t,h1,h2⟩:=h;exact⟨t,h1,hk _ (by simp) h2⟩
 |load t x=>obtain⟨t,h1,h2⟩:=h;exact⟨t,h1,hk _ (by simp) h2⟩
 |alloc t=>obtain⟨t,h1,h2⟩:=h;exact⟨t,h1,hk _ (by simp) h2⟩
 |build t ps=>obtain⟨t,h1,h2⟩:=h;exact⟨t,h1,hk _ (by simp) h2⟩
 |box t x=>exact⟨h.1,hk _ (by simp) h.2⟩
 |store t x y=>exact⟨h.1,aStore_imp hk h.2⟩
 |nilCheck x=>
  simp only[opW]at h⊢;split at h
  ·exact hk _ (by simp) h
  ·exact hk _ (by simp) h
  ·exact h.elim
 |extract x i=>
  simp only[opW]at h⊢;split at h
  ·obtain⟨t,h1,h2⟩:=h;exact⟨t,h1,hk _ (by simp) h2⟩
  ·exact h.elim
 |buildSlice t len ps=>
  simp only[opW]at h⊢;split at h
  ·obtain⟨h1,h2,h3,h4,cs,h5,h6⟩:=h;exact⟨h1,h2,h3,h4,cs,h5,h6.imp (hk _ (by simp)) (Or.imp (hk _ (by simp)) (hk _ (by simp)))⟩
  ·exact h.elim
 |makeSlice t l c=>
  simp only[opW]at h⊢;split at h
  ·obtain⟨z,h1,h2,h3,h4,h5,h6,h7,h8,h9⟩:=h;exact⟨z,h1,h2,h3,h4,h5,h6,h7,h8,hk _ (by simp) h9⟩
  ·exact h.elim
 |slice t x lo hi mx=>
  cases mx with
  |none=>obtain⟨t,h1,h2⟩:=h;exact⟨t,h1,hk _ (by simp) h2⟩
  |some _=>exact h.elim
 |makeMap t r=>
  obtain⟨h1,h⟩:=h;refine⟨h1,?_⟩;split at h
  ·exact h.imp (hk _ (by simp[St.newMp])) λ⟨sc,h⟩=>⟨sc,hk _ (by simp[St.newMp]) h⟩
  ·exact h.elim
 |mapUpdate t m k x|insert t m k x=>
  obtain⟨h1,h⟩:=h;refine⟨h1,?_⟩;split at h
  ·obtain⟨h2,h3,h4,h5,h6,h7⟩:=h;exact⟨h2,h3,h4,h5,h6,hk _ (by simp[St.setMp]) h7⟩
  ·obtain⟨h2,cs',h3,h4⟩:=h;exact⟨h2,cs',h3,hk _ (by simp[St.setMp]) h4⟩
  ·exact h.elim
 |lookup t m k ok=>
  simp only[opW]at h⊢;split at h
  ·obtain⟨h1,v,h2,h3⟩:=h;exact⟨h1,v,h2,hk _ (by simp) h3⟩
  ·exact h.elim
 |range t x=>
  simp only[opW]at h⊢;split at h
  ·exact⟨h.1,hk _ (by simp[St.newMp]) h.2⟩
  ·exact hk _ (by simp[St.newMp]) h
  ·exact h.elim
 |next x str=>
  simp only[opW]at h⊢;split at h
  ·refine⟨h.1,h.2.1,?_⟩;split
   ·rename_i hlt;exact hk _ (by simp[St.setMp]) (by have:=h.2.2;rwa[if_pos hlt]at this)
   ·rename_i hlt;exact hk _ (by simp) (by have:=h.2.2;rwa[if_neg hlt]at this)
  ·exact⟨h.1,h.2.1,λe=>hk _ (by simp) (h.2.2.1 e),λi hi=>hk _ (by simp[St.setMp]) (h.2.2.2 i hi)⟩
  ·exact h.elim
 |entry x=>
  simp only[opW]at h⊢;split at h
  ·exact⟨h.1,h.2.1,hk _ (by simp) h.2.2⟩
  ·exact h.elim
 |makeFunc fn first caps=>
  cases fn with
  |func f=>exact h.imp (λh=>⟨h.1,h.2.1,hk _ (by simp) h.2.2⟩) λh=>⟨h.1,hk _ (by simp) h.2⟩
  |_=>exact h.elim
 |call c=>
  simp only[opW]at h⊢;split at h
  ·split at h
   ·exact⟨h.1,h.2.mono λ_ _ _ h=>hk _ (by simp) h⟩
   ·obtain⟨y,st,pd,h1,h2,h3,h4,h5⟩:=h;exact⟨y,st,pd,h1,h2,h3,h4,h5.mono λ_ _ _ h=>hk _ (by simp) h⟩
   ·exact h.elim
  ·split at h
   ·obtain⟨t,h1,h2⟩:=h;exact⟨t,h1,hk _ (by simp) h2⟩
   ·exact h.elim
  ·obtain⟨t,h1,h2⟩:=h;exact⟨t,h1,hk _ (by simp) h2⟩
  ·obtain⟨t,h1,h2⟩:=h;exact⟨t,h1,hk _ (by simp) h2⟩
  ·split at h
   ·exact⟨h.1,aAppend_imp hk h.2⟩
   ·exact h.elim
  ·exact h.elim
 |_=>exact h.elim
theorem yield_bool{ops:Array Oper}{j d:Nat}{b:Bool}(h:SRel φ w N s a)(hd:(ops[j]?).bind (·.dst)=some d)(hb:s.g d=.bool b):yielded ops a.tmps j=some b:=by
 have e:=h.tmp d;rw[hb]at e;have e:=rel_bool e;have hlt:d<a.tmps.size:=by
  rcases Nat.lt_or_ge d a.tmps.size with h'|h'
  ·exact h'
  ·simp[Array.getElem?_eq_none h',undef]at e
 have e2:a.tmps[d]?=some (.bool b):=by simpa[hlt]using e
 simp[yielded,hd,e2]
theorem yield_undef{ops:Array Oper}{j d:Nat}(h:SRel φ w N s a)(hd:(ops[j]?).bind (·.dst)=some d)(hb:s.g d=.undef):yielded ops a.tmps j=none:=by
 have e:=h.tmp d;rw[hb]at e;simp only[VRel]at e;unfold yielded;rw[hd];simp only[Option.bind_some];cases hg:a.tmps[d]? with
 |none=>rfl
 |some v=>
  have:v=.tuple #[]:=by simpa[hg]using e
  rw[this]
theorem guard_wanted{ops:Array Oper}{o:Oper}{X Y:Prop}(h:SRel φ w N s a)(hg:guardW ops s o X Y):
  (Region.wanted o (yielded ops a.tmps)=true/\X)\/(Region.wanted o (yielded ops a.tmps)=false/\Y):=by
 unfold guardW at hg;unfold Region.wanted;split at hg
 ·rename_i h0;rw[h0];exact .inl ⟨rfl,hg⟩
 ·rename_i j want h0;rw[h0];split at hg
  ·rename_i d hd;split at hg
   ·rename_i b hb;simp only[yield_bool h hd hb];split at hg
    ·rename_i hbw;subst hbw;exact .inl ⟨by simp,hg⟩
    ·rename_i hbw;exact .inr ⟨by simpa using hbw,hg⟩
   ·rename_i hb;simp only[yield_undef h hd hb];exact .inr ⟨by simp,hg⟩
   ·exact hg.elim
  ·rename_i hd;have:yielded ops a.tmps j=none:=by simp[yielded,hd]
   simp only[this];exact .inr ⟨by simp,hg⟩
theorem opsW_sound{ops:Array Oper}{K:St->Prop}{Q:Exit->Act->World->Prop}:∀(l:List Oper)(k:Nat)(s:St)(a:Act)(φ:Phi)(w:World),(∀j,l[j]?=ops[k+j]?)->l.all (dstOk N)=true ->
  SRel φ w N s a->Anch A φ w s.eff->Old A s->opsW P ops l s K->(∀a' w',(∃s',s'.a0=s.a0/\Good A N a.defers (λu=>u=s'/\K u) a' w')->Q .normal a' w') ->
  wpOpsX r P ops Q (List.range' k l.length) a w
 |[],k,s,a,φ,w,_,_,hs,ha,_,hK,hQ=>by
  simp only[List.length_nil,List.range'_zero,wpOpsX];exact hQ a w ⟨s,rfl,s,φ,hs,ha,rfl,rfl,hK⟩
 |o::l,k,s,a,φ,w,hl,hd,hs,ha,hA,hK,hQ=>by
  have h0:ops[k]?=some o:=by simpa using(hl 0).symm
  have hl':∀j,l[j]?=ops[k+1+j]?:=λj=>by have:=hl (j+1);simpa[Nat.add_assoc,Nat.add_comm 1 j]using this
  simp only[List.all_cons,Bool.and_eq_true]at hd;have hdo:∀t,o.dst=some t->t<N:=λt e=>by
   have:=hd.1;simp only[dstOk,e,decide_eq_true_eq]at this;exact this
  simp only[List.length_cons,List.range'_succ,wpOpsX,h0];rcases guard_wanted hs hK with⟨hw,hX⟩|⟨hw,hY⟩
  ·rw[if_pos hw];intro τ d;obtain⟨s1,⟨e1,hsil⟩,hX⟩:=hX;obtain⟨φ1,hs1,ha1⟩:=hsil φ w N a A hs ha hA;replace hs1:=hs1.re τ d;replace ha1:=ha1.rew τ d;have hA1:Old A s1:=by unfold Old at hA⊢;rw[e1];exact hA
   refine Oper.wpX_mono ?_ (opW_sound (A:=A) hs1 ha1 hdo hA1.1 hA1.2.2 (opW_imp (λs' e h=>(⟨e,h⟩:s'.a0=s1.a0/\_)) hX));rintro a' w' ⟨s',φ',h1,h2,h3,h4,h5⟩;replace h4:=h4.trans e1;exact opsW_sound l (k+1) s' a' φ' w' hl' hd.2 h1 h2 (by unfold Old;rw[h4];exact hA) h5 (λa2 w2 ⟨s2,e2,h⟩=>hQ a2 w2 ⟨s2,e2.trans h4,by rw[←h3];exact h⟩)
  ·rw[if_neg (by simp[hw])];have h1:SRel φ w N (s.put o.dst .undef) (a.put o.dst undef):=hs.put hdo rfl;exact opsW_sound l (k+1) _ _ φ w hl' hd.2 h1 (by rw[St.put_eff];exact ha) (by unfold Old;rw[St.put_a0];exact hA) hY
    (λa2 w2 ⟨s2,e2,h⟩=>hQ a2 w2 ⟨s2,by rw[e2,St.put_a0],by rw[put_defers]at h;exact h⟩)
theorem codeSem_mono{c:Code}{Q Q':Ex->St->Prop}(h:CodeSem P c s Q)(hq:∀e s,Q e s->Q' e s):CodeSem P c s Q':=
 λA φ w N n r a hd hs ha hA hm=>wpX_mono (h A φ w N n r a hd hs ha hA hm) λ_ _ _ ⟨ex,s',φ',h1,h2,h3,h4,h6,h5⟩=>⟨ex,s',φ',h1,h2,h3,h4,h6,hq _ _ h5⟩
theorem codeSem_silent{c:Code}{s1:St}{Q:Ex->St->Prop}(hs:Silent s s1)(h:CodeSem P c s1 Q):CodeSem P c s Q:=by
 intro A φ w N n r a hd hr ha hA hm;obtain⟨φ',h1,h2⟩:=hs.2 φ w N a ⟨A.φ0,A.w0,φ,w,A.tl⟩ hr ⟨ha.st,Rest.refl φ w⟩ hA;exact h A φ' w N n r a hd h1 ⟨h2.st,ha.re.trans h2.re⟩ (by unfold Old at hA⊢;rw[hs.1];exact hA) (hm.rest h2.re)
theorem sem_region{id:Nat}{ops:Array Oper}{Q:Ex->St->Prop}(h:opsW P ops ops.toList s (Q .normal)):CodeSem P (.region id ops false) s Q:=by
 intro A φ w N n r a hd hs ha hA hm;have hd':ops.toList.all (dstOk N)=true:=okC_dsts hd;refine wpX_region ?_;rw[List.range_eq_range',←Array.length_toList];have ha':Anch ⟨A.φ0,A.w0,φ,w,A.tl⟩ φ w s.eff:=⟨ha.st,Rest.refl φ w⟩;refine opsW_sound (A:=⟨A.φ0,A.w0,φ,w,A.tl⟩) ops.toList 0 s a φ w (by simp) hd' hs ha' hA h ?_;rintro a' w' ⟨s',e,s2,φ',h1,h2,h3,rfl,h5⟩;exact⟨.normal,s2,φ',rfl,h1,⟨h2.st,ha.re.trans h2.re⟩,by rw[h3];exact hm.rest h2.re,by unfold Old;rw[e];exact hA,h5⟩
end
section
variable{P:Program}{s:St}
theorem sem_skip{Q:Ex->St->Prop}(h:Q .normal s):CodeSem P .skip s Q:=λA φ w N n r a hd hs ha hA hm=>wpX_skip ⟨.normal,s,φ,rfl,hs,ha,hm,hA,h⟩
theorem sem_label{l:Nat}{Q:Ex->St->Prop}(h:Q .normal s):CodeSem P (.label l) s Q:=λA φ w N n r a hd hs ha hA hm=>wpX_label ⟨.normal,s,φ,rfl,hs,ha,hm,hA,h⟩
theorem sem_scope{c:Code}{Q:Ex->St->Prop}(h:CodeSem P c s Q):CodeSem P (.scope c) s Q:=λA φ w N n r a hd hs ha hA hm=>wpX_scope (h A φ w N n r a hd hs ha hA hm)
theorem sem_ret{Q:Ex->St->Prop}(h:Q .ret s):CodeSem P .ret s Q:=λA φ w N n r a hd hs ha hA hm=>wpX_ret ⟨.ret,s,φ,rfl,hs,ha,hm,hA,h⟩
theorem sem_exit{id:Nat}{Q:Ex->St->Prop}(h:Q (.exit id) s):CodeSem P (.exit id) s Q:=λA φ w N n r a hd hs ha hA hm=>wpX_exit ⟨.exit id,s,φ,rfl,hs,ha,hm,hA,h⟩
theorem sem_cond{c:Operand}{x y:Code}{Q:Ex->St->Prop}(t:Bool)(ht:s.ev c=.bool t)(h:if t=true then CodeSem P x s Q else CodeSem P y s Q):CodeSem P (.cond c x y) s Q:=by
 intro A φ w N n r a hd hs ha hA hm;replace hd:=okC_cond hd;have e:=hs.ev c;rw[ht]at e;refine wpX_cond (rel_bool e) ?_;cases t
 ·have h:CodeSem P y s Q:=by simpa using h
  exact h A φ w N n r a hd.2 hs ha hA hm
 ·have h:CodeSem P x s Q:=by simpa using h
  exact h A φ w N n r a hd.1 hs ha hA hm
theorem sem_block{id:Nat}{c:Code}{Q:Ex->St->Prop}(h:CodeSem P c s λe s'=>match e with
  |.normal=>Q .normal s'
  |.exit i=>if i=id then Q .normal s' else Q (.exit i) s'
  |.ret=>Q .ret s'):CodeSem P (.block id c) s Q:=by
 intro A φ w N n r a hd hs ha hA hm;refine wpX_block (wpX_mono (h A φ w N n r a hd hs ha hA hm) ?_);rintro e a' w' ⟨ex,s',φ',he,k1,k2,k3,kA,k4⟩;cases e<;>simp only[Ex.of,Option.some.injEq]at he<;>try (cases he;done)
 ·subst he;exact⟨.normal,s',φ',rfl,k1,k2,k3,kA,k4⟩
 ·subst he;simp only at k4;simp only[Exit.inBlock];split
  ·rename_i h;rw[if_pos h]at k4;exact⟨.normal,s',φ',rfl,k1,k2,k3,kA,k4⟩
  ·rename_i h;rw[if_neg h]at k4;exact⟨.exit _,s',φ',rfl,k1,k2,k3,kA,k4⟩
 ·subst he;exact⟨.ret,s',φ',rfl,k1,k2,k3,kA,k4⟩
theorem sem_seq{x y:Code}{Q:Ex->St->Prop}(h:CodeSem P x s λe s'=>match e with
  |.normal=>CodeSem P y s' Q
  |.exit i=>Q (.exit i) s'
  |.ret=>Q .ret s'):CodeSem P (.seq x y) s Q:=by
 intro A φ w N n r a hd hs ha hA hm;replace hd:=okC_seq hd;refine wpX_seq (wpX_mono (h A φ w N n r a hd.1 hs ha hA hm) ?_);rintro e a' w' ⟨ex,s',φ',he,k1,k2,k3,kA,k4⟩;cases e<;>simp only[Ex.of,Option.some.injEq]at he<;>try (cases he;done)
 ·subst he;exact k4 A φ' w' N n r a' hd.2 k1 k2 kA k3
 ·subst he;exact⟨.exit _,s',φ',rfl,k1,k2,k3,kA,k4⟩
 ·subst he;exact⟨.ret,s',φ',rfl,k1,k2,k3,kA,k4⟩
end
end
section
open Go Go.RowKit
variable[Sp]
def Phi.cut(φ:Phi)(n an:Nat):Phi:={ box:=λi=>if i<n then φ.box i else none,arr:=λi=>if i<an then φ.arr i else none }
section
variable{P:Program}{φ:Phi}{w:World}{A:Anchor}{N n an:Nat}{s:St}{a:Act}{r:Option Nat}{m:Mem}
theorem own_cut{b:Nat}(h:(φ.cut n an).own b):φ.own b:=by
 rcases h with⟨i,h⟩|⟨i,h⟩<;>simp only[Phi.cut]at h<;>split at h<;>first|cases h|skip
 ·exact .inl ⟨i,h⟩
 ·exact .inr ⟨i,h⟩
theorem place_cut{id:Option Nat}{b sz off cap:Nat}(h:place φ w id b sz off cap)(hi:∀i,id=some i->i<an):place (φ.cut n an) w id b sz off cap:=by
 cases id with
 |none=>exact⟨λk=>h.1 (own_cut k),h.2⟩
 |some i=>
  obtain⟨ha,h⟩:=h;exact⟨by simp[Phi.cut,hi i rfl,ha],h⟩
mutual
theorem VRel.cut:∀(q:PV)(c:Value),VRel φ w q c->q.bd n an->VRel (φ.cut n an) w q c
 |.int _ _,c,h,_ | .bool _,c,h,_ | .str _,c,h,_ | .undef,c,h,_ | .bad,c,h,_ | .nilp,c,h,_ | .nilfn,c,h,_ | .snil,c,h,_ | .dead _,c,h,_ | .yld _,c,h,_=>by simp only[VRel]at h⊢<;>exact h
 |.ptr i o,c,h,hb=>by
  simp only[VRel,PV.bd]at h hb⊢;obtain⟨b,h1,h2⟩:=h;exact⟨b,by simp[Phi.cut,hb,h1],h2⟩
 |.hd i o z,c,h,hb=>by
  simp only[VRel,PV.bd]at h hb⊢;obtain⟨b,h1,h2⟩:=h;exact⟨b,by simp[Phi.cut,hb,h1],h2⟩
 |.sl id sz off len cs,c,h,hb=>by
  simp only[VRel]at h⊢;obtain⟨hl,a,cap,hv,hc,h⟩:=h;refine⟨hl,a,cap,hv,hc,?_⟩;rcases h with h|⟨b,ha,hp,hr⟩
  ·exact .inl h
  ·refine .inr ⟨b,ha,place_cut hp (λi e=>?_),VRelAt.cut b cs off hr ?_⟩
   ·subst e;simp only[PV.bd]at hb;exact hb.1
   ·cases id<;>simp only[PV.bd]at hb<;>first|exact hb|exact hb.2
 |.eref id off cs,c,h,hb=>by
  simp only[VRel]at h⊢;obtain⟨b,ha,hp,hr⟩:=h;refine⟨b,ha,place_cut hp (λi e=>?_),VRelAt.cut b cs off hr ?_⟩
  ·subst e;simp only[PV.bd]at hb;exact hb.1
  ·cases id<;>simp only[PV.bd]at hb<;>first|exact hb|exact hb.2
 |.fn f cs,c,h,hb=>by
  simp only[VRel,PV.bd]at h hb⊢;obtain⟨vs,h1,h2⟩:=h;exact⟨vs,h1,VRelL.cut cs vs h2 hb⟩
 |.agg cs,c,h,hb=>by
  simp only[VRel,PV.bd]at h hb⊢;obtain⟨vs,h1,h2⟩:=h;exact⟨vs,h1,VRelL.cut cs vs h2 hb⟩
 |.tup cs,c,h,hb=>by
  simp only[VRel,PV.bd]at h hb⊢;obtain⟨vs,h1,h2⟩:=h;exact⟨vs,h1,VRelL.cut cs vs h2 hb⟩
 |.mp it id sz cs,c,h,hb=>by
  simp only[VRel]at h⊢;refine h.move (λb o hp hh _ _ _=>⟨?_,hh⟩) λb o hp hh _ _ _=>⟨λk=>hp (own_cut k),hh⟩;cases id with
  |none=>exact λk=>hp (own_cut k)
  |some i=>simp only[PV.bd]at hb;simp only[mplace]at hp⊢;simp[Phi.cut,hb,hp]
theorem VRelL.cut:∀(l:List PV)(vs:List Value),VRelL φ w l vs->bdL n an l->VRelL (φ.cut n an) w l vs
 |[],vs,h,_=>by simp only[VRelL]at h⊢;exact h
 |p::ps,vs,h,hb=>by
  simp only[VRelL,bdL]at h hb⊢;obtain⟨v,vs',e,h0,h1⟩:=h;exact⟨v,vs',e,VRel.cut p v h0 hb.1,VRelL.cut ps vs' h1 hb.2⟩
theorem VRelAt.cut(b:Nat):∀(l:List PV)(off:Nat),VRelAt φ w b l off->bdL n an l->VRelAt (φ.cut n an) w b l off
 |[],_,_,_=>by simp only[VRelAt]
 |p::ps,off,h,hb=>by
  simp only[VRelAt,bdL]at h hb⊢;obtain⟨⟨c,hc,h0⟩,h1⟩:=h;exact⟨⟨c,hc,VRel.cut p c h0 hb.1⟩,VRelAt.cut b ps (off+1) h1 hb.2⟩
end
mutual
theorem bd_of_rel(hb:∀i b,φ.box i=some b->i<n)(ha:∀i b,φ.arr i=some b->i<an):∀(q:PV)(c:Value),VRel φ w q c->q.bd n an
 |.int _ _,c,_ | .bool _,c,_ | .str _,c,_ | .undef,c,_ | .bad,c,_ | .nilp,c,_ | .nilfn,c,_ | .snil,c,_ | .dead _,c,_ | .yld _,c,_=>by simp only[PV.bd]
 |.ptr i o,c,h=>by
  simp only[VRel,PV.bd]at h⊢;obtain⟨b,h1,_⟩:=h;exact hb i b h1
 |.hd i o z,c,h=>by
  simp only[VRel,PV.bd]at h⊢;obtain⟨b,h1,_⟩:=h;exact hb i b h1
 |.sl none sz off len cs,c,h=>by
  simp only[VRel,PV.bd]at h⊢;obtain⟨hl,a,cap,hv,hc,h⟩:=h;rcases h with h|⟨b,_,hp,hr⟩
  ·have:cs=[]:=List.eq_nil_of_length_eq_zero (by rw[hl,h.2.1];simp);subst this;simp only[bdL]
  ·exact bdAt_of_rel hb ha b cs off hr
 |.sl (some i) sz off len cs,c,h=>by
  simp only[VRel,PV.bd]at h⊢;obtain⟨hl,a,cap,hv,hc,h⟩:=h;rcases h with h|⟨b,_,hp,hr⟩
  ·exact absurd h.1 (by simp)
  ·exact⟨ha i b hp.1,bdAt_of_rel hb ha b cs off hr⟩
 |.eref none off cs,c,h=>by
  simp only[VRel,PV.bd]at h⊢;obtain⟨b,_,hp,hr⟩:=h;exact bdAt_of_rel hb ha b cs off hr
 |.eref (some i) off cs,c,h=>by
  simp only[VRel,PV.bd]at h⊢;obtain⟨b,_,hp,hr⟩:=h;exact⟨ha i b hp.1,bdAt_of_rel hb ha b cs off hr⟩
 |.fn f cs,c,h=>by
  simp only[VRel,PV.bd]at h⊢;obtain⟨vs,_,h2⟩:=h;exact bdL_of_rel hb ha cs vs h2
 |.agg cs,c,h=>by
  simp only[VRel,PV.bd]at h⊢;obtain⟨vs,_,h2⟩:=h;exact bdL_of_rel hb ha cs vs h2
 |.tup cs,c,h=>by
  simp only[VRel,PV.bd]at h⊢;obtain⟨vs,_,h2⟩:=h;exact bdL_of_rel hb ha cs vs h2
 |.mp it none sz cs,c,h=>by simp only[PV.bd]
 |.mp it (some i) sz cs,c,h=>by
  simp only[VRel,PV.bd]at h⊢;obtain⟨b,_,hp,_⟩:=h;exact ha i b hp
theorem bdL_of_rel(hb:∀i b,φ.box i=some b->i<n)(ha:∀i b,φ.arr i=some b->i<an):∀(l:List PV)(vs:List Value),VRelL φ w l vs->bdL n an l
 |[],_,_=>by simp only[bdL]
 |p::ps,vs,h=>by
  simp only[VRelL,bdL]at h⊢;obtain⟨v,vs',_,h0,h1⟩:=h;exact⟨bd_of_rel hb ha p v h0,bdL_of_rel hb ha ps vs' h1⟩
theorem bdAt_of_rel(hb:∀i b,φ.box i=some b->i<n)(ha:∀i b,φ.arr i=some b->i<an)(b:Nat):∀(l:List PV)(off:Nat),VRelAt φ w b l off->bdL n an l
 |[],_,_=>by simp only[bdL]
 |p::ps,off,h=>by
  simp only[VRelAt,bdL]at h⊢;obtain⟨⟨c,_,h0⟩,h1⟩:=h;exact⟨bd_of_rel hb ha p c h0,bdAt_of_rel hb ha b ps (off+1) h1⟩
end
mutual
theorem VRel.cutb(ha:∀i b,φ.arr i=some b->i<an):∀(q:PV)(c:Value),VRel φ w q c->VRel (φ.cut n an) w (q.cutb n) c
 |.int _ _,c,h | .bool _,c,h | .str _,c,h | .undef,c,h | .bad,c,h | .nilp,c,h | .nilfn,c,h | .snil,c,h | .dead _,c,h | .yld _,c,h=>by simp only[VRel,PV.cutb]at h⊢<;>exact h
 |.ptr i o,c,h=>by
  simp only[PV.cutb];split
  ·rename_i hi;simp only[VRel]at h⊢;obtain⟨b,h1,h2⟩:=h;exact⟨b,by simp[Phi.cut,hi,h1],h2⟩
  ·simp only[VRel]
 |.hd i o z,c,h=>by
  simp only[PV.cutb];split
  ·rename_i hi;simp only[VRel]at h⊢;obtain⟨b,h1,h2⟩:=h;exact⟨b,by simp[Phi.cut,hi,h1],h2⟩
  ·simp only[VRel]
 |.sl id sz off len cs,c,h=>by
  simp only[VRel,PV.cutb]at h⊢;obtain⟨hl,a,cap,hv,hc,h⟩:=h;refine⟨by rw[cutbL_eq,List.length_map];exact hl,a,cap,hv,hc,?_⟩;rcases h with h|⟨b,hab,hp,hr⟩
  ·exact .inl h
  ·exact .inr ⟨b,hab,place_cut hp (λi e=>by subst e;exact ha i b hp.1),VRelAt.cutb ha b cs off hr⟩
 |.eref id off cs,c,h=>by
  simp only[VRel,PV.cutb]at h⊢;obtain⟨b,hab,hp,hr⟩:=h;exact⟨b,hab,place_cut hp (λi e=>by subst e;exact ha i b hp.1),VRelAt.cutb ha b cs off hr⟩
 |.fn f cs,c,h=>by
  simp only[VRel,PV.cutb]at h⊢;obtain⟨vs,h1,h2⟩:=h;exact⟨vs,h1,VRelL.cutb ha cs vs h2⟩
 |.agg cs,c,h=>by
  simp only[VRel,PV.cutb]at h⊢;obtain⟨vs,h1,h2⟩:=h;exact⟨vs,h1,VRelL.cutb ha cs vs h2⟩
 |.tup cs,c,h=>by
  simp only[VRel,PV.cutb]at h⊢;obtain⟨vs,h1,h2⟩:=h;exact⟨vs,h1,VRelL.cutb ha cs vs h2⟩
 |.mp it id sz cs,c,h=>by
  simp only[VRel,PV.cutb]at h⊢;refine h.move (λb o hp hh _ _ _=>⟨?_,hh⟩) λb o hp hh _ _ _=>⟨λk=>hp (own_cut k),hh⟩;cases id with
  |none=>exact λk=>hp (own_cut k)
  |some i=>simp only[mplace]at hp⊢;simp[Phi.cut,ha i b hp,hp]
theorem VRelL.cutb(ha:∀i b,φ.arr i=some b->i<an):∀(l:List PV)(vs:List Value),VRelL φ w l vs->VRelL (φ.cut n an) w (cutbL n l) vs
 |[],vs,h=>by simp only[VRelL,cutbL]at h⊢;exact h
 |p::ps,vs,h=>by
  simp only[VRelL,cutbL]at h⊢;obtain⟨v,vs',e,h0,h1⟩:=h;exact⟨v,vs',e,VRel.cutb ha p v h0,VRelL.cutb ha ps vs' h1⟩
theorem VRelAt.cutb(ha:∀i b,φ.arr i=some b->i<an)(b:Nat):∀(l:List PV)(off:Nat),VRelAt φ w b l off->VRelAt (φ.cut n an) w b (cutbL n l) off
 |[],_,_=>by simp only[VRelAt,cutbL]
 |p::ps,off,h=>by
  simp only[VRelAt,cutbL]at h⊢;obtain⟨⟨c,hc,h0⟩,h1⟩:=h;exact⟨⟨c,hc,VRel.cutb ha p c h0⟩,VRelAt.cutb ha b ps (off+1) h1⟩
end
def Eff.clean:Eff->Prop
 |.wr _ _ v=>∀n an,v.bd n an
 |.kill _=>True
theorem bdL_setAt{n an:Nat}{v:PV}(hv:v.bd n an){cs:List PV}{off p:Nat}(h:bdL n an cs):bdL n an (setAt cs off p v):=by
 unfold setAt;split
 ·rw[bdL_iff]at h⊢;intro q hq;rcases List.mem_or_eq_of_mem_set hq with h'|rfl
  ·exact h q h'
  ·exact hv
 ·exact h
mutual
theorem bd_sub1{n an:Nat}{e:Eff}(he:e.clean):∀q:PV,q.bd n an->(q.sub1 e).bd n an
 |.int _ _,_ | .bool _,_ | .str _,_ | .undef,_ | .bad,_ | .nilp,_ | .nilfn,_ | .snil,_ | .dead _,_ | .yld _,_=>by simp only[PV.sub1,PV.bd]
 |.ptr i _,h=>by simpa only[PV.sub1,PV.bd]using h
 |.hd i _ _,h=>by simpa only[PV.sub1,PV.bd]using h
 |.sl none _ _ _ cs,h=>by simp only[PV.sub1,PV.bd]at h⊢;exact bdL_sub1 he cs h
 |.sl (some i) _ _ _ cs,h=>by
  simp only[PV.bd]at h;have hc:=bdL_sub1 he cs h.2;cases e with
  |kill j=>simp only[PV.sub1];split<;>simp only[PV.bd];exact⟨h.1,hc⟩
  |wr j p v=>
   simp only[PV.sub1];split<;>simp only[PV.bd]
   ·exact⟨h.1,bdL_setAt (he n an) hc⟩
   ·exact⟨h.1,hc⟩
 |.eref none _ cs,h=>by simp only[PV.sub1,PV.bd]at h⊢;exact bdL_sub1 he cs h
 |.eref (some i) _ cs,h=>by
  simp only[PV.bd]at h;have hc:=bdL_sub1 he cs h.2;cases e with
  |kill j=>simp only[PV.sub1];split<;>simp only[PV.bd];exact⟨h.1,hc⟩
  |wr j p v=>
   simp only[PV.sub1];split<;>simp only[PV.bd]
   ·exact⟨h.1,bdL_setAt (he n an) hc⟩
   ·exact⟨h.1,hc⟩
 |.fn _ cs,h=>by simp only[PV.sub1,PV.bd]at h⊢;exact bdL_sub1 he cs h
 |.agg cs,h=>by simp only[PV.sub1,PV.bd]at h⊢;exact bdL_sub1 he cs h
 |.tup cs,h=>by simp only[PV.sub1,PV.bd]at h⊢;exact bdL_sub1 he cs h
 |.mp _ none _ cs,h=>by simp only[PV.sub1,PV.bd]
 |.mp _ (some i) _ cs,h=>by
  simp only[PV.bd]at h;cases e with
  |kill j=>simp only[PV.sub1];split<;>simp only[PV.bd];exact h
  |wr j p v=>
   simp only[PV.sub1];split
   ·split
    ·split<;>simp only[PV.bd];exact h
    ·simp only[PV.bd]
   ·simp only[PV.bd];exact h
theorem bdL_sub1{n an:Nat}{e:Eff}(he:e.clean):∀l:List PV,bdL n an l->bdL n an (subL1 e l)
 |[],_=>by simp only[subL1,bdL]
 |p::ps,h=>by simp only[subL1,bdL]at h⊢;exact⟨bd_sub1 he p h.1,bdL_sub1 he ps h.2⟩
end
theorem bd_sub{n an:Nat}:∀{E:List Eff}(_:∀e∈E,e.clean){q:PV},q.bd n an->(q.sub E).bd n an
 |[],_,_,h=>h
 |e::E,he,q,h=>bd_sub (E:=E) (λe' h'=>he e' (by simp[h'])) (bd_sub1 (he e (by simp)) q h)
theorem step_cut{φ0:Phi}{w0:World}{E:List Eff}(hE:∀e∈E,e.clean)(h:Step φ0 w0 φ w E)(hb:∀i b,φ0.box i=some b->i<n)(ha:∀i b,φ0.arr i=some b->i<an):Step φ0 w0 (φ.cut n an) w E:=
 ⟨λq c hq=>VRel.cut _ c (h.tr q c hq) (bd_sub hE (bd_of_rel hb ha q c hq)),h.os,h.output,h.size,λb hlt ho hl=>⟨(h.rest b hlt ho hl).1,λk=>(h.rest b hlt ho hl).2 (own_cut k)⟩⟩
theorem mrel_cut{m':Mem}(hm:MRel φ m w)(hrc:m'.rc=m.rc)(hn:m'.n<=m.n)(hh:∀i,i<m'.n->m.β i=.hole->m'.β i=.hole)(hβ:∀i vs,i<m'.n->BRel φ w (m.β i) vs->BRel (φ.cut m'.n m'.an) w (m'.β i) vs):MRel (φ.cut m'.n m'.an) m' w:=by
 refine⟨λi hi=>?_,λi hi=>?_,λi b h=>?_,λi j b h1 h2=>?_,λi j b h1 h2=>?_,λi j b h1 h2=>?_,by rw[hrc];exact hm.rcs⟩
 ·rcases hm.box i (by omega)with⟨g1,g2⟩|⟨b,cs,e,hb,hh,hr⟩
  ·exact .inl ⟨hh i hi g1,by simp[Phi.cut,hi,g2]⟩
  exact .inr ⟨b,cs,e,by simp[Phi.cut,hi,hb],hh,hβ i _ hi hr⟩
 ·simp only[Phi.cut];rw[if_neg (by omega)]
 ·simp only[Phi.cut]at h;split at h
  ·rename_i hi;exact⟨hi,(hm.arr i b h).2⟩
  ·cases h
 ·simp only[Phi.cut]at h1 h2;split at h1<;>split at h2<;>first|cases h1|cases h2|exact hm.boxinj i j b h1 h2
 ·simp only[Phi.cut]at h1 h2;split at h1<;>split at h2<;>first|cases h1|cases h2|exact hm.arrinj i j b h1 h2
 ·simp only[Phi.cut]at h1 h2;split at h1<;>split at h2<;>first|cases h1|cases h2|exact hm.sep i j b h1 h2
def BoxC.cutb(n:Nat):BoxC->BoxC
 |.cells l=>.cells (l.map (PV.cutb n))
 |.inv I=>.inv I
 |.hole=>.hole
def St.trim(s:St)(n:Nat):St:={ s with g:=λt=>(s.g t).cutb n,m:={ s.m with β:=λi=>(s.m.β i).cutb n,n:=n } }
@[simp]theorem St.trim_g(t:Nat):(s.trim n).g t=(s.g t).cutb n:=rfl
@[simp]theorem St.trim_β(i:Nat):(s.trim n).m.β i=(s.m.β i).cutb n:=rfl
@[simp]theorem St.trim_n:(s.trim n).m.n=n:=rfl
@[simp]theorem St.trim_an:(s.trim n).m.an=s.m.an:=rfl
@[simp]theorem St.trim_a0:(s.trim n).a0=s.a0:=rfl
@[simp]theorem St.trim_eff:(s.trim n).eff=s.eff:=rfl
theorem srel_trim(h:SRel φ w N s a)(hn:n<=s.m.n):SRel (φ.cut n s.m.an) w N (s.trim n) a:=by
 have ha:∀i b,φ.arr i=some b->i<s.m.an:=λi b h'=>(h.mem.arr i b h').1;refine⟨λt=>VRel.cutb ha _ _ (h.tmp t),h.size,mrel_cut (m':=(s.trim n).m) h.mem rfl hn (λi _ h=>by simp only[St.trim_β,h,BoxC.cutb]) λi vs _ hr=>?_⟩;cases hc:s.m.β i with
 |cells l=>
  rw[hc]at hr;simp only[St.trim_β,hc,BoxC.cutb,BRel];rw[←cutbL_eq];exact VRelL.cutb ha l vs hr
 |inv I=>
  rw[hc]at hr;simp only[St.trim_β,hc,BoxC.cutb];obtain⟨l,h1,h2,h3,h4⟩:=hr;refine⟨l,h1,h2,h3,?_⟩;have:=VRelL.cutb (n:=n) ha l vs h4;rwa[h3]at this
 |hole=>rw[hc]at hr;exact hr.elim
theorem exists_least{p:Nat->Prop}(h:∃k,p k):∃k,p k/\∀j,p j->k<=j:=by
 obtain⟨k,hk⟩:=h;induction k using Nat.strongRecOn with
 |_ k ih=>
  by_cases hj:∃j,j<k/\p j
  ·obtain⟨j,hlt,hj⟩:=hj;exact ih j hlt hj
  ·exact⟨k,hk,λj hj'=>Nat.le_of_not_lt λhlt=>hj ⟨j,hlt,hj'⟩⟩
theorem sem_loop{c:Code}{Q:Ex->St->Prop}(I:St->Prop)(μ:St->Nat)(h0:I s)
  (round:∀s,I s->CodeSem P c s λe s'=>match e with
   |.normal=>(I s'/\μ s'<μ s)\/((∀e∈s'.eff,e.clean)/\s'.a0.n<=s.m.n/\s'.a0.a<=s'.m.an/\s.m.n<=s'.m.n/\I (s'.trim s.m.n)/\μ (s'.trim s.m.n)<μ s)
   |.exit i=>Q (.exit i) s'
   |.ret=>Q .ret s'):CodeSem P (.loop c) s Q:=by
 intro A φ w N n r a hd hs ha hA hm;let R:St->Act->World->Prop:=λs a w=>∃φ,SRel φ w N s a/\Anch A φ w s.eff/\Old A s/\Marks φ w A.w0 A.tl a.defers/\I s;have hleast:∀a w,∃k:Nat,(∃s,R s a w)->(∃s,R s a w/\μ s=k)/\∀s,R s a w->k<=μ s:=by
  intro a w;by_cases h:∃s,R s a w
  ·obtain⟨s,hs⟩:=h;obtain⟨k,⟨s',h1,h2⟩,hk⟩:=exists_least (p:=λk=>∃s,R s a w/\μ s=k) ⟨μ s,s,hs,rfl⟩;exact⟨k,λ_=>⟨⟨s',h1,h2⟩,λs h=>hk _ ⟨s,h,rfl⟩⟩⟩
  ·exact⟨0,λh'=>absurd h' h⟩
 let M:Act->World->Nat:=λa w=>Classical.choose (hleast a w);have hM:∀a w,(∃s,R s a w)->(∃s,R s a w/\μ s=M a w)/\∀s,R s a w->M a w<=μ s:=λa w=>Classical.choose_spec (hleast a w);refine wpX_loop (λa w=>∃s,R s a w) M ⟨s,φ,hs,ha,hA,hm,h0⟩ λa w hR=>?_;obtain⟨⟨s,⟨φ,h1,h2,h3,h4,h5⟩,hμ⟩,_⟩:=hM a w hR;refine wpX_mono (round s h5 A φ w N n r a hd h1 h2 h3 h4) ?_;rintro e a' w' ⟨ex,s',φ',he,k1,k2,k3,kA,k4⟩;cases e<;>simp only[Ex.of,Option.some.injEq]at he<;>try (cases he;done)
 ·subst he;rcases k4 with⟨hI,hlt⟩|⟨h6,h7,h8,h9,hI,hlt⟩
  ·have hR':R s' a' w':=⟨φ',k1,k2,kA,k3,hI⟩;have:=(hM a' w' ⟨s',hR'⟩).2 s' hR';exact⟨⟨s',hR'⟩,by omega⟩
  ·have hR':R (s'.trim s.m.n) a' w':=by
    have hc:Step A.φ0 A.w0 (φ'.cut s.m.n s'.m.an) w' s'.eff:=step_cut h6 k2.st (λi b hb=>Nat.lt_of_lt_of_le (kA.2.1 i b hb) h7) (λi b hb=>Nat.lt_of_lt_of_le (kA.1 i b hb) h8);have hrest:Rest φ' w' (φ'.cut s.m.n s'.m.an) w':=⟨Nat.le_refl _,λb _ ho _=>⟨rfl,λk=>ho (own_cut k)⟩⟩;exact⟨φ'.cut s.m.n s'.m.an,srel_trim k1 h9,⟨by rw[St.trim_eff];exact hc,k2.re.trans hrest⟩,kA,k3.rest hrest,hI⟩
   have:=(hM a' w' ⟨_,hR'⟩).2 _ hR';exact⟨⟨_,hR'⟩,by omega⟩
 ·subst he;exact⟨.exit _,s',φ',rfl,k1,k2,k3,kA,k4⟩
 ·subst he;exact⟨.ret,s',φ',rfl,k1,k2,k3,kA,k4⟩
end
def aRes1(P:Program)(s:St):ResultVar->Option PV
 |.tmp t=>some (s.g t)
 |.cell x t=>aLoad P s.m t (s.g x)
def aResL(P:Program)(s:St):List ResultVar->Option (List PV)
 |[]=>some []
 |v::vs=>match aRes1 P s v,aResL P s vs with
  |some p,some ps=>some (p::ps)
  |_,_=>none
def aRes(P:Program)(s:St)(l:List ResultVar):Option PV:=match aResL P s l with
 |some [p]=>some p
 |some ps=>some (.tup ps)
 |none=>none
def entryY(ys:List YRec)(args:List PV)(m:Mem):St:=⟨λt=>(args[t]?).getD .undef,m,⟨m.an,m.n,ys⟩,[]⟩
abbrev entry(args:List PV)(m:Mem):St:=entryY [] args m
section
variable{P:Program}{φ:Phi}{w:World}
def resRun(tmps:Array Value):ResultVar->Sem Value
 |.tmp t=>pure (tmps.getD t undef)
 |.cell x t=>do loadVar t (←asAddr (tmps.getD x undef))
theorem resRun_ok{N:Nat}{s:St}{a:Act}(hs:SRel φ w N s a){x:ResultVar}{p:PV}(h:aRes1 P s x=some p):∃v,(resRun a.tmps x).run P w=.ok v w/\VRel φ w p v:=by
 cases x with
 |tmp t=>
  simp only[aRes1,Option.some.injEq]at h;subst h;exact⟨_,by simp[resRun],hs.tmp t⟩
 |cell x t=>
  simp only[aRes1]at h;obtain⟨v,hld,hp⟩:=load_ok (P:=P) h hs.mem (hs.tmp x);refine⟨v,?_,hp⟩;have hsrc:∃cs,aSrc s.m (s.g x)=some cs:=by
   unfold aLoad at h;split at h
   ·rename_i cs hsrc _;exact⟨cs,hsrc⟩
   ·rename_i c cs hsrc _;exact⟨_,hsrc⟩
   ·cases h
  obtain⟨cs,hsrc⟩:=hsrc;obtain⟨b,off,e,_⟩:=src_cells hsrc hs.mem (hs.tmp x);rw[e]at hld;simp only[resRun,e];simpa[Instr.loadAt,Instr.sureAddr,asAddr]using hld
theorem run_results{N:Nat}{s:St}{a:Act}(hs:SRel φ w N s a){fn:Func}{pv:PV}(h:aRes P s fn.results.toList=some pv):∃v,(results fn a.tmps).run P w=.ok v w/\VRel φ w pv v:=by
 have hl:∀(l:List ResultVar)(ps:List PV),aResL P s l=some ps->∃vs:List Value,(l.mapM (resRun a.tmps)).run P w=.ok vs w/\VRelL φ w ps vs:=by
  intro l;induction l with
  |nil=>intro ps h;simp only[aResL]at h;injection h with h;subst h;exact⟨[],by simp,rfl⟩
  |cons x l ih=>
   intro ps h;simp only[aResL]at h;split at h
   ·rename_i p ps' h1 h2;injection h with h;subst h;obtain⟨vs,hr,hv⟩:=ih ps' h2;obtain⟨v,h3,h4⟩:=resRun_ok hs h1;exact⟨v::vs,by simp[List.mapM_cons,Sem.run_bind,h3,hr],v,vs,rfl,h4,hv⟩
   ·cases h
 have hm:∀l ps,fn.results.toList=l->aResL P s l=some ps->∃vs:List Value,(fn.results.mapM (resRun a.tmps)).run P w=.ok vs.toArray w/\VRelL φ w ps vs:=by
  intro l ps e h;obtain⟨vs,h1,h2⟩:=hl l ps h;refine⟨vs,?_,h2⟩;rw[Array.mapM_eq_mapM_toList,e,map_eq_pure_bind,Sem.run_bind,h1];simp
 have hrw:results fn a.tmps=(do let vs ←fn.results.mapM (resRun a.tmps);pure (if h:vs.size=1 then vs[0]else .tuple vs)):=by
  unfold results;congr 1
 rw[hrw,Sem.run_bind];unfold aRes at h;split at h
 ·rename_i p hp;injection h with h;subst h;obtain⟨vs,h1,h2⟩:=hm _ _ rfl hp;rw[h1];simp only[VRelL]at h2;obtain⟨v,vs',rfl,h3,rfl⟩:=h2;exact⟨v,by simp,h3⟩
 ·rename_i ps hne hp;injection h with h;subst h;obtain⟨vs,h1,h2⟩:=hm _ _ rfl hp;rw[h1];refine⟨.tuple vs.toArray,?_,vs,rfl,h2⟩;have:vs.length≠1:=by
   intro e;have:=vrelL_length h2
   match ps,hne with
   |[],_=>simp at this;omega
   |[p],hne=>exact hne p rfl
   |_::_::_,_=>simp at this;omega
  simp[this]
 ·cases h
end
end
end Go.Proofs.Ytjfejoadcdoobaa
