/- Part of the proof of RuleKnown. No condition. -/
import Derived.RangeFuncRecord
import Derived.RangeFuncLeaves
import Derived.OrdersIn
import Derived.Test.YtlminnpaeaganaaGreatMKnownAC
namespace Go.Proofs.YtlminnpaeaganaaGreat
set_option maxRecDepth 100000
set_option linter.all false
section
open Go Go.RowKit
variable[cQ]
section
variable{P:Program}{φ:bo}{w:World}{A:Anchor}{N n:Nat}{s:aA}{a:Act}{K:aA->Prop}{Q:Exit->Act->World->Prop}{r:Option Nat}{m:Mem}
mutual
theorem H3{a0:Nat}(aW:∀i b,φ.arr i=some b->i<a0){e:b9}(he:a0<=e.id):∀(q:aa)(c:Value),aY φ w q c->q.bW e=q
 |.sl (some i) sz off len cs,c,h=>by
  simp only[aY]at h;obtain⟨_,a,cap,_,_,h⟩:=h;rcases h with h|⟨b,_,ae,dA⟩
  ·exact absurd h.1 (by simp)
  ·have aX:i≠e.id:=by have:=aW i b ae.1;omega
   have ak:=Am aW he b cs off dA;cases e<;>simp only[aa.bW,b9.id]at aX⊢<;>rw[if_neg aX,ak]
 |.sl none sz off len cs,c,h=>by
  simp only[aY]at h;obtain⟨ak,a,cap,_,_,h⟩:=h;rcases h with h|⟨b,_,ae,dA⟩
  ·have:cs=[]:=List.eq_nil_of_length_eq_zero (by rw[ak,h.2.1];simp);subst this;simp[aa.bW,eF]
  ·simp only[aa.bW];rw[Am aW he b cs off dA]
 |.bJ (some i) off cs,c,h=>by
  simp only[aY]at h;obtain⟨b,_,ae,dA⟩:=h;have aX:i≠e.id:=by have:=aW i b ae.1;omega
  have ak:=Am aW he b cs off dA;cases e<;>simp only[aa.bW,b9.id]at aX⊢<;>rw[if_neg aX,ak]
 |.bJ none off cs,c,h=>by
  simp only[aY]at h;obtain⟨b,_,ae,dA⟩:=h;simp only[aa.bW];rw[Am aW he b cs off dA]
 |.fn f bf,c,h=>by
  simp only[aY]at h;obtain⟨af,_,h⟩:=h;simp only[aa.bW];rw[DO aW he bf af h]
 |.agg cs,c,h=>by
  simp only[aY]at h;obtain⟨af,_,h⟩:=h;simp only[aa.bW];rw[DO aW he cs af h]
 |.bD cs,c,h=>by
  simp only[aY]at h;obtain⟨af,_,h⟩:=h;simp only[aa.bW];rw[DO aW he cs af h]
 |.mp it none sz cs,c,h=>by simp only[aa.bW]
 |.mp it (some i) sz cs,c,h=>by
  simp only[aY]at h;obtain⟨b,_,ae,_⟩:=h;have aX:i≠e.id:=by have:=aW i b ae;omega
  cases e<;>simp only[aa.bW,b9.id]at aX⊢<;>rw[if_neg aX]
 |.int _ _,_,_ | .bool _,_,_ | .str _,_,_ | .undef,_,_ | .bad,_,_ | .ca,_,_ | .eL,_,_ | .bC,_,_ | .dead _,_,_ | .cq _,_,_ | .ptr _ _,_,_ | .aV _ _ _,_,_=>by simp only[aa.bW]
theorem DO{a0:Nat}(aW:∀i b,φ.arr i=some b->i<a0){e:b9}(he:a0<=e.id):∀(l:List aa)(af:List Value),bl φ w l af->eF e l=l
 |[],_,_=>rfl
 |p::l,af,h=>by
  simp only[bl]at h;obtain⟨v,cB,_,aT,U⟩:=h;simp only[eF];rw[H3 aW he p v aT,DO aW he l cB U]
theorem Am{a0:Nat}(aW:∀i b,φ.arr i=some b->i<a0){e:b9}(he:a0<=e.id)(b:Nat):∀(l:List aa)(off:Nat),b7 φ w b l off->eF e l=l
 |[],_,_=>rfl
 |p::l,off,h=>by
  simp only[b7]at h;obtain⟨⟨c,_,aT⟩,U⟩:=h;simp only[eF];rw[H3 aW he p c aT,Am aW he b l (off+1) U]
end
theorem MO{a0:Nat}(aW:∀i b,φ.arr i=some b->i<a0){q:aa}{c:Value}(h:aY φ w q c):∀E:List b9,q.sub (pX a0 E)=q.sub E
 |[]=>rfl
 |e::E=>by
  simp only[pX];split
  ·rw[MO aW h E];grind [aa.sub,H3]
  ·rfl
theorem Step.drop{gg:bo}{c9:World}{a0:Nat}(aW:∀i b,gg.arr i=some b->i<a0){E:List b9}(h:Step gg c9 φ w E):Step gg c9 φ w (pX a0 E):=
 ⟨λq c aH=>by rw[MO aW aH];exact h.tr q c aH,h.os,h.output,h.size,h.rest⟩
theorem cY.add{a0:Nat}(aW:∀i b,A.gg.arr i=some b->i<a0){bb E:List b9}(h:cY A φ w (bb++E)):cY A φ w (gV a0 bb E):=by
 cases bb with
 |nil=>exact⟨h.st.drop aW,h.a8⟩
 |cons e es=>exact h
def Bt(φ:bo)(w:World):Option aa->Option Value->Prop
 |none,none=>True
 |some p,some v=>aY φ w p v
 |_,_=>False
theorem DQ{cw:Option aa}{vlo:Option Value}{d l y:Nat}(h:rm d cw=some l)(ad:Bt φ w cw vlo)(aF:l<=y)(c:BoundsCode):
  (match vlo with|some v=>Instr.sliceBound v y c|none=>pure d:Sem Nat).run P w=.ok l w:=by
 cases cw with
 |none=>cases vlo with
  |none=>simp_all[rm]
  |some v=>trivial
 |some p=>cases vlo with
  |none=>trivial
  |some v=>
   cases p with
   |int k dZ=>
    simp only[rm]at h;split at h
    ·injection h with h;have e:v=.int k dZ:=ad;subst h;simp_all[Instr.sliceBound,asIntOf]
    ·cases h
   |_=>simp[rm]at h
theorem ZW{t:TypeId}{x pv:aa}{cw aX:Option aa}{dP:Value}{vlo vhi:Option Value}(h:p1 P t x cw aX=some pv)(aj:aY φ w x dP)(FJ:Bt φ w cw vlo)(TV:Bt φ w aX vhi):
  ∃v,(Instr.sliceAt t dP vlo vhi none).run P w=.ok v w/\aY φ w pv v:=by
 unfold p1 at h;split at h
 ·rename_i e id sz off len cs hu;split at h
  ·rename_i l bq gk KM;split at h
   ·rename_i ah;obtain⟨hle,hlen,bX,c1⟩:=ah;have ao:=run_sizeOf (w:=w) c1;obtain⟨hcs,vF,cap,rfl,lg,ae⟩:=aj;have aB:(Instr.sliceAt t (.slice vF len cap) vlo vhi none).run P w=.ok (.slice (if cap=l then vF else vF.map (·.add (l*sz))) (bq-l) (cap-l)) w:=by
     have hb:(Instr.sliceBounds true len cap vlo vhi none).run P w=.ok (l,bq,cap) w:=by
      have U:=DQ (P:=P) KM TV (y:=cap) (by omega) .sliceAcap;have ab:=DQ (P:=P) gk FJ (y:=bq) hle .sliceB;cases vhi<;>cases vlo<;>simp[Instr.sliceBounds]at U ab⊢<;>simp[*]
     simp[Instr.sliceAt,Instr.slice,run_underlying hu,hb,ao,bX]
    refine⟨_,aB,?_⟩;split at h
    ·rename_i he;injection h with h;subst h;subst he;exact⟨by simp,_,_,by rw[Nat.sub_self],by omega,.inl ⟨rfl,rfl,by grind⟩⟩
    ·injection h with h;subst h;rw[if_neg (by omega)];rcases ae with ae|⟨b,rfl,ae,dA⟩
     ·omega
     ·refine⟨?_,_,_,rfl,by omega,.inr ⟨b,by simp[q0],NX ae ?_,ML (G3 dA _) _⟩⟩
      ·rw[List.length_take,List.length_drop,hcs,←Nat.sub_mul];grind [Nat.mul_le_mul_right]
      ·rw[Nat.add_assoc,←Nat.add_mul];grind
   ·cases h
  ·cases h
 ·rename_i e hu;split at h
  ·rename_i l bq gk KM;split at h
   ·rename_i ah;obtain⟨rfl,rfl,c1⟩:=ah;injection h with h;subst h;have ao:=run_sizeOf (w:=w) c1;have hc:dP=.slice none 0 0:=aj;subst hc;refine⟨.slice none 0 0,?_,rfl⟩;have hb:(Instr.sliceBounds true 0 0 vlo vhi none).run P w=.ok (0,0,0) w:=by
     have U:=DQ (P:=P) KM TV (y:=0) (by omega) .sliceAcap;have ab:=DQ (P:=P) gk FJ (y:=0) (by omega) .sliceB;cases vhi<;>cases vlo<;>simp[Instr.sliceBounds]at U ab⊢<;>simp[*]
    simp[Instr.sliceAt,Instr.slice,run_underlying hu,hb,ao]
   ·cases h
  ·cases h
 ·cases h
theorem Hx(bh:cY A φ w s.bb)(fA:p9 s.a0.ys A.gg A.c9):p9 s.c7 φ w:=by
 intro y aF t;obtain⟨mK,aT,rfl⟩:=List.mem_map.1 aF;exact bh.st.tr _ _ (fA mK aT t)
theorem Yy{o:Oper}{c:Call}{f:Operand}{g:FuncId}{bf:List aa}(ar:o.op=.call c)(de:c.callee=.value f)(h:cW φ w N s a)(bh:cY A φ w s.bb)(aV:∀t,o.dst=some t->t<N)
  (aW:∀i b,A.gg.arr i=some b->i<s.a0.a) (aQ:s.ay f=.fn g bf) (aN:∃fn,P.funcs[g]?=some fn/\fn.name ≠ "runtime.NumGoroutine" /\ fn.body.isSome)
  (fA:p9 s.a0.ys A.gg A.c9) (eP:qR P s.c7 g (c.args.toList.map s.ay++bf) s.m λv E m'=>K ((s.after E m').put o.dst v)):o.dE r P a w (Good A N a.defers K) Q:=by
 have iY:∀c,o.op≠.defer c:=λc e=>by grind
 refine o0 iY ?_;have eH:=h.ay f;rw[aQ]at eH;obtain⟨af,ai,e0⟩:=eH;obtain⟨fn,dX,hs,JC⟩:=aN;obtain⟨code,JD⟩:=Option.isSome_iff_exists.1 JC;have qb:(c.args.map a.eval++af.toArray)=(c.args.toList.map a.eval++af).toArray:=by grind
 have aB:(execOp a.eval o).run P w=.ok (.enter g (c.args.toList.map a.eval++af).toArray) w:=by simp[execOp,ar,resolve,de,ai,Deferred.ofValue,invoke,callFunc,dX,hs,JD]
 rw[aB];simp only[Oper.wP];refine(eP φ _ w h.mem (Ad (h.evs _) e0) (Hx bh fA)).mono ?_;rintro e w' ⟨v,pv,E,m',bn,rfl,eW,eX,eo,aq⟩;refine⟨_,bn,?_,?_,put_defers _ _ _,aq⟩
 ·have U:cW bn w' N (s.after E m') a:=⟨λt=>eo.tr _ _ (h.tmp t),h.size,eX⟩;exact U.put aV eW
 ·rw[aA.uA,aA.NV];exact cY.add aW (bh.trans eo)
theorem Xo{o:Oper}{c:Call}{f:Operand}{l:Nat}{y:eN}{st:LoopState}{mJ:Option Code}(ar:o.op=.call c)(de:c.callee=.value f)(h:cW φ w N s a)(bh:cY A φ w s.bb)(aV:∀t,o.dst=some t->t<N)
  (aW:∀i b,A.gg.arr i=some b->i<s.a0.a) (aQ:s.ay f=.cq l) (fA:p9 s.a0.ys A.gg A.c9) (fb:(l,{ y.o with state:=st,pending:=mJ })∈s.m.rc) (aI:c.args.size=y.o.params.size)
  (eP:wD P s.c7 y.o l (c.args.toList.map s.ay) s.m λv E m'=>K ((s.after E m').put o.dst v)):o.dE r P a w (Good A N a.defers K) Q:=by
 have iY:∀c,o.op≠.defer c:=λc e=>by grind
 refine o0 iY ?_;have eH:=h.ay f;rw[aQ]at eH;have ai:a.eval f=.func (.yield l) #[] #[]:=eH;have wR:=h.mem.gw _ _ fb;have qb:c.args.map a.eval=(c.args.toList.map a.eval).toArray:=by grind
 have aB:(execOp a.eval o).run P w=.ok (.round l y.o.fn ((y.o.params.zip (c.args.toList.map a.eval).toArray).foldl (λtmps (t,a)=>tmps.setIfInBounds t a) y.o.tmps) y.o.assign y.o.body) w:=by simp_all[run_yield,execOp,resolve,Deferred.ofValue,invoke]
 rw[aB];simp only[Oper.wP];refine(eP φ _ w 0 h.mem (h.evs _) (Hx bh fA)).mono ?_;rintro e w' ⟨v,pv,E,m',bn,rfl,eW,eX,eo,aq⟩;refine⟨_,bn,?_,?_,put_defers _ _ _,aq⟩
 ·have U:cW bn w' N (s.after E m') a:=⟨λt=>eo.tr _ _ (h.tmp t),h.size,eX⟩;exact U.put aV eW
 ·rw[aA.uA,aA.NV];exact cY.add aW (bh.trans eo)
theorem yn{o:Oper}(h:cW φ w N s a)(bh:cY A φ w s.bb)(aV:∀t,o.dst=some t->t<N)(aW:∀i b,A.gg.arr i=some b->i<s.a0.a)(fA:p9 s.a0.ys A.gg A.c9)(eP:eQ P s o K):
  o.dE r P a w (Good A N a.defers K) Q:=by
 obtain⟨dst,op,type,pos,after,guard⟩:=o;simp only at aV;cases op with
 |move x=>exact iG (by simp) h bh aV (by simp[execOp]) (h.ay x) eP
 |assign x=>exact iG (by simp) h bh aV (by simp[execOp]) (h.ay x) eP
 |pick c x y=>
  obtain⟨t,ah,eP⟩:=eP;have e:=h.ay c;rw[ah]at e;have e:=yv e;cases t
  ·exact iG (by simp) h bh aV (by simp[execOp,e,asBool]) (h.ay y) eP
  ·exact iG (by simp) h bh aV (by simp[execOp,e,asBool]) (h.ay x) eP
 |binOp op t x y aje=>
  obtain⟨pv,hb,eP⟩:=eP;obtain⟨v,ad,ai⟩:=ac7 hb (h.ay x) (h.ay y) x y;refine iG (by simp) h bh aV (v:=v) ?_ ai eP;show((do eqGuard op t x y (a.eval x) (a.eval y);binOp op t (a.eval x) (a.eval y):Sem Value) >>= λu=>pure (Next.value u)).run P w=_;rw[Sem.run_bind,ad];rfl
 |unOp op t x=>
  obtain⟨pv,hb,eP⟩:=eP;obtain⟨v,ad,ai⟩:=aeh (P:=P) hb (h.ay x);exact iG (by simp) h bh aV (by simp[execOp,ad]) ai eP
 |convert src CG x=>
  obtain⟨pv,hb,eP⟩:=eP;obtain⟨v,ad,ai⟩:=abq hb (h.ay x);exact iG (by simp) h bh aV (by simp[execOp,ad]) ai eP
 |extract x i=>
  simp only[eQ]at eP;split at eP
  ·rename_i af he;obtain⟨pv,hb,eP⟩:=eP;have e:=h.ay x;rw[he]at e;obtain⟨us,e,zt⟩:=e;obtain⟨v,ai,ad⟩:=o1 zt hb;exact iG (by simp) h bh aV (by simp[execOp,e,Instr.extract,ai]) ad eP
  ·exact eP.elim
 |fieldAddr t x f=>
  obtain⟨pv,hb,eP⟩:=eP;obtain⟨v,ad,ai⟩:=ZP hb (h.ay x);exact iG (by simp) h bh aV (by simp[execOp,ad]) ai eP
 |field t x f=>
  obtain⟨pv,hb,eP⟩:=eP;obtain⟨v,ad,ai⟩:=Ym hb (h.ay x);exact iG (by simp) h bh aV (by simp[execOp,ad]) ai eP
 |indexAddr t x i=>
  obtain⟨pv,hb,eP⟩:=eP;obtain⟨v,ad,ai⟩:=We hb (h.ay x) (h.ay i);exact iG (by simp) h bh aV (by simp[execOp,ad]) ai eP
 |index t x i=>
  obtain⟨pv,hb,eP⟩:=eP;obtain⟨v,ad,ai⟩:=ZQ hb (h.ay x) (h.ay i);exact iG (by simp) h bh aV (by simp[execOp,ad]) ai eP
 |load t x=>
  obtain⟨pv,hb,eP⟩:=eP;obtain⟨v,ad,ai⟩:=PY hb h.mem (h.ay x);exact iG (by simp) h bh aV (by simp[execOp,ad]) ai eP
 |build t parts=>
  obtain⟨pv,hb,eP⟩:=eP;obtain⟨v,ad,ai⟩:=ZT h hb;exact iG (by simp) h bh aV (by simp only[execOp,Sem.run_bind,ad,Result.andThen_ok,Sem.run_pure]) ai eP
 |nilCheck x=>
  simp only[eQ]at eP;split at eP
  ·rename_i i off he;have e:=h.ay x;rw[he]at e;obtain⟨b,hb,e⟩:=e;exact iG (by simp) h bh aV (v:=.pointer (some ⟨b,off,none⟩)) (pv:=.ptr i off) (by simp[execOp,e]) ⟨b,hb,rfl⟩ eP
  ·rename_i f bf he;have e:=h.ay x;rw[he]at e;obtain⟨af,e,e0⟩:=e;exact iG (by simp) h bh aV (v:=.func (.func f) #[] af.toArray) (pv:=.fn f bf) (by simp[execOp,e]) ⟨af,rfl,e0⟩ eP
  ·exact eP.elim
 |box t x=>
  obtain⟨aq,eP⟩:=eP;exact OU (by simp) h bh aV (e:=t) (cs:=(a.eval x).cells.toList) (by simp[execOp,Instr.box,newVar,newRow]) (Al (h.ay x) aq) eP
 |alloc t=>
  obtain⟨z,bO,eP⟩:=eP;obtain⟨i,fx,aX,tq,rfl⟩:=ye bO;exact OU (by simp) h bh aV (e:=t) (cs:=fx.cells.toList) (by simp[execOp,Instr.alloc,zeroValue,typeInfo,aX,tq,newVar,newRow]) (C6 φ w _) eP
 |makeMap t r=>
  obtain⟨rfl,eP⟩:=eP;split at eP
  ·rename_i cR e hu;exact Ol rfl h bh aV hu eP
  ·exact eP.elim
 |mapUpdate t m k x=>
  obtain⟨nX,eP⟩:=eP;split at eP
  ·rename_i cR e id sz cs key hu aj aq;obtain⟨U,ab,al,aJ,bm,bI⟩:=eP;exact Pk rfl h bh aV (λ_ _ _ au=>cY.add aW au) hu U nX aj aq ab al aJ bm bI
  ·exact eP.elim
 |range t x=>
  simp only[eQ]at eP;split at eP
  ·rename_i cR e sz cs hu aj;exact Pp rfl h bh aV hu aj eP.1 eP.2
  ·exact eP.elim
 |next x str=>
  obtain⟨rfl,eP⟩:=eP;split at eP
  ·rename_i id sz cs aj;exact Qz rfl h bh aV (λ_ _ _ au=>cY.add aW au) eP.1 aj eP.2.1 eP.2.2
  ·exact eP.elim
 |entry x=>
  simp only[eQ]at eP;split at eP
  ·rename_i id sz cs aj;exact PS rfl h bh aV aj eP.2.1 eP.2.2
  ·exact eP.elim
 |makeFunc fn first bf=>
  cases fn with
  |func f=>
   obtain⟨rfl,eP⟩:=eP;obtain⟨l⟩:=bf;exact iG (by simp) h bh aV (v:=.func (.func f) #[] (l.map a.eval).toArray) (pv:=.fn f (l.map s.ay)) (by simp[execOp,Instr.makeFunc]) ⟨l.map a.eval,rfl,h.evs l⟩ eP
  |_=>exact eP.elim
 |slice t x cw aX qC=>
  cases qC with
  |some _=>exact eP.elim
  |none=>
   obtain⟨pv,hb,eP⟩:=eP;obtain⟨v,ad,ai⟩:=ZW (vlo:=cw.map a.eval) (vhi:=aX.map a.eval) hb (h.ay x) (by cases cw<;>simp[Bt,h.ay]) (by cases aX<;>simp[Bt,h.ay]);exact iG (by simp) h bh aV (by simp[execOp,ad]) ai eP
 |buildSlice t len parts=>
  simp only[eQ]at eP;split at eP
  ·rename_i e z hu bO;rw[hu]at bO;obtain⟨aX,rI,eb,Br,cs,aQ,eP⟩:=eP;rcases eP with eP|eP|eP
   ·exact VA rfl h bh aV hu bO aX rI eb Br aQ eP
   ·exact Mh rfl h bh aV hu bO aX rI eb Br aQ eP
   ·exact N3 rfl h bh aV hu bO aX rI eb Br aQ eP
  ·exact eP.elim
 |makeSlice t l c=>
  simp only[eQ]at eP;split at eP
  ·rename_i e l8 oW hu ak ah;obtain⟨z,bO,rI,eb,aX,aT,hle,TR,ag8,eP⟩:=eP;exact Yr rfl h bh aV hu ak ah bO rI eb aX aT hle TR ag8 eP
  ·exact eP.elim
 |store t x y=>
  obtain⟨nX,eP⟩:=eP;simp only at nX;subst nX;simp only[uK]at eP;split at eP
  ·rename_i id off aj;obtain⟨cr,aX,ah,U,l,fW,aQ,eP⟩:=eP;have aq:(s.ay y).known=true:=by cases aF:s.ay y<;>first|rfl|(rw[aF]at U;simp[aa.cells,aa.one]at U)
   have e:=h.ay x;rw[aj]at e;obtain⟨w',ad,eX,eo⟩:=Yn aX ah U h.mem cr fW aQ e (h.ay y) aq;refine o0 (by simp) ?_;have aB:(execOp a.eval ⟨none,.store t x y,type,pos,after,guard⟩).run P w=.ok .skip w':=by simp[execOp,ad]
   rw[aB];refine⟨s.hq id (fa l off (s.ay y).cells),φ,⟨λu=>eo.tr _ _ (h.tmp u),h.size,eX⟩,?_,rfl,eP⟩;have:=bh.trans eo;simpa using this
  ·rename_i id off cs aj;obtain⟨aX,eb,ah,U,hle,aI,eP⟩:=eP;have aq:(s.ay y).known=true:=by cases aF:s.ay y<;>first|rfl|(rw[aF]at U;simp[aa.cells,aa.one]at U)
   have e:=h.ay x;rw[aj]at e;obtain⟨w',ad,eX,eo⟩:=Yo aX eb ah U hle aI h.mem e (h.ay y) aq;refine o0 (by simp) ?_;have aB:(execOp a.eval ⟨none,.store t x y,type,pos,after,guard⟩).run P w=.ok .skip w':=by simp[execOp,ad]
   rw[aB];refine⟨s.gY (nd id off (s.ay y).cells),φ,⟨λu=>eo.tr _ _ (h.tmp u),h.size,eX⟩,?_,rfl,eP⟩;rw[aA.Ix];exact cY.add aW (bh.trans eo)
  ·exact eP.elim
 |call c=>
  simp only[eQ]at eP;split at eP
  ·rename_i f de;split at eP
   ·rename_i g bf aQ;exact Yy rfl de h bh aV aW aQ eP.1 fA eP.2
   ·rename_i l aQ;obtain⟨y,st,mJ,U,ab,al,aJ,bm⟩:=eP;exact Xo rfl de h bh aV aW aQ fA al aJ bm
   ·exact eP.elim
  ·rename_i de;split at eP
   ·rename_i t x a1 aj;obtain⟨pv,hb,eP⟩:=eP;obtain⟨callee,args,fl⟩:=c;obtain⟨l⟩:=args;simp only at de aj a1;subst de;subst aj;obtain⟨v,ad,ai⟩:=ac8 (P:=P) a1 hb (h.ay x) type;exact iG (by simp) h bh aV (by simp[execOp,resolve,invoke,builtin,ad]) ai eP
   ·exact eP.elim
  ·rename_i de;obtain⟨pv,hb,eP⟩:=eP;obtain⟨callee,args,fl⟩:=c;obtain⟨l⟩:=args;simp only at de;subst de;obtain⟨v,ad,ai⟩:=(Sh (P:=P) (pv:=pv) (h.evs l) fl type).1 hb;exact iG (by simp) h bh aV (by simp[execOp,resolve,invoke,builtin,ad]) ai eP
  ·rename_i de;obtain⟨pv,hb,eP⟩:=eP;obtain⟨callee,args,fl⟩:=c;obtain⟨l⟩:=args;simp only at de;subst de;obtain⟨v,ad,ai⟩:=(Sh (P:=P) (pv:=pv) (h.evs l) fl type).2 hb;exact iG (by simp) h bh aV (by simp[execOp,resolve,invoke,builtin,ad]) ai eP
  ·rename_i de;split at eP
   ·rename_i t bw x y a1 aj;obtain⟨rfl,eP⟩:=eP;obtain⟨callee,args,fl⟩:=c;obtain⟨l⟩:=args;simp only at de aj a1;subst de;subst aj;subst a1;exact Wz rfl h bh aV (λi φ w ao=>cY.add aW ao) eP
   ·exact eP.elim
  ·exact eP.elim
 |_=>exact eP.elim
end
end
section
open Go Go.RowKit
variable[cQ]
inductive eJ where
 |normal
 |exit (id:Nat)
 |ret
def eJ.of:Exit->Option eJ
 |.normal=>some .normal
 |.exit i=>some (.exit i)
 |.ret=>some .ret
 |_=>none
def Marks(φ:bo)(w c9:World):List Deferred->Prop
 |[]=>True
 |d::ds=>(∃D,d={ target:=.collected D,args:=#[] }/\c9.heap.size<=D/\w.heap[D]?=some (.deferred (some []))/\¬φ.own D/\∀dq∈ds,dq≠d)/\Marks φ w c9 ds
theorem Marks.rest{φ bn:bo}{w w' c9:World}(r:Rest φ w bn w'):∀{ds:List Deferred},Marks φ w c9 ds->Marks bn w' c9 ds
 |[],_=>trivial
 |d::ds,⟨⟨D,U,ab,al,aJ,bm⟩,h⟩=>by
  have aU:D<w.heap.size:=(Array.getElem?_eq_some_iff.1 al).1;obtain⟨k1,k2⟩:=r.rest D aU aJ (λo e=>by grind);exact⟨⟨D,U,ab,k1.trans al,k2,bm⟩,Marks.rest r h⟩
def Old(A:Anchor)(s:aA):Prop:=(∀i b,A.gg.arr i=some b->i<s.a0.a)/\(∀i b,A.gg.box i=some b->i<s.a0.n)/\p9 s.a0.ys A.gg A.c9
def EP(A:Anchor)(N:Nat)(Q:eJ->aA->Prop):Exit->Act->World->Prop:=λe a' w'=>
 ∃ex s' bn,eJ.of e=some ex/\cW bn w' N s' a'/\cY A bn w' s'.bb/\Marks bn w' A.c9 a'.defers/\Old A s'/\Q ex s'
def nT(N:Nat)(o:Oper):Bool:=match o.dst with
 |some d=>decide (d<N)
 |none=>true
def hr(N:Nat):Code->Bool
 |.region _ ops _=>ops.toList.all (nT N)
 |.seq a b=>hr N a&&hr N b
 |.cond _ a b=>hr N a&&hr N b
 |.block _ c=>hr N c
 |.loop c=>hr N c
 |.rangeFunc _ a7 a b=>a7.toList.all (λd=>decide (d<N))&&hr N a&&hr N b
 |.scope c=>hr N c
 |_=>true
def mm:Code->Bool
 |.seq x y=>mm x&&mm y
 |.cond _ x y=>mm x&&mm y
 |.block _ x=>mm x
 |.loop x=>mm x
 |.rangeFunc _ _ _ _=>false
 |.scope x=>mm x
 |_=>true
def mC(r:Option Nat)(N:Nat)(c:Code):Bool:=hr N c&&(r.isNone||mm c)
theorem DR{r:Option Nat}{N:Nat}{c:Code}(h:mC r N c=true):hr N c=true:=by grind [mC]
theorem ZX{N:Nat}{c:Code}(h:hr N c=true):mC none N c=true:=by simp[mC,h]
theorem OX{l N:Nat}{c:Code}(h:hr N c=true)(k:mm c=true):mC (some l) N c=true:=by simp[mC,h,k]
theorem abw{r:Option Nat}{N:Nat}{x y:Code}(h:mC r N (.seq x y)=true):mC r N x=true/\mC r N y=true:=by grind [mC,hr,mm]
theorem ZY{r:Option Nat}{N:Nat}{c:Operand}{x y:Code}(h:mC r N (.cond c x y)=true):mC r N x=true/\mC r N y=true:=by grind [mC,hr,mm]
def ff(P:Program)(c:Code)(s:aA)(Q:eJ->aA->Prop):Prop:=
 ∀(A:Anchor)(φ:bo)(w:World)(N n:Nat)(r:Option Nat)(a:Act),mC r N c=true->cW φ w N s a->cY A φ w s.bb->Old A s->Marks φ w A.c9 a.defers ->
  c.dE r P (EP A N Q) a w
theorem DS(φ:bo)(w:World)(τ:Tape)(d:Nat):kk φ w φ (a8 w τ d):=⟨λ_ _ h=>h,λ_ _ h=>h,λ_ _ h=>h,Nat.le_refl _,λ_ _ _=>rfl,λ_ _ _=>rfl⟩
theorem c0.a8{φ:bo}{w:World}{m:Mem}(h:c0 φ m w)(τ:Tape)(d:Nat):c0 φ m (a8 w τ d):=by
 refine⟨λi aX=>?_,h.dt,h.arr,h.jo,h.hp,h.sep,h.gw⟩;rcases h.box i aX with h|⟨b,cs,e,U,ab,al⟩
 ·grind
 ·exact .inr ⟨b,cs,e,U,ab,v7 (DS φ w τ d) al⟩
theorem cW.a8{φ:bo}{w:World}{N:Nat}{s:aA}{a:Act}(h:cW φ w N s a)(τ:Tape)(d:Nat):cW φ (a8 w τ d) N s a:=⟨λt=>aY.keeps (DS φ w τ d) _ _ (h.tmp t),h.size,h.mem.a8 τ d⟩
theorem sD(φ:bo)(w:World)(τ:Tape)(d:Nat):Step φ w φ (Go.Proofs.YtlminnpaeaganaaGreat.a8 w τ d) []:=⟨λq c h=>aY.keeps (DS φ w τ d) _ _ h,rfl,rfl,Nat.le_refl _,λ_ _ h _=>⟨rfl,h⟩⟩
theorem cY.tu{A:Anchor}{φ:bo}{w:World}{E:List b9}(h:cY A φ w E)(τ:Tape)(d:Nat):cY A φ (Go.Proofs.YtlminnpaeaganaaGreat.a8 w τ d) E:=by
 have:=h.trans (sD φ w τ d);grind
def ld(ops:Array Oper)(s:aA)(o:Oper)(X Y:Prop):Prop:=match o.guard with
 |none=>X
 |some (j,want)=>match(ops[j]?).bind (·.dst)with
  |some d=>match s.g d with
   |.bool b=>if b=want then X else Y
   |.undef=>Y
   |_=>False
  |none=>Y
def dW(s s1:aA):Prop:=s1.a0=s.a0/\∀(φ:bo)(w:World)(N:Nat)(a:Act)(A:Anchor),cW φ w N s a->cY A φ w s.bb->Old A s->∃bn,cW bn w N s1 a/\cY A bn w s1.bb
theorem dW.refl(s:aA):dW s s:=⟨rfl,λφ _ _ _ _ U ab _=>⟨φ,U,ab⟩⟩
theorem dW.trans{s s1 s2:aA}(h:dW s s1)(k:dW s1 s2):dW s s2:=
 ⟨k.1.trans h.1,λφ w N a A U ab al=>by
  obtain⟨bn,g1,g2⟩:=h.2 φ w N a A U ab al;exact k.2 bn w N a A g1 g2 (by unfold Old at al⊢;rw[h.1];exact al)⟩
def h1(P:Program)(ops:Array Oper):List Oper->aA->(aA->Prop)->Prop
 |[],s,K=>K s
 |o::rest,s,K=>ld ops s o (∃s1,dW s s1/\eQ P s1 o λs'=>h1 P ops rest s' K) (h1 P ops rest (s.put o.dst .undef) K)
def CH(P:Program):Code->aA->(eJ->aA->Prop)->Prop
 |.skip,s,Q=>Q .normal s
 |.region _ ops false,s,Q=>h1 P ops ops.toList s (Q .normal)
 |.seq x y,s,Q=>CH P x s λe s'=>match e with
  |.normal=>CH P y s' Q
  |.exit i=>Q (.exit i) s'
  |.ret=>Q .ret s'
 |.cond c x y,s,Q=>∃t,s.ay c=.bool t/\(if t=true then CH P x s Q else CH P y s Q)
 |.block id c,s,Q=>CH P c s λe s'=>match e with
  |.normal=>Q .normal s'
  |.exit i=>if i=id then Q .normal s' else Q (.exit i) s'
  |.ret=>Q .ret s'
 |.exit id,s,Q=>Q (.exit id) s
 |.ret,s,Q=>Q .ret s
 |c,s,Q=>ff P c s Q
section
variable{P:Program}{φ:bo}{w:World}{A:Anchor}{N n:Nat}{s:aA}{a:Act}{r:Option Nat}
theorem Xp{t:TypeId}{x v:aa}{K fy:aA->Prop}(aq:∀s',s'.a0=s.a0->K s'->fy s')(h:uK P s t x v K):uK P s t x v fy:=by
 unfold uK at *;split at h
 ·obtain⟨U,ab,al,aJ,l,bm,bI,cS⟩:=h;exact⟨U,ab,al,aJ,l,bm,bI,aq _ (by simp) cS⟩
 ·obtain⟨U,ab,al,aJ,bm,bI,cS⟩:=h;exact⟨U,ab,al,aJ,bm,bI,aq _ (by simp) cS⟩
 grind
theorem WE{d:Option Tmp}{t:TypeId}{x y:aa}{K fy:aA->Prop}(aq:∀s',s'.a0=s.a0->K s'->fy s')(h:uB P s d t x y K):uB P s d t x y fy:=by
 unfold uB at *;split at h
 ·obtain⟨U,ab,al,h⟩:=h;refine⟨U,ab,al,?_⟩;split at h
  ·obtain⟨aJ,h⟩:=h;refine⟨aJ,?_⟩;split at h
   ·obtain⟨bm,bI,h⟩:=h;exact⟨bm,bI,aq _ (by split<;>simp) h⟩
   ·obtain⟨bm,bI,cS,et,gp,h⟩:=h;simp_all
   grind
  grind
 grind
theorem uC{o:Oper}{K fy:aA->Prop}(aq:∀s',s'.a0=s.a0->K s'->fy s')(h:eQ P s o K):eQ P s o fy:=by
 obtain⟨dst,op,type,pos,after,guard⟩:=o;cases op with
 |move x=>exact aq _ (by simp) h
 |assign x=>exact aq _ (by simp) h
 |pick c x y=>obtain⟨t,U,ab⟩:=h;exact⟨t,U,aq _ (by simp) ab⟩
 |binOp op t x y aje=>obtain⟨t,U,ab⟩:=h;exact⟨t,U,aq _ (by simp) ab⟩
 |unOp op t x=>obtain⟨t,U,ab⟩:=h;exact⟨t,U,aq _ (by simp) ab⟩
 |convert a b x=>obtain⟨t,U,ab⟩:=h;exact⟨t,U,aq _ (by simp) ab⟩
 |fieldAddr t x f=>obtain⟨t,U,ab⟩:=h;exact⟨t,U,aq _ (by simp) ab⟩
 |field t x f=>obtain⟨t,U,ab⟩:=h;exact⟨t,U,aq _ (by simp) ab⟩
 |indexAddr t x f=>obtain⟨t,U,ab⟩:=h;exact⟨t,U,aq _ (by simp) ab⟩
 |index t x f=>obtain⟨t,U,ab⟩:=h;exact⟨t,U,aq _ (by simp) ab⟩
 |load t x=>obtain⟨t,U,ab⟩:=h;exact⟨t,U,aq _ (by simp) ab⟩
 |alloc t=>obtain⟨t,U,ab⟩:=h;exact⟨t,U,aq _ (by simp) ab⟩
 |build t a7=>obtain⟨t,U,ab⟩:=h;exact⟨t,U,aq _ (by simp) ab⟩
 |box t x=>exact⟨h.1,aq _ (by simp) h.2⟩
 |store t x y=>exact⟨h.1,Xp aq h.2⟩
 |nilCheck x=>
  simp only[eQ]at h⊢;split at h
  ·exact aq _ (by simp) h
  ·exact aq _ (by simp) h
  ·exact h.elim
 |extract x i=>
  simp only[eQ]at h⊢;split at h
  ·obtain⟨t,U,ab⟩:=h;exact⟨t,U,aq _ (by simp) ab⟩
  ·exact h.elim
 |buildSlice t len a7=>
  simp only[eQ]at h⊢;split at h
  ·obtain⟨U,ab,al,aJ,cs,bm,bI⟩:=h;exact⟨U,ab,al,aJ,cs,bm,bI.imp (aq _ (by simp)) (Or.imp (aq _ (by simp)) (aq _ (by simp)))⟩
  ·exact h.elim
 |makeSlice t l c=>
  simp only[eQ]at h⊢;split at h
  ·obtain⟨z,U,ab,al,aJ,bm,bI,cS,et,gp⟩:=h;exact⟨z,U,ab,al,aJ,bm,bI,cS,et,aq _ (by simp) gp⟩
  ·exact h.elim
 |slice t x cw aX qC=>
  cases qC with
  |none=>obtain⟨t,U,ab⟩:=h;exact⟨t,U,aq _ (by simp) ab⟩
  |some _=>exact h.elim
 |makeMap t r=>
  obtain⟨U,h⟩:=h;refine⟨U,?_⟩;split at h
  ·exact aq _ (by simp[aA.qa]) h
  ·exact h.elim
 |mapUpdate t m k x=>
  obtain⟨U,h⟩:=h;refine⟨U,?_⟩;split at h
  ·obtain⟨ab,al,aJ,bm,bI,cS⟩:=h;exact⟨ab,al,aJ,bm,bI,aq _ (by simp[aA.q6]) cS⟩
  ·exact h.elim
 |range t x=>
  simp only[eQ]at h⊢;split at h
  ·exact⟨h.1,aq _ (by simp[aA.qa]) h.2⟩
  ·exact h.elim
 |next x str=>
  obtain⟨U,h⟩:=h;refine⟨U,?_⟩;split at h
  ·exact⟨h.1,λe=>aq _ (by simp) (h.2.1 e),λi aX=>aq _ (by simp[aA.q6]) (h.2.2 i aX)⟩
  ·exact h.elim
 |entry x=>
  simp only[eQ]at h⊢;split at h
  ·exact⟨h.1,h.2.1,aq _ (by simp) h.2.2⟩
  ·exact h.elim
 |makeFunc fn first bf=>
  cases fn with
  |func f=>exact⟨h.1,aq _ (by simp) h.2⟩
  |_=>exact h.elim
 |call c=>
  simp only[eQ]at h⊢;split at h
  ·split at h
   ·exact⟨h.1,h.2.mono λ_ _ _ h=>aq _ (by simp) h⟩
   ·obtain⟨y,st,mJ,U,ab,al,aJ,bm⟩:=h;exact⟨y,st,mJ,U,ab,al,aJ,bm.mono λ_ _ _ h=>aq _ (by simp) h⟩
   ·exact h.elim
  ·split at h
   ·obtain⟨t,U,ab⟩:=h;exact⟨t,U,aq _ (by simp) ab⟩
   ·exact h.elim
  ·obtain⟨t,U,ab⟩:=h;exact⟨t,U,aq _ (by simp) ab⟩
  ·obtain⟨t,U,ab⟩:=h;exact⟨t,U,aq _ (by simp) ab⟩
  ·split at h
   ·exact⟨h.1,WE aq h.2⟩
   ·exact h.elim
  ·exact h.elim
 |_=>exact h.elim
theorem Xq{ops:Array Oper}{j d:Nat}{b:Bool}(h:cW φ w N s a)(aV:(ops[j]?).bind (·.dst)=some d)(hb:s.g d=.bool b):yielded ops a.tmps j=some b:=by
 have e:=h.tmp d;rw[hb]at e;have e:=yv e;have aU:d<a.tmps.size:=by grind [undef]
 simp_all[yielded]
theorem WG{ops:Array Oper}{j d:Nat}(h:cW φ w N s a)(aV:(ops[j]?).bind (·.dst)=some d)(hb:s.g d=.undef):yielded ops a.tmps j=none:=by
 have e:=h.tmp d;rw[hb]at e;simp only[aY]at e;unfold yielded;rw[aV];simp ;cases aN:a.tmps[d]? with
 |none=>rfl
 |some v=>simp_all
theorem yc{ops:Array Oper}{o:Oper}{X Y:Prop}(h:cW φ w N s a)(aN:ld ops s o X Y):
  (Region.wanted o (yielded ops a.tmps)=true/\X)\/(Region.wanted o (yielded ops a.tmps)=false/\Y):=by
 unfold ld at aN;unfold Region.wanted;split at aN
 ·grind
 ·rename_i j want aT;rw[aT];split at aN
  ·rename_i d aV;split at aN
   ·rename_i b hb;simp only[Xq h aV hb];grind
   all_goals grind [WG]
  grind [yielded]
theorem Hc{ops:Array Oper}{K:aA->Prop}{Q:Exit->Act->World->Prop}:∀(l:List Oper)(k:Nat)(s:aA)(a:Act)(φ:bo)(w:World),(∀j,l[j]?=ops[k+j]?)->l.all (nT N)=true ->
  cW φ w N s a->cY A φ w s.bb->Old A s->h1 P ops l s K->(∀a' w',(∃s',s'.a0=s.a0/\Good A N a.defers (λu=>u=s'/\K u) a' w')->Q .normal a' w') ->
  nQ r P ops Q (List.range' k l.length) a w
 |[],k,s,a,φ,w,_,_,ao,au,_,eP,gI=>by exact gI a w ⟨s,rfl,s,φ,ao,au,rfl,rfl,eP⟩
 |o::l,k,s,a,φ,w,ak,aV,ao,au,aW,eP,gI=>by
  have aT:ops[k]?=some o:=by simpa using(ak 0).symm
  have er:∀j,l[j]?=ops[k+1+j]?:=λj=>by have:=ak (j+1);grind
  simp only[List.all_cons,Bool.and_eq_true]at aV;have nh:∀t,o.dst=some t->t<N:=λt e=>by grind [nT]
  simp only[List.length_cons,List.range'_succ,nQ,aT];rcases yc ao eP with⟨hw,fz⟩|⟨hw,fA⟩
  ·rw[if_pos hw];intro τ d;obtain⟨s1,⟨aK,Bu⟩,fz⟩:=fz;obtain⟨ny,kQ,pC⟩:=Bu φ w N a A ao au aW;replace kQ:=kQ.a8 τ d;replace pC:=pC.tu τ d;have qm:Old A s1:=by grind [Old]
   refine Oper.k8 ?_ (yn (A:=A) kQ pC nh qm.1 qm.2.2 (uC (λs' e h=>(⟨e,h⟩:s'.a0=s1.a0/\_)) fz));rintro a' w' ⟨s',bn,U,ab,al,aJ,bm⟩;replace aJ:=aJ.trans aK;exact Hc l (k+1) s' a' bn w' er aV.2 U ab (by grind [Old]) bm (λa2 w2 ⟨s2,aO,h⟩=>gI a2 w2 ⟨s2,aO.trans aJ,by grind⟩)
  ·rw[if_neg (by simp[hw])];have U:cW φ w N (s.put o.dst .undef) (a.put o.dst undef):=ao.put nh rfl;exact Hc l (k+1) _ _ φ w er aV.2 U (by simp_all) (by grind [Old,aA.EA]) fA
    (λa2 w2 ⟨s2,aO,h⟩=>gI a2 w2 ⟨s2,by simp_all,by grind [put_defers]⟩)
theorem oZ{c:Code}{Q lB:eJ->aA->Prop}(h:ff P c s Q)(aH:∀e s,Q e s->lB e s):ff P c s lB:=
 λA φ w N n r a aV ao au aW hm=>k8 (h A φ w N n r a aV ao au aW hm) λ_ _ _ ⟨ex,s',bn,U,ab,al,aJ,bI,bm⟩=>⟨ex,s',bn,U,ab,al,aJ,bI,aH _ _ bm⟩
theorem GP{c:Code}{s1:aA}{Q:eJ->aA->Prop}(ao:dW s s1)(h:ff P c s1 Q):ff P c s Q:=by
 intro A φ w N n r a aV ad au aW hm;obtain⟨bn,U,ab⟩:=ao.2 φ w N a ⟨A.gg,A.c9,φ,w⟩ ad ⟨au.st,Rest.refl φ w⟩ aW;exact h A bn w N n r a aV U ⟨ab.st,au.a8.trans ab.a8⟩ (by unfold Old at aW⊢;rw[ao.1];exact aW) (hm.rest ab.a8)
theorem qL{id:Nat}{ops:Array Oper}{Q:eJ->aA->Prop}(h:h1 P ops ops.toList s (Q .normal)):ff P (.region id ops false) s Q:=by
 intro A φ w N n r a aV ao au aW hm;have jv:ops.toList.all (nT N)=true:=DR aV;refine Xr ?_;rw[List.range_eq_range',←Array.length_toList];have kR:cY ⟨A.gg,A.c9,φ,w⟩ φ w s.bb:=⟨au.st,Rest.refl φ w⟩;refine Hc (A:=⟨A.gg,A.c9,φ,w⟩) ops.toList 0 s a φ w (by simp) jv ao kR aW h ?_;rintro a' w' ⟨s',e,s2,bn,U,ab,al,rfl,bm⟩;exact⟨.normal,s2,bn,rfl,U,⟨ab.st,au.a8.trans ab.a8⟩,by rw[al];exact hm.rest ab.a8,by grind [Old],bm⟩
end
section
variable{P:Program}{s:aA}
theorem OY{Q:eJ->aA->Prop}(h:Q .normal s):ff P .skip s Q:=λA φ w N n r a aV ao au aW hm=>ZZ ⟨.normal,s,φ,rfl,ao,au,hm,aW,h⟩
theorem aeO{l:Nat}{Q:eJ->aA->Prop}(h:Q .normal s):ff P (.label l) s Q:=λA φ w N n r a aV ao au aW hm=>aeP ⟨.normal,s,φ,rfl,ao,au,hm,aW,h⟩
theorem aeV{c:Code}{Q:eJ->aA->Prop}(h:ff P c s Q):ff P (.scope c) s Q:=λA φ w N n r a aV ao au aW hm=>ae3 (h A φ w N n r a aV ao au aW hm)
theorem Iz{Q:eJ->aA->Prop}(h:Q .ret s):ff P .ret s Q:=λA φ w N n r a aV ao au aW hm=>P5 ⟨.ret,s,φ,rfl,ao,au,hm,aW,h⟩
theorem Z0{id:Nat}{Q:eJ->aA->Prop}(h:Q (.exit id) s):ff P (.exit id) s Q:=λA φ w N n r a aV ao au aW hm=>OZ ⟨.exit id,s,φ,rfl,ao,au,hm,aW,h⟩
theorem AA{c:Operand}{x y:Code}{Q:eJ->aA->Prop}(t:Bool)(a1:s.ay c=.bool t)(h:if t=true then ff P x s Q else ff P y s Q):ff P (.cond c x y) s Q:=by
 intro A φ w N n r a aV ao au aW hm;replace aV:=ZY aV;have e:=ao.ay c;rw[a1]at e;refine Z1 (yv e) ?_;cases t
 ·exact h A φ w N n r a aV.2 ao au aW hm
 ·exact h A φ w N n r a aV.1 ao au aW hm
theorem Yz{id:Nat}{c:Code}{Q:eJ->aA->Prop}(h:ff P c s λe s'=>match e with
  |.normal=>Q .normal s'
  |.exit i=>if i=id then Q .normal s' else Q (.exit i) s'
  |.ret=>Q .ret s'):ff P (.block id c) s Q:=by
 intro A φ w N n r a aV ao au aW hm;refine YA (k8 (h A φ w N n r a aV ao au aW hm) ?_);rintro e a' w' ⟨ex,s',bn,he,k1,k2,bP,kA,cX⟩;cases e<;>simp[eJ.of]at he<;>try (done)
 ·subst he;exact⟨.normal,s',bn,rfl,k1,k2,bP,kA,cX⟩
 ·subst he;simp only at cX;simp only[Exit.inBlock];split
  ·rename_i h;rw[if_pos h]at cX;exact⟨.normal,s',bn,rfl,k1,k2,bP,kA,cX⟩
  ·rename_i h;rw[if_neg h]at cX;exact⟨.exit _,s',bn,rfl,k1,k2,bP,kA,cX⟩
 ·subst he;exact⟨.ret,s',bn,rfl,k1,k2,bP,kA,cX⟩
theorem o6{x y:Code}{Q:eJ->aA->Prop}(h:ff P x s λe s'=>match e with
  |.normal=>ff P y s' Q
  |.exit i=>Q (.exit i) s'
  |.ret=>Q .ret s'):ff P (.seq x y) s Q:=by
 intro A φ w N n r a aV ao au aW hm;replace aV:=abw aV;refine abx (k8 (h A φ w N n r a aV.1 ao au aW hm) ?_);rintro e a' w' ⟨ex,s',bn,he,k1,k2,bP,kA,cX⟩;cases e<;>simp[eJ.of]at he<;>try (done)
 ·subst he;exact cX A bn w' N n r a' aV.2 k1 k2 kA bP
 ·subst he;exact⟨.exit _,s',bn,rfl,k1,k2,bP,kA,cX⟩
 ·subst he;exact⟨.ret,s',bn,rfl,k1,k2,bP,kA,cX⟩
end
end
section
open Go Go.RowKit
variable[cQ]
def bo.cut(φ:bo)(n an:Nat):bo:={ box:=λi=>if i<n then φ.box i else none,arr:=λi=>if i<an then φ.arr i else none }
section
variable{P:Program}{φ:bo}{w:World}{A:Anchor}{N n an:Nat}{s:aA}{a:Act}{r:Option Nat}{m:Mem}
theorem pZ{b:Nat}(h:(φ.cut n an).own b):φ.own b:=by
 rcases h with⟨i,h⟩|⟨i,h⟩<;>simp only[bo.cut]at h<;>split at h<;>first|cases h|skip
 ·exact .inl ⟨i,h⟩
 ·exact .inr ⟨i,h⟩
theorem v8{id:Option Nat}{b sz off cap:Nat}(h:place φ w id b sz off cap)(aX:∀i,id=some i->i<an):place (φ.cut n an) w id b sz off cap:=by
 cases id with
 |none=>exact⟨λk=>h.1 (pZ k),h.2⟩
 |some i=>
  obtain⟨au,h⟩:=h;exact⟨by grind [bo.cut],h⟩
mutual
theorem aY.cut:∀(q:aa)(c:Value),aY φ w q c->q.cT n an->aY (φ.cut n an) w q c
 |.int _ _,c,h,_ | .bool _,c,h,_ | .str _,c,h,_ | .undef,c,h,_ | .bad,c,h,_ | .ca,c,h,_ | .eL,c,h,_ | .bC,c,h,_ | .dead _,c,h,_ | .cq _,c,h,_=>by simp only[aY]at h⊢<;>exact h
 |.ptr i o,c,h,hb=>by
  simp only[aY,aa.cT]at h hb⊢;obtain⟨b,U,ab⟩:=h;exact⟨b,by simp[bo.cut,hb,U],ab⟩
 |.aV i o z,c,h,hb=>by
  simp only[aY,aa.cT]at h hb⊢;obtain⟨b,U,ab⟩:=h;exact⟨b,by simp[bo.cut,hb,U],ab⟩
 |.sl id sz off len cs,c,h,hb=>by
  simp only[aY]at h⊢;obtain⟨ak,a,cap,ai,ah,h⟩:=h;refine⟨ak,a,cap,ai,ah,?_⟩;rcases h with h|⟨b,au,ae,ad⟩
  ·exact .inl h
  ·refine .inr ⟨b,au,v8 ae (λi e=>?_),b7.cut b cs off ad ?_⟩
   ·subst e;simp only[aa.cT]at hb;exact hb.1
   ·cases id<;>simp only[aa.cT]at hb<;>first|exact hb|exact hb.2
 |.bJ id off cs,c,h,hb=>by
  simp only[aY]at h⊢;obtain⟨b,au,ae,ad⟩:=h;refine⟨b,au,v8 ae (λi e=>?_),b7.cut b cs off ad ?_⟩
  ·subst e;simp only[aa.cT]at hb;exact hb.1
  ·cases id<;>simp only[aa.cT]at hb<;>first|exact hb|exact hb.2
 |.fn f cs,c,h,hb=>by
  simp only[aY,aa.cT]at h hb⊢;obtain⟨af,U,ab⟩:=h;exact⟨af,U,bl.cut cs af ab hb⟩
 |.agg cs,c,h,hb=>by
  simp only[aY,aa.cT]at h hb⊢;obtain⟨af,U,ab⟩:=h;exact⟨af,U,bl.cut cs af ab hb⟩
 |.bD cs,c,h,hb=>by
  simp only[aY,aa.cT]at h hb⊢;obtain⟨af,U,ab⟩:=h;exact⟨af,U,bl.cut cs af ab hb⟩
 |.mp it id sz cs,c,h,hb=>by
  simp only[aY]at h⊢;refine h.move (λb o ae bq _ _ _=>⟨?_,bq⟩) λb o ae bq _ _ _=>⟨λk=>ae (pZ k),bq⟩;cases id with
  |none=>exact λk=>ae (pZ k)
  |some i=>simp only[aa.cT]at hb;simp only[o9]at ae⊢;simp[bo.cut,hb,ae]
theorem bl.cut:∀(l:List aa)(af:List Value),bl φ w l af->e5 n an l->bl (φ.cut n an) w l af
 |[],af,h,_=>by simp only[bl]at h⊢;exact h
 |p::a7,af,h,hb=>by
  simp only[bl,e5]at h hb⊢;obtain⟨v,cB,e,aT,U⟩:=h;exact⟨v,cB,e,aY.cut p v aT hb.1,bl.cut a7 cB U hb.2⟩
theorem b7.cut(b:Nat):∀(l:List aa)(off:Nat),b7 φ w b l off->e5 n an l->b7 (φ.cut n an) w b l off
 |[],_,_,_=>by simp only[b7]
 |p::a7,off,h,hb=>by
  simp only[b7,e5]at h hb⊢;obtain⟨⟨c,ah,aT⟩,U⟩:=h;exact⟨⟨c,ah,aY.cut p c aT hb.1⟩,b7.cut b a7 (off+1) U hb.2⟩
end
mutual
theorem Du(hb:∀i b,φ.box i=some b->i<n)(au:∀i b,φ.arr i=some b->i<an):∀(q:aa)(c:Value),aY φ w q c->q.cT n an
 |.int _ _,c,_ | .bool _,c,_ | .str _,c,_ | .undef,c,_ | .bad,c,_ | .ca,c,_ | .eL,c,_ | .bC,c,_ | .dead _,c,_ | .cq _,c,_=>by simp only[aa.cT]
 |.ptr i o,c,h=>by
  simp only[aY,aa.cT]at h⊢;obtain⟨b,U,_⟩:=h;exact hb i b U
 |.aV i o z,c,h=>by
  simp only[aY,aa.cT]at h⊢;obtain⟨b,U,_⟩:=h;exact hb i b U
 |.sl none sz off len cs,c,h=>by
  simp only[aY,aa.cT]at h⊢;obtain⟨ak,a,cap,ai,ah,h⟩:=h;rcases h with h|⟨b,_,ae,ad⟩
  ·have:cs=[]:=List.eq_nil_of_length_eq_zero (by rw[ak,h.2.1];simp);subst this;simp only[e5]
  ·exact Ae hb au b cs off ad
 |.sl (some i) sz off len cs,c,h=>by
  simp only[aY,aa.cT]at h⊢;obtain⟨ak,a,cap,ai,ah,h⟩:=h;rcases h with h|⟨b,_,ae,ad⟩
  ·exact absurd h.1 (by simp)
  ·exact⟨au i b ae.1,Ae hb au b cs off ad⟩
 |.bJ none off cs,c,h=>by
  simp only[aY,aa.cT]at h⊢;obtain⟨b,_,ae,ad⟩:=h;exact Ae hb au b cs off ad
 |.bJ (some i) off cs,c,h=>by
  simp only[aY,aa.cT]at h⊢;obtain⟨b,_,ae,ad⟩:=h;exact⟨au i b ae.1,Ae hb au b cs off ad⟩
 |.fn f cs,c,h=>by
  simp only[aY,aa.cT]at h⊢;obtain⟨af,_,ab⟩:=h;exact ui hb au cs af ab
 |.agg cs,c,h=>by
  simp only[aY,aa.cT]at h⊢;obtain⟨af,_,ab⟩:=h;exact ui hb au cs af ab
 |.bD cs,c,h=>by
  simp only[aY,aa.cT]at h⊢;obtain⟨af,_,ab⟩:=h;exact ui hb au cs af ab
 |.mp it none sz cs,c,h=>by simp only[aa.cT]
 |.mp it (some i) sz cs,c,h=>by
  simp only[aY,aa.cT]at h⊢;obtain⟨b,_,ae,_⟩:=h;exact au i b ae
theorem ui(hb:∀i b,φ.box i=some b->i<n)(au:∀i b,φ.arr i=some b->i<an):∀(l:List aa)(af:List Value),bl φ w l af->e5 n an l
 |[],_,_=>by simp only[e5]
 |p::a7,af,h=>by
  simp only[bl,e5]at h⊢;obtain⟨v,cB,_,aT,U⟩:=h;exact⟨Du hb au p v aT,ui hb au a7 cB U⟩
theorem Ae(hb:∀i b,φ.box i=some b->i<n)(au:∀i b,φ.arr i=some b->i<an)(b:Nat):∀(l:List aa)(off:Nat),b7 φ w b l off->e5 n an l
 |[],_,_=>by simp only[e5]
 |p::a7,off,h=>by
  simp only[b7,e5]at h⊢;obtain⟨⟨c,_,aT⟩,U⟩:=h;exact⟨Du hb au p c aT,Ae hb au b a7 (off+1) U⟩
end
mutual
theorem aY.cH(au:∀i b,φ.arr i=some b->i<an):∀(q:aa)(c:Value),aY φ w q c->aY (φ.cut n an) w (q.cH n) c
 |.int _ _,c,h | .bool _,c,h | .str _,c,h | .undef,c,h | .bad,c,h | .ca,c,h | .eL,c,h | .bC,c,h | .dead _,c,h | .cq _,c,h=>by simp only[aY,aa.cH]at h⊢<;>exact h
 |.ptr i o,c,h=>by
  simp only[aa.cH];split
  ·rename_i aX;simp only[aY]at h⊢;obtain⟨b,U,ab⟩:=h;exact⟨b,by simp[bo.cut,aX,U],ab⟩
  ·simp only[aY]
 |.aV i o z,c,h=>by
  simp only[aa.cH];split
  ·rename_i aX;simp only[aY]at h⊢;obtain⟨b,U,ab⟩:=h;exact⟨b,by simp[bo.cut,aX,U],ab⟩
  ·simp only[aY]
 |.sl id sz off len cs,c,h=>by
  simp only[aY,aa.cH]at h⊢;obtain⟨ak,a,cap,ai,ah,h⟩:=h;refine⟨by rw[o3,List.length_map];exact ak,a,cap,ai,ah,?_⟩;rcases h with h|⟨b,bL,ae,ad⟩
  ·exact .inl h
  ·exact .inr ⟨b,bL,v8 ae (λi e=>by subst e;exact au i b ae.1),b7.cH au b cs off ad⟩
 |.bJ id off cs,c,h=>by
  simp only[aY,aa.cH]at h⊢;obtain⟨b,bL,ae,ad⟩:=h;exact⟨b,bL,v8 ae (λi e=>by subst e;exact au i b ae.1),b7.cH au b cs off ad⟩
 |.fn f cs,c,h=>by
  simp only[aY,aa.cH]at h⊢;obtain⟨af,U,ab⟩:=h;exact⟨af,U,bl.cH au cs af ab⟩
 |.agg cs,c,h=>by
  simp only[aY,aa.cH]at h⊢;obtain⟨af,U,ab⟩:=h;exact⟨af,U,bl.cH au cs af ab⟩
 |.bD cs,c,h=>by
  simp only[aY,aa.cH]at h⊢;obtain⟨af,U,ab⟩:=h;exact⟨af,U,bl.cH au cs af ab⟩
 |.mp it id sz cs,c,h=>by
  simp only[aY,aa.cH]at h⊢;refine h.move (λb o ae bq _ _ _=>⟨?_,bq⟩) λb o ae bq _ _ _=>⟨λk=>ae (pZ k),bq⟩;cases id with
  |none=>exact λk=>ae (pZ k)
  |some i=>simp only[o9]at ae⊢;simp[bo.cut,au i b ae,ae]
theorem bl.cH(au:∀i b,φ.arr i=some b->i<an):∀(l:List aa)(af:List Value),bl φ w l af->bl (φ.cut n an) w (iR n l) af
 |[],af,h=>by simp only[bl,iR]at h⊢;exact h
 |p::a7,af,h=>by
  simp only[bl,iR]at h⊢;obtain⟨v,cB,e,aT,U⟩:=h;exact⟨v,cB,e,aY.cH au p v aT,bl.cH au a7 cB U⟩
theorem b7.cH(au:∀i b,φ.arr i=some b->i<an)(b:Nat):∀(l:List aa)(off:Nat),b7 φ w b l off->b7 (φ.cut n an) w b (iR n l) off
 |[],_,_=>by simp only[b7,iR]
 |p::a7,off,h=>by
  simp only[b7,iR]at h⊢;obtain⟨⟨c,ah,aT⟩,U⟩:=h;exact⟨⟨c,ah,aY.cH au p c aT⟩,b7.cH au b a7 (off+1) U⟩
end
def b9.clean:b9->Prop
 |.wr _ _ v=>∀n an,v.cT n an
 |.kill _=>True
theorem N7{n an:Nat}{v:aa}(ai:v.cT n an){cs:List aa}{off p:Nat}(h:e5 n an cs):e5 n an (setAt cs off p v):=by grind [setAt,abo]
mutual
theorem P6{n an:Nat}{e:b9}(he:e.clean):∀q:aa,q.cT n an->(q.bW e).cT n an
 |.int _ _,_ | .bool _,_ | .str _,_ | .undef,_ | .bad,_ | .ca,_ | .eL,_ | .bC,_ | .dead _,_ | .cq _,_=>by simp only[aa.bW,aa.cT]
 |.ptr i _,h=>by simpa only[aa.bW,aa.cT]using h
 |.aV i _ _,h=>by simpa only[aa.bW,aa.cT]using h
 |.sl none _ _ _ cs,h=>by simp only[aa.bW,aa.cT]at h⊢;exact uu he cs h
 |.sl (some i) _ _ _ cs,h=>by
  simp only[aa.cT]at h;have ah:=uu he cs h.2;cases e with
  |kill j=>simp only[aa.bW];split<;>simp only[aa.cT];exact⟨h.1,ah⟩
  |wr j p v=>
   simp only[aa.bW];split<;>simp only[aa.cT]
   ·exact⟨h.1,N7 (he n an) ah⟩
   ·exact⟨h.1,ah⟩
 |.bJ none _ cs,h=>by simp only[aa.bW,aa.cT]at h⊢;exact uu he cs h
 |.bJ (some i) _ cs,h=>by
  simp only[aa.cT]at h;have ah:=uu he cs h.2;cases e with
  |kill j=>simp only[aa.bW];split<;>simp only[aa.cT];exact⟨h.1,ah⟩
  |wr j p v=>
   simp only[aa.bW];split<;>simp only[aa.cT]
   ·exact⟨h.1,N7 (he n an) ah⟩
   ·exact⟨h.1,ah⟩
 |.fn _ cs,h=>by simp only[aa.bW,aa.cT]at h⊢;exact uu he cs h
 |.agg cs,h=>by simp only[aa.bW,aa.cT]at h⊢;exact uu he cs h
 |.bD cs,h=>by simp only[aa.bW,aa.cT]at h⊢;exact uu he cs h
 |.mp _ none _ cs,h=>by simp only[aa.bW,aa.cT]
 |.mp _ (some i) _ cs,h=>by
  simp only[aa.cT]at h;cases e with
  |kill j=>simp only[aa.bW];split<;>simp only[aa.cT];exact h
  |wr j p v=>
   simp only[aa.bW];split
   ·split
    ·split<;>simp only[aa.cT];exact h
    ·simp only[aa.cT]
   ·simp only[aa.cT];exact h
theorem uu{n an:Nat}{e:b9}(he:e.clean):∀l:List aa,e5 n an l->e5 n an (eF e l)
 |[],_=>by simp only[eF,e5]
 |p::a7,h=>by simp only[eF,e5]at h⊢;exact⟨P6 he p h.1,uu he a7 h.2⟩
end
theorem I7{n an:Nat}:∀{E:List b9}(_:∀e∈E,e.clean){q:aa},q.cT n an->(q.sub E).cT n an
 |[],_,_,h=>h
 |e::E,he,q,h=>I7 (E:=E) (λe' bc=>he e' (by simp[bc])) (P6 (he e (by simp)) q h)
theorem DT{gg:bo}{c9:World}{E:List b9}(ej:∀e∈E,e.clean)(h:Step gg c9 φ w E)(hb:∀i b,gg.box i=some b->i<n)(au:∀i b,gg.arr i=some b->i<an):Step gg c9 (φ.cut n an) w E:=
 ⟨λq c aH=>aY.cut _ c (h.tr q c aH) (I7 ej (Du hb au q c aH)),h.os,h.output,h.size,λb aU ar ak=>⟨(h.rest b aU ar ak).1,λk=>(h.rest b aU ar ak).2 (pZ k)⟩⟩
theorem H4{m':Mem}(hm:c0 φ m w)(fb:m'.rc=m.rc)(aI:m'.n<=m.n)(bq:∀i,i<m'.n->m.β i=.hole->m'.β i=.hole)(fW:∀i af,i<m'.n->m3 φ w (m.β i) af->m3 (φ.cut m'.n m'.an) w (m'.β i) af):c0 (φ.cut m'.n m'.an) m' w:=by
 refine⟨λi aX=>?_,λi aX=>?_,λi b h=>?_,λi j b U ab=>?_,λi j b U ab=>?_,λi j b U ab=>?_,by rw[fb];exact hm.gw⟩
 ·rcases hm.box i (by omega)with⟨g1,g2⟩|⟨b,cs,e,hb,bq,ad⟩;all_goals grind [bo.cut]
 ·grind [bo.cut]
 ·simp only[bo.cut]at h;split at h
  ·rename_i aX;exact⟨aX,(hm.arr i b h).2⟩
  ·cases h
 ·simp only[bo.cut]at U ab;split at U<;>split at ab<;>first|cases U|cases ab|exact hm.jo i j b U ab
 ·simp only[bo.cut]at U ab;split at U<;>split at ab<;>first|cases U|cases ab|exact hm.hp i j b U ab
 ·simp only[bo.cut]at U ab;split at U<;>split at ab<;>first|cases U|cases ab|exact hm.sep i j b U ab
def di.cH(n:Nat):di->di
 |.cells l=>.cells (l.map (aa.cH n))
 |.inv I=>.inv I
 |.hole=>.hole
def aA.trim(s:aA)(n:Nat):aA:={ s with g:=λt=>(s.g t).cH n,m:={ s.m with β:=λi=>(s.m.β i).cH n,n:=n } }
@[simp]theorem aA.ade(t:Nat):(s.trim n).g t=(s.g t).cH n:=rfl
@[simp]theorem aA.AY(i:Nat):(s.trim n).m.β i=(s.m.β i).cH n:=rfl
@[simp]theorem aA.adf:(s.trim n).m.n=n:=rfl
@[simp]theorem aA.akj:(s.trim n).m.an=s.m.an:=rfl
@[simp]theorem aA.akk:(s.trim n).a0=s.a0:=rfl
@[simp]theorem aA.Z2:(s.trim n).bb=s.bb:=rfl
theorem N8(h:cW φ w N s a)(aI:n<=s.m.n):cW (φ.cut n s.m.an) w N (s.trim n) a:=by
 have au:∀i b,φ.arr i=some b->i<s.m.an:=λi b bc=>(h.mem.arr i b bc).1;refine⟨λt=>aY.cH au _ _ (h.tmp t),h.size,H4 (m':=(s.trim n).m) h.mem rfl aI (λi _ h=>by grind [aA.AY,di.cH]) λi af _ ad=>?_⟩;cases ah:s.m.β i with
 |cells l=>
  rw[ah]at ad;simp only[aA.AY,ah,di.cH,m3];rw[←o3];exact bl.cH au l af ad
 |inv I=>
  rw[ah]at ad;simp only[aA.AY,ah,di.cH];obtain⟨l,U,ab,al,aJ⟩:=ad;refine⟨l,U,ab,al,?_⟩;have:=bl.cH (n:=n) au l af aJ;simp_all
 |hole=>rw[ah]at ad;trivial
theorem exists_least{p:Nat->Prop}(h:∃k,p k):∃k,p k/\∀j,p j->k<=j:=by
 obtain⟨k,aq⟩:=h;induction k using Nat.strongRecOn with
 |_ k az=>grind
theorem Z3{c:Code}{Q:eJ->aA->Prop}(I:aA->Prop)(μ:aA->Nat)(aT:I s)
  (round:∀s,I s->ff P c s λe s'=>match e with
   |.normal=>(I s'/\μ s'<μ s)\/((∀e∈s'.bb,e.clean)/\s'.a0.n<=s.m.n/\s'.a0.a<=s'.m.an/\s.m.n<=s'.m.n/\I (s'.trim s.m.n)/\μ (s'.trim s.m.n)<μ s)
   |.exit i=>Q (.exit i) s'
   |.ret=>Q .ret s'):ff P (.loop c) s Q:=by
 intro A φ w N n r a aV ao au aW hm;let R:aA->Act->World->Prop:=λs a w=>∃φ,cW φ w N s a/\cY A φ w s.bb/\Old A s/\Marks φ w A.c9 a.defers/\I s;have AZ:∀a w,∃k:Nat,(∃s,R s a w)->(∃s,R s a w/\μ s=k)/\∀s,R s a w->k<=μ s:=by
  intro a w;by_cases h:∃s,R s a w
  ·obtain⟨s,ao⟩:=h;obtain⟨k,⟨s',U,ab⟩,aq⟩:=exists_least (p:=λk=>∃s,R s a w/\μ s=k) ⟨μ s,s,ao,rfl⟩;exact⟨k,λ_=>⟨⟨s',U,ab⟩,λs h=>aq _ ⟨s,h,rfl⟩⟩⟩
  simp_all
 let M:Act->World->Nat:=λa w=>Classical.choose (AZ a w);have e3:∀a w,(∃s,R s a w)->(∃s,R s a w/\μ s=M a w)/\∀s,R s a w->M a w<=μ s:=λa w=>Classical.choose_spec (AZ a w);refine Z4 (λa w=>∃s,R s a w) M ⟨s,φ,ao,au,aW,hm,aT⟩ λa w cn=>?_;obtain⟨⟨s,⟨φ,U,ab,al,aJ,bm⟩,LH⟩,_⟩:=e3 a w cn;refine k8 (round s bm A φ w N n r a aV U ab al aJ) ?_;rintro e a' w' ⟨ex,s',bn,he,k1,k2,bP,kA,cX⟩;cases e<;>simp[eJ.of]at he<;>try (done)
 ·subst he;rcases cX with⟨iM,aU⟩|⟨bI,cS,et,gp,iM,aU⟩
  ·have ni:R s' a' w':=⟨bn,k1,k2,kA,bP,iM⟩;have:=(e3 a' w' ⟨s',ni⟩).2 s' ni;exact⟨⟨s',ni⟩,by omega⟩
  ·have ni:R (s'.trim s.m.n) a' w':=by
    have ah:Step A.gg A.c9 (bn.cut s.m.n s'.m.an) w' s'.bb:=DT bI k2.st (λi b hb=>Nat.lt_of_lt_of_le (kA.2.1 i b hb) cS) (λi b hb=>Nat.lt_of_lt_of_le (kA.1 i b hb) et);have wN:Rest bn w' (bn.cut s.m.n s'.m.an) w':=⟨Nat.le_refl _,λb _ ar _=>⟨rfl,λk=>ar (pZ k)⟩⟩;exact⟨bn.cut s.m.n s'.m.an,N8 k1 gp,⟨by simp_all,k2.a8.trans wN⟩,kA,bP.rest wN,iM⟩
   have:=(e3 a' w' ⟨_,ni⟩).2 _ ni;exact⟨⟨_,ni⟩,by omega⟩
 ·subst he;exact⟨.exit _,s',bn,rfl,k1,k2,bP,kA,cX⟩
 ·subst he;exact⟨.ret,s',bn,rfl,k1,k2,bP,kA,cX⟩
end
def uQ(P:Program)(s:aA):ResultVar->Option aa
 |.tmp t=>some (s.g t)
 |.cell x t=>h0 P s.m t (s.g x)
def q9(P:Program)(s:aA):List ResultVar->Option (List aa)
 |[]=>some []
 |v::af=>match uQ P s v,q9 P s af with
  |some p,some a7=>some (p::a7)
  |_,_=>none
def pt(P:Program)(s:aA)(l:List ResultVar):Option aa:=match q9 P s l with
 |some [p]=>some p
 |some a7=>some (.bD a7)
 |none=>none
def wE(ys:List eN)(args:List aa)(m:Mem):aA:=⟨λt=>(args[t]?).getD .undef,m,⟨m.an,m.n,ys⟩,[]⟩
abbrev entry(args:List aa)(m:Mem):aA:=wE [] args m
section
variable{P:Program}{φ:bo}{w:World}
def A0(tmps:Array Value):ResultVar->Sem Value
 |.tmp t=>pure (tmps.getD t undef)
 |.cell x t=>do loadVar t (←asAddr (tmps.getD x undef))
theorem YB{N:Nat}{s:aA}{a:Act}(ao:cW φ w N s a){x:ResultVar}{p:aa}(h:uQ P s x=some p):∃v,(A0 a.tmps x).run P w=.ok v w/\aY φ w p v:=by
 cases x with
 |tmp t=>
  simp[uQ]at h;subst h;exact⟨_,by rfl,ao.tmp t⟩
 |cell x t=>
  simp only[uQ]at h;obtain⟨v,ak1,ae⟩:=PY (P:=P) h ao.mem (ao.tmp x);have zc:∃cs,nW s.m (s.g x)=some cs:=by grind [h0]
  obtain⟨cs,zc⟩:=zc;obtain⟨b,off,e,_⟩:=Hv zc ao.mem (ao.tmp x);grind [A0,Instr.loadAt,Instr.sureAddr,asAddr]
theorem WH{N:Nat}{s:aA}{a:Act}(ao:cW φ w N s a){fn:Func}{pv:aa}(h:pt P s fn.results.toList=some pv):∃v,(results fn a.tmps).run P w=.ok v w/\aY φ w pv v:=by
 have ak:∀(l:List ResultVar)(a7:List aa),q9 P s l=some a7->∃af:List Value,(l.mapM (A0 a.tmps)).run P w=.ok af w/\bl φ w a7 af:=by
  intro l;induction l with
  |nil=>intro a7 h;injection h with h;subst h;exact⟨[],by simp,rfl⟩
  |cons x l az=>
   intro a7 h;simp only[q9]at h;split at h
   ·rename_i p iv U ab;injection h with h;subst h;obtain⟨af,ad,ai⟩:=az iv ab;obtain⟨v,al,aJ⟩:=YB ao U;exact⟨v::af,by simp_all,v,af,rfl,aJ,ai⟩
   ·cases h
 have hm:∀l a7,fn.results.toList=l->q9 P s l=some a7->∃af:List Value,(fn.results.mapM (A0 a.tmps)).run P w=.ok af.toArray w/\bl φ w a7 af:=by
  intro l a7 e h;obtain⟨af,U,ab⟩:=ak l a7 h;refine⟨af,?_,ab⟩;rw[Array.mapM_eq_mapM_toList,e,map_eq_pure_bind,Sem.run_bind,U];simp
 have zw:results fn a.tmps=(do let af ←fn.results.mapM (A0 a.tmps);pure (if h:af.size=1 then af[0]else .tuple af)):=by rfl
 rw[zw,Sem.run_bind];unfold pt at h;split at h
 ·rename_i p ae;injection h with h;obtain⟨af,U,ab⟩:=hm _ _ rfl ae;obtain⟨v,cB,rfl,al,rfl⟩:=ab;simp_all
 ·rename_i a7 bU ae;injection h with h;subst h;obtain⟨af,U,ab⟩:=hm _ _ rfl ae;rw[U];refine⟨.tuple af.toArray,?_,af,rfl,ab⟩;have:af.length≠1:=by
   have:=mg ab
   match a7,bU with
   |[],_=>grind
   |[p],bU=>grind
   |_::_::_,_=>grind
  simp[this]
 ·cases h
end
end
end Go.Proofs.YtlminnpaeaganaaGreat
