/- Part of the proof of TopTwins. No condition. -/
import Derived.Test.YtjfejoadcdoobaaMTopTwinsAO
namespace Go.Proofs.Ytjfejoadcdoobaa
set_option maxRecDepth 100000
set_option linter.all false
section
open Go Go.RowKit
variable[Sp]
section
variable{X:Ctx}{F:Frm}{C:Orc->FuncId->List PV->Option PV}{n:Nat}{R:Out->Prop}{S:Sym}{ρ:List PV}{ids:Nat->Option Nat}{s:St}{K:Sym->M}{t:Tree}{o:Oper}{m0:Mem}{inl yl:Inl}{b:Nat}{key:Nat}{E:Env}{ops:Array Oper}{rid:Nat}
def LexOk(X:Ctx)(F:Frm)(C:Orc->FuncId->List PV->Option PV)(n:Nat)(R:Out->Prop)(K:Sym->M)(S:Sym)(ρ:List PV)(b:Nat)(m0:Mem)(s:St)(o:Oper):Prop:=lexOp X.P m0 (tabX X C) s o λs'=>StpN X F C n R K S ρ b m0 s'
def pureKind(o:Oper):Bool:=match o.op with
 |.alloc _ | .box _ _ | .store _ _ _=>false
 |.call c=>match c.callee with
  |.value _=>false
  |_=>true
 |_=>true
theorem near_put(hn:NearX F (some b) m0 s)(d:Option Tmp)(v:PV):NearX F (some b) m0 (s.put d v):=by
 simp only[NearX,St.put_m]at hn⊢;exact hn
theorem lex_of_pure(hk:pureKind o=true)(hn:NearX F (some b) m0 s)(h:PureOk X F C n R K S ρ s m0 o):LexOk X F C n R K S ρ b m0 s o:=by
 obtain⟨pv,h1,h2⟩:=h;unfold LexOk lexOp;unfold pureKind at hk;split at hk
 ·cases hk
 ·cases hk
 ·cases hk
 ·rename_i c hop;simp only[hop];split at hk
  ·cases hk
  ·rename_i hno;split
   ·rename_i f hf;exact absurd hf (hno f)
   ·exact⟨pv,h1,h2,near_put hn _ _⟩
 ·rename_i g1 g2 g3 g4;split
  ·rename_i hop;exact absurd hop (g1 _)
  ·rename_i hop;exact absurd hop (g2 _ _)
  ·rename_i hop;exact absurd hop (g3 _ _ _)
  ·rename_i hop;exact absurd hop (g4 _)
  ·exact⟨pv,h1,h2,near_put hn _ _⟩
theorem near_newBox(hn:NearX F (some b) m0 s)(d:Option Tmp)(l:List PV):NearX F (some b) m0 (s.newBox d l):=by
 obtain⟨h1,h2,h3⟩:=hn;refine⟨h1,by rw[St.newBox_m];simp;omega,λi hi=>?_⟩;rw[St.newBox_m];simp only[updB_other _ _ _ _ (by omega:i≠s.m.n)];exact h3 i hi
theorem splice_all{l vs:List PV}(h:l.length=vs.length):splice l 0 vs=vs:=by
 unfold splice;simp;rw[←h];simp
theorem lex_call_tail{c:Call}{f:Operand}{g:FuncId}{caps args:List PV}(hC:CSound X.P F.DI C)(ho:∀g r,findOr X.ownr g=some r->OwnSound X.P F.DI C g r.1)(hno:findOr X.ownr (fnG g)=none)(hop:o.op=.call c)(hcal:c.callee=.value f)(hf:s.ev f=.fn g caps)(hn:NearX F (some b) m0 s)
  (ha:∀m,Near m0 m->ArgL F.DI m args (fnA g (c.args.toList.map s.ev) caps)) {t':Tree} (hsome:∀ω,(C ω (fnG g) args).isSome) (hrun:∀ω v,C ω (fnG g) args=some v->Run X.P C n t' (ρ++[v]) R) (hr:Rel F S ρ ids s) (h:K (S.var.put o.dst (.e (.var S.nv)))=.ok t'):LexOk X F C n R K S ρ b m0 s o:=by
 unfold LexOk lexOp;simp only[hop,hcal,hf];obtain⟨v0,hv0⟩:=Option.isSome_iff_exists.1 (hsome orc0);refine⟨hC.fn _ _ _ _ hv0,callOk_C hC ho ha hsome _ (λr hr=>by rw[hno]at hr;cases hr),?_⟩;intro v an' hT;unfold tabX at hT;rw[hno]at hT;obtain⟨rfl,hp,ω,hv⟩:=hT;rw[argL_detok (ha m0 ⟨Nat.le_refl _,λ_ _=>rfl⟩)]at hv;have hs:({ s with m:={ s.m with an:=s.m.an } }:St)=s:=rfl;rw[hs];have hb:=hr.bind v false (by simp);obtain⟨g1,g2⟩:=var_ok hr v hp;exact⟨⟨_,_,ids,t',h,hb.put o.dst (by unfold RV;exact⟨g2.symm,g1⟩),hrun ω v hv,(Ext.bind S ρ v false).put _ _⟩,near_put hn _ _⟩
theorem lex_call_own{c:Call}{f:Operand}{g:FuncId}{caps args:List PV}{r:Option (Nat×Nat)×Nat×Bool}(hC:CSound X.P F.DI C)(ho:∀g r,findOr X.ownr g=some r->OwnSound X.P F.DI C g r.1)(hf1:findOr X.ownr (fnG g)=some r)(hop:o.op=.call c)(hcal:c.callee=.value f)(hf:s.ev f=.fn g caps)(hn:NearX F (some b) m0 s)
  (ha:∀m,Near m0 m->ArgL F.DI m args (fnA g (c.args.toList.map s.ev) caps)) {t':Tree} (hsome:∀ω,(C ω (fnG g) args).isSome) (hrun:∀ω v,C ω (fnG g) args=some v->Run X.P C n t' (ρ++[v]) R) (hr:Rel F S ρ ids s) (h:takeOwn r (.var S.nv) o.dst S.var K=.ok t'):LexOk X F C n R K S ρ b m0 s o:=by
 unfold LexOk lexOp;simp only[hop,hcal,hf];obtain⟨v0,hv0⟩:=Option.isSome_iff_exists.1 (hsome orc0);refine⟨hC.fn _ _ _ _ hv0,callOk_C hC ho ha hsome _ (λr' hr' ω p hp=>?_),?_⟩
 ·rw[hf1]at hr';injection hr' with hr';subst hr';exact takeOwn_shape (X:=X) h hr (hrun ω p hp) (hC.plain _ _ _ _ hp) _
 ·intro v an' hT;unfold tabX at hT;rw[hf1]at hT;obtain⟨p,ω,hv,hp,han,hov⟩:=hT;rw[argL_detok (ha m0 ⟨Nat.le_refl _,λ_ _=>rfl⟩)]at hv;obtain⟨S'',ρ'',ids'',t'',k1,k2,k3,k4⟩:=takeOwn_ok (X:=X) (m':={ s.m with an:=an' }) h hr (hrun ω p hv) hp hov rfl han;exact⟨⟨S'',ρ'',ids'',t'',k1,k2,k3,k4⟩,near_put (s:={ s with m:={ s.m with an:=an' } }) ⟨hn.1,hn.2.1,hn.2.2⟩ _ _⟩
theorem argL_plain{DI:List PV->Prop}{m:Mem}:∀{b:List PV},plainC b=true->ArgL DI m b b
 |[],_=>rfl
 |q::b,h=>by
  simp only[plainC,Bool.and_eq_true]at h;exact⟨q,b,rfl,.inl ⟨rfl,h.1.1⟩,argL_plain h.2⟩
theorem argL_append{DI:List PV->Prop}{m:Mem}:∀{a a' b b':List PV},ArgL DI m a a'->ArgL DI m b b'->ArgL DI m (a++b) (a'++b')
 |[],a',b,b',h,k=>by simp only[ArgL]at h;subst h;simpa using k
 |p::a,a',b,b',⟨q,l',e,h1,h2⟩,k=>by subst e;exact⟨q,l'++b',rfl,h1,argL_append h2 k⟩
theorem thaw_some{ks:List Nat}{K':Sym->M}(h:thaw (some b) key ks S K'=.ok t):K' S=.ok t:=by
 unfold thaw at h;split at h
 ·exact h
 ·simp only[Option.isSome_some,if_true]at h;cases h
theorem lex_callB{c:Call}{f:Operand}(hk:Known X F.DI C n inl yl)(hop:o.op=.call c)(hcal:c.callee=.value f)(h:compCallB X (some b) key o f c.args.toList S K=.ok t)(hr:Rel F S ρ ids s)(hn:NearX F (some b) m0 s)(hrun:Run X.P C n t ρ R):LexOk X F C n R K S ρ b m0 s o:=by
 unfold compCallB at h;have h:=thaw_some h;split at h
 ·rename_i g caps hf;split at h
  ·rename_i fn hfn;split at h
   ·cases h
   ·split at h
    ·cases h
    ·rename_i hown;split at h
     ·rename_i ps hps;obtain⟨t',ht,h⟩:=map_ok h;subst h;have hfv:=hr.ev f;rw[hf]at hfv;unfold RV at hfv;obtain⟨l',e,hl⟩:=hfv;obtain⟨h1,h2⟩:=hrun.call;exact lex_call_tail (args:=denL ρ ps) hk.c hk.own (by cases hh:findOr X.ownr (fnG g)with|none=>rfl|some r=>rw[hh]at hown;exact absurd rfl hown) hop hcal e hn (λm hm=>litArgs_ok hr hn hm hps (rva_fnA (g:=g) (rva_evs hr _) (rva_of_rvl hl))) h1 h2 hr ht
     ·cases h
  ·cases h
 ·cases h
theorem lex_call{c:Call}{f:Operand}(hk:Known X F.DI C n inl yl)(hop:o.op=.call c)(hcal:c.callee=.value f)(h:compCall X inl yl (some b) key o f c.args.toList S K=.ok t)(hr:Rel F S ρ ids s)(hn:NearX F (some b) m0 s)(hrun:Run X.P C n t ρ R):LexOk X F C n R K S ρ b m0 s o:=by
 unfold compCall at h;split at h
 ·rename_i g caps hf;split at h
  ·exact lex_callB hk hop hcal h hr hn hrun
  rename_i hB;have hB:g<fnB:=Classical.not_not.1 hB;split at h
  ·rename_i fn hfn;split at h
   ·cases h
   ·split at h
    ·simp only[Option.isSome_some,if_true]at h;cases h
    ·split at h
     ·simp only[Option.isSome_some,if_true]at h;cases h
     split at h
     ·simp only[Option.isSome_some,if_true]at h;cases h
     split at h
     ·rename_i hc;simp at hc
     ·have h:=thaw_some h;split at h
      ·rename_i g' caps' hf';split at h
       ·rename_i hgg;subst hgg;split at h
        ·rename_i ps hps;obtain⟨t',ht,h⟩:=map_ok h;have hfv:=hr.ev f;rw[hf']at hfv;unfold RV at hfv;obtain⟨l',e,hl⟩:=hfv;subst h;obtain⟨h1,h2⟩:=hrun.call;split at ht
         ·rename_i r hfind;split at ht
          ·exact lex_call_own (args:=denL ρ ps) hk.c hk.own (by rw[fnG_lt hB];exact hfind) hop hcal e hn (λm hm=>by rw[fnA_lt hB];exact litArgs_ok hr hn hm hps (rva_append (rva_evs hr _) (rva_of_rvl hl))) (by rw[fnG_lt hB];exact h1) (by rw[fnG_lt hB];exact h2) hr ht
          ·split at ht
           ·cases ht
           ·rename_i hx;simp at hx
         ·rename_i hfind;exact lex_call_tail (args:=denL ρ ps) hk.c hk.own (by rw[fnG_lt hB];exact hfind) hop hcal e hn (λm hm=>by rw[fnA_lt hB];exact litArgs_ok hr hn hm hps (rva_append (rva_evs hr _) (rva_of_rvl hl))) (by rw[fnG_lt hB];exact h1) (by rw[fnG_lt hB];exact h2) hr ht
        ·cases h
       ·cases h
      ·cases h
  ·cases h
 ·split at h
  ·cases h
  rename_i hemp;have hemp:X.ownr=[]:=by simpa using hemp
  have h:=thaw_some h;split at h
  ·rename_i x hx;split at h
   ·rename_i ps hps;obtain⟨t',ht,h⟩:=map_ok h;subst h;obtain⟨g,caps,e,h1,h2⟩:=hrun.callv;have hfv:=hr.ev f;rw[hx]at hfv;unfold RV at hfv;have e':s.ev f=.fn g caps:=by rw[hfv.1];exact e
    have hpl:(s.ev f).plain=true:=by rw[hfv.1];exact SE.ok_plain hfv.2
    rw[e']at hpl;have hcp:plainC caps=true:=by simpa only[PV.plain]using hpl
    exact lex_call_tail (args:=fnA g (denL ρ ps) caps) hk.c hk.own (by rw[hemp];rfl) hop hcal e' hn (λm hm=>argL_fnA argL_append (litArgs_ok hr hn hm hps (rva_evs hr _)) (argL_plain hcp)) h1 h2 hr ht
   ·cases h
  ·cases h
 ·simp only[Option.isSome_some,if_true]at h;cases h
 ·cases h
theorem lex_op(hF:F.P=X.P)(hk:Known X F.DI C n inl yl)(h:compOp X inl yl (some b) key o S K=.ok t)(hr:Rel F S ρ ids s)(hn:NearX F (some b) m0 s)(hrun:Run X.P C n t ρ R):LexOk X F C n R K S ρ b m0 s o:=by
 unfold compOp at h;split at h
 ·rename_i x hop;exact lex_of_pure (by simp[pureKind,hop]) hn (pure_put h hr hrun (by simp only[pureV,hop]) (hr.ev x))
 ·rename_i x hop;exact lex_of_pure (by simp[pureKind,hop]) hn (pure_put h hr hrun (by simp only[pureV,hop]) (hr.ev x))
 ·rename_i c x y hop;exact lex_of_pure (by simp[pureKind,hop]) hn (ok_pick hop h hr hrun)
 ·rename_i op ty x y ty' hop;split at h
  ·rename_i p q hp hq;exact lex_of_pure (by simp[pureKind,hop]) hn (ok_bin hop hp hq h hr hrun)
  ·cases h
 ·rename_i ty x hop;split at h
  ·rename_i b hp;obtain⟨e,_⟩:=hr.pe hp;exact lex_of_pure (by simp[pureKind,hop]) hn (pure_put h hr hrun (pv:=.bool !b) (by simp only[pureV,hop,e];rfl) (by unfold RV;exact⟨rfl,rfl⟩))
  ·rename_i p _ hp;exact lex_of_pure (by simp[pureKind,hop]) hn (ok_un hop hp h hr hrun)
  ·cases h
 ·rename_i op ty x _ hop;split at h
  ·rename_i p hp;exact lex_of_pure (by simp[pureKind,hop]) hn (ok_un hop hp h hr hrun)
  ·cases h
 ·rename_i a b x hop;split at h
  ·rename_i p hp;exact lex_of_pure (by simp[pureKind,hop]) hn (ok_conv hop hp h hr hrun)
  ·cases h
 ·rename_i x hop;exact lex_of_pure (by simp[pureKind,hop]) hn (ok_nil hop h hr hrun)
 ·rename_i x i hop;exact lex_of_pure (by simp[pureKind,hop]) hn (ok_ext hop h hr hrun)
 ·rename_i ty x f hop;exact lex_of_pure (by simp[pureKind,hop]) hn (ok_field hop h hr hrun)
 ·rename_i ty x f hop;exact lex_of_pure (by simp[pureKind,hop]) hn (ok_fieldV hop h hr hrun)
 ·rename_i ty x i hop;exact lex_of_pure (by simp[pureKind,hop]) hn (ok_indexAddr hop h hr hrun)
 ·rename_i ty x i hop;split at h
  ·rename_i p q hp hq;exact lex_of_pure (by simp[pureKind,hop]) hn (ok_index hop hp hq h hr hrun)
  ·cases h
 ·rename_i ty x hop;exact lex_of_pure (by simp[pureKind,hop]) hn (ok_load (lx:=some b) hop h hr hn hrun)
 ·rename_i ty x y hop;unfold compStore at h;split at h
  ·cases h
  ·rename_i hd;have hdst:o.dst=none:=by cases hh:o.dst<;>simp[hh]at hd⊢
   have hin:(X.P.info? ty).isSome:=by cases hh:X.P.info? ty<;>simp[hh]at hd⊢
   split at h
   ·rename_i i off hx;obtain⟨e1,e2,e3,e4,l,e5,e6,e8,e7⟩:=store_box' (lx:=some b) hx h hr hrun;obtain⟨rfl,hbi,hll⟩:=e8 b rfl;unfold LexOk lexOp;simp only[hop];refine⟨hdst,hin,e3,e4,F.n0+i,l,e1,by rw[hn.1];omega,by rw[hr.boxn];omega,e5,hll,?_⟩;rw[splice_all hll]at e7;refine⟨e7,hn.1,hn.2.1,λj hj=>?_⟩;have hj':j<F.n0+b:=by rw[←hn.1];exact hj
    simp only[St.setBox,updB_other _ _ _ _ (by omega:j≠F.n0+i)];exact hn.2.2 j hj
   ·simp only[Option.isSome_some,true_or,if_true]at h;cases h
   ·simp only[Option.isSome_some,if_true]at h;cases h
   ·injection h with h;subst h;exact(run_die hrun).elim
   ·cases h
 ·rename_i ty x hop;obtain⟨c,S1,ρ1,t1,h1,h2,h3,h4,h5,h6,h7⟩:=cellsK_ok h hr (hr.ev x) hrun;unfold LexOk lexOp;simp only[hop];refine⟨h7,⟨S1.newBox o.dst c,ρ1,ids,t1,h1,h2.newBox o.dst h6,h3,h4.trans ?_⟩,near_newBox hn _ _⟩;rw[newBox_eq];have hx:Ext S1 ρ1 (S1.addBox c) ρ1:=⟨List.prefix_refl _,rfl,rfl,rfl,rfl,rfl,by simp[Sym.addBox],rfl⟩;exact hx.put _ _
 ·rename_i ty hop;split at h
  ·rename_i z hz;unfold LexOk lexOp;simp only[hop];refine⟨z,hz,⟨S.newBox o.dst (cstJ z),ρ,ids,t,h,hr.newBox o.dst rvl_cstJ,hrun,?_⟩,near_newBox hn _ _⟩;rw[newBox_eq];have hx:Ext S ρ (S.addBox (cstJ z)) ρ:=⟨List.prefix_refl _,rfl,rfl,rfl,rfl,rfl,by simp[Sym.addBox],rfl⟩;exact hx.put _ _
  ·cases h
 ·rename_i ty parts hop;exact lex_of_pure (by simp[pureKind,hop]) hn (ok_build hop h hr hrun)
 ·rename_i ty len parts hop;exact lex_of_pure (by simp[pureKind,hop]) hn (lex_buildSlice hop h hr hrun)
 ·rename_i ty l c hop;simp only[compMake,Option.isSome_some,if_true]at h;cases h
 ·rename_i ty x lo hi hop;unfold compSlice at h;have h:=thaw_some h;split at h
  ·rename_i p a b hp ha hb;exact lex_of_pure (by simp[pureKind,hop]) hn (ok_slice hop hp ha hb h hr hrun)
  ·cases h
 ·rename_i f first caps hop
  split at h
  ·rename_i hc;exact lex_of_pure (by simp[pureKind,hop]) hn (ok_makeFunc hop hc.1 hc.2.1 h hc.2.2 hr hrun)
  ·rename_i hn';split at h
   ·rename_i hc;exact lex_of_pure (by simp[pureKind,hop]) hn (ok_makeFuncB hop (λe=>hn' ⟨e.1,by rw[e.2];rfl,by rw[Array.eq_empty_of_size_eq_zero hc.1];rfl⟩) hc.1 h hc.2 hr hrun)
   ·cases h
 ·rename_i c hop;split at h
  ·rename_i f hcal;exact lex_call hk hop hcal h hr hn hrun
  ·rename_i hcal;split at h
   ·rename_i ty x ht hx;exact lex_of_pure (by simp[pureKind,hop,hcal]) hn (ok_len hop hcal ht hx h hr hrun)
   ·cases h
  ·rename_i hcal;split at h
   ·rename_i l hl;exact lex_of_pure (by simp[pureKind,hop,hcal]) hn (ok_min hop hcal hl h hr hrun)
   ·cases h
  ·rename_i hcal;split at h
   ·rename_i l hl;exact lex_of_pure (by simp[pureKind,hop,hcal]) hn (ok_max hop hcal hl h hr hrun)
   ·cases h
  ·rename_i hcal;split at h
   ·split at h
    ·simp only[compAppend,Option.isSome_some,if_true]at h;cases h
    ·cases h
   ·cases h
  ·exact(soft_ok h hrun).elim
 ·simp[compMakeMap,die]at h
 ·split at h
  ·simp[compTabSet,die]at h
  ·simp[compMapUpdate,die]at h
 ·split at h
  ·simp[compTabSet,die]at h
  ·cases h
 ·rename_i ty m k ok hop;exact lex_of_pure (by simp[pureKind,hop]) hn (ok_lookup hop h hr hrun)
 ·simp[compRangeM,die]at h
 ·split at h
  ·simp[compNextS,die]at h
  ·simp[compNext,die]at h
 ·simp[compEntry,die]at h
 ·simp only[pure,Except.pure,Except.ok.injEq]at h;subst h;obtain⟨o,ho,_⟩:=hrun orc0;simp[eval]at ho
 ·simp only[pure,Except.pure,Except.ok.injEq]at h;subst h;obtain⟨o,ho,_⟩:=hrun orc0;simp[eval]at ho
 ·exact(soft_ok h hrun).elim
theorem stpN_mono{S1:Sym}{ρ1:List PV}{s':St}(hx:Ext S ρ S1 ρ1)(h:StpN X F C n R K S1 ρ1 b m0 s'):StpN X F C n R K S ρ b m0 s':=⟨stp_mono hx h.1,h.2⟩
theorem lex_ops(hF:F.P=X.P)(hk:Known X F.DI C n inl yl):∀(l:List Oper)(i:Nat){S:Sym}{ρ:List PV}{ids:Nat->Option Nat}{s:St}{t:Tree},compOps X inl yl (some b) ops rid l i S K=.ok t->Rel F S ρ ids s->NearX F (some b) m0 s->Run X.P C n t ρ R ->
  lexW X.P m0 (tabX X C) ops l s λs'=>StpN X F C n R K S ρ b m0 s'
 |[],i,S,ρ,ids,s,t,h,hr,hn,hrun=>by
  simp only[compOps]at h;exact⟨⟨S,ρ,ids,t,h,hr,hrun,Ext.refl S ρ⟩,hn⟩
 |o::l,i,S,ρ,ids,s,t,h,hr,hn,hrun=>by
  have run:∀{S:Sym}{t:Tree},compOp X inl yl (some b) (rid*1000+i) o S (λS=>compOps X inl yl (some b) ops rid l (i+1) S K)=.ok t->Rel F S ρ ids s->Run X.P C n t ρ R ->
    lexOp X.P m0 (tabX X C) s o λs'=>lexW X.P m0 (tabX X C) ops l s' λs'=>StpN X F C n R K S ρ b m0 s':=λ{S t} h hr hrun=>
   lexOp_imp (λs' hs=>by
    obtain⟨⟨S',ρ',ids',t',h1,h2,h3,h4⟩,h5⟩:=hs;exact lexW_imp (λs'' h=>stpN_mono h4 h) l s' (lex_ops hF hk l (i+1) h1 h2 h5 h3)) (lex_op hF hk h hr hn hrun)
  have skip:∀{S:Sym}{t:Tree},compOps X inl yl (some b) ops rid l (i+1) (S.put o.dst .undef) K=.ok t->Rel F S ρ ids s->Run X.P C n t ρ R->lexW X.P m0 (tabX X C) ops l (s.put o.dst .undef) λs'=>StpN X F C n R K S ρ b m0 s':=λ{S t} h hr hrun=>
   lexW_imp (λs'' h=>stpN_mono ((Ext.refl S ρ).put _ _) h) l _ (lex_ops hF hk l (i+1) h (rel_skip hr o.dst) (near_put hn _ _) hrun)
  have back:∀{d:Nat}{v:SV}{s':St},StpN X F C n R K (S.put (some d) v) ρ b m0 s'->StpN X F C n R K S ρ b m0 s':=λh=>stpN_mono ((Ext.refl S ρ).put _ _) h;simp only[compOps]at h;simp only[lexW,guardW];split at h
  ·rename_i hg;simp only[hg];exact run h hr hrun
  ·rename_i j want hg;simp only[hg];split at h
   ·rename_i hd;simp only[hd];exact skip h hr hrun
   ·rename_i d hd;simp only[hd];have hsl:=hr.slot d;split at h
    ·rename_i hv;rw[hv]at hsl;simp only[RV]at hsl;simp only[hsl];exact skip h hr hrun
    ·rename_i b hv;rw[hv]at hsl;simp only[RV,SE.den]at hsl;simp only[hsl.1];split at h
     ·rename_i hb;rw[if_pos hb];exact run h hr hrun
     ·rename_i hb;rw[if_neg hb];exact skip h hr hrun
    ·rename_i x _ hv;rw[hv]at hsl;simp only[RV]at hsl;cases want with
     |true=>
      simp only[if_true]at h;obtain⟨a,b,ha,hb,rfl⟩:=iteM_ok h;rcases hrun.ite with⟨h1,h2⟩|⟨h1,h2⟩
      ·have e:s.g d=.bool true:=by rw[hsl.1];exact h1
       simp only[e,if_true];exact lexOp_imp (λs' h=>lexW_imp (λs'' h=>back h) l s' h) (run ha (rel_know hr e) h2)
      ·have e:s.g d=.bool false:=by rw[hsl.1];exact h1
       simp only[e,Bool.false_eq_true,if_false];exact lexW_imp (λs'' h=>back h) l _ (skip hb (rel_know hr e) h2)
     |false=>
      simp only[Bool.false_eq_true,if_false]at h;obtain⟨a,b,ha,hb,rfl⟩:=iteM_ok h;rcases hrun.ite with⟨h1,h2⟩|⟨h1,h2⟩
      ·have e:s.g d=.bool true:=by rw[hsl.1];exact h1
       simp only[e,Bool.true_eq_false,if_false];exact lexW_imp (λs'' h=>back h) l _ (skip ha (rel_know hr e) h2)
      ·have e:s.g d=.bool false:=by rw[hsl.1];exact h1
       simp only[e,if_true];exact lexOp_imp (λs' h=>lexW_imp (λs'' h=>back h) l s' h) (run hb (rel_know hr e) h2)
    ·cases h
where
 lexOp_imp {s:St} {o:Oper} {K K':St->Prop} (hk:∀s,K s->K' s) (h:lexOp X.P m0 (tabX X C) s o K):lexOp X.P m0 (tabX X C) s o K':=by
  unfold lexOp at *;split at h
  ·obtain⟨z,h1,h2⟩:=h;exact⟨z,h1,hk _ h2⟩
  ·exact⟨h.1,hk _ h.2⟩
  ·obtain⟨h1,h2,h3,h4,id,l,h5,h6,h7,h8,h9,h10⟩:=h;exact⟨h1,h2,h3,h4,id,l,h5,h6,h7,h8,h9,hk _ h10⟩
  ·split at h
   ·split at h
    ·exact⟨h.1,h.2.1,λv an' hT=>hk _ (h.2.2 v an' hT)⟩
    ·exact h.elim
   ·obtain⟨v,h1,h2⟩:=h;exact⟨v,h1,hk _ h2⟩
  ·obtain⟨v,h1,h2⟩:=h;exact⟨v,h1,hk _ h2⟩
 lexW_imp {K K':St->Prop} (hk:∀s,K s->K' s):∀(l:List Oper)(s:St),lexW X.P m0 (tabX X C) ops l s K->lexW X.P m0 (tabX X C) ops l s K'
  |[],s,h=>hk s h
  |o::l,s,h=>guard_imp h (lexOp_imp λs' h=>lexW_imp hk l s' h) (λh=>lexW_imp hk l _ h)
end
end
section
open Go Go.RowKit
variable[Sp]
theorem pvB_eq{a b:PV}(h:pvB a b=true):a=b:=by
 unfold pvB at h;split at h
 ·simp only[Bool.and_eq_true,decide_eq_true_eq]at h;rw[h.1,h.2]
 ·simp only[beq_iff_eq]at h;rw[h]
 ·rename_i x y;have h:=of_decide_eq_true h;cases x;cases y;simp only at h;rw[h]
 all_goals first|rfl|cases h
theorem SE.b_eq:∀{x y:SE},x.b y=true->x=y
 |.var i,y,h=>by cases y<;>simp[SE.b]at h;rw[h]
 |.proj x j,y,h=>by
  cases y<;>simp[SE.b]at h;rw[h.1,SE.b_eq h.2]
 |.cst v,y,h=>by
  cases y<;>simp[SE.b]at h;rw[pvB_eq h]
theorem BN.b_eq{x y:BN}(h:x.b y=true):x=y:=by cases x<;>cases y<;>simp[BN.b]at h<;>first|rfl|rw[SE.b_eq h]|rw[h]
mutual
theorem SV.b_eq:∀{x y:SV},x.b y=true->x=y
 |.e x,y,h=>by cases y<;>simp[SV.b]at h;rw[SE.b_eq h]
 |.undef,y,h=>by cases y<;>simp[SV.b]at h;rfl
 |.junk,y,h=>by cases y<;>simp[SV.b]at h
 |.ptr i o,y,h=>by cases y<;>simp[SV.b]at h;rw[h.1,h.2]
 |.hd i o z,y,h=>by cases y<;>simp[SV.b]at h;rw[h.1.1,h.1.2,h.2]
 |.pel b x fo,y,h=>by cases y<;>simp[SV.b]at h;rw[h.1.1,SE.b_eq h.1.2,h.2]
 |.dice,y,h=>by cases y<;>simp[SV.b]at h;rfl
 |.yld a,y,h=>by cases y<;>simp[SV.b]at h;rw[h]
 |.own k,y,h=>by cases y<;>simp[SV.b]at h;rw[h]
 |.eown k x fo,y,h=>by cases y<;>simp[SV.b]at h;rw[h.1.1,SE.b_eq h.1.2,h.2]
 |.erow x s fo,y,h=>by cases y<;>simp[SV.b]at h;rw[SE.b_eq h.1.1,h.1.2,h.2]
 |.sref l a,y,h=>by cases y<;>simp[SV.b]at h;rw[h.1,svLB_eq h.2]
 |.fn f l,y,h=>by cases y<;>simp[SV.b]at h;rw[h.1,svLB_eq h.2]
 |.agg l,y,h=>by cases y<;>simp[SV.b]at h;rw[svLB_eq h]
 |.tup l,y,h=>by cases y<;>simp[SV.b]at h;rw[svLB_eq h]
 |.lit a b l,y,h=>by cases y<;>simp[SV.b]at h;rw[h.1.1,h.1.2,svLB_eq h.2]
theorem svLB_eq:∀{l m:List SV},svLB l m=true->l=m
 |[],m,h=>by cases m<;>simp[svLB]at h;rfl
 |x::l,m,h=>by
  cases m with
  |nil=>simp[svLB]at h
  |cons y m=>
   simp[svLB]at h;rw[SV.b_eq h.1,svLB_eq h.2]
end
theorem arB_eq{a b:Option AR}(h:arB a b=true):a=b:=by
 cases a with
 |none=>cases b with
  |none=>rfl
  |some _=>simp[arB]at h
 |some a=>cases b with
  |none=>simp[arB]at h
  |some b=>
   simp only[arB,Bool.and_eq_true,decide_eq_true_eq]at h;cases a;cases b;simp only at h;rw[h.1.1,BN.b_eq h.1.2,SE.b_eq h.2]
mutual
theorem bd_cutb_id{n a k:Nat}(h:n<=k):∀q:PV,q.bd n a->q.cutb k=q
 |.int _ _,_ | .bool _,_ | .str _,_ | .undef,_ | .bad,_ | .nilp,_ | .nilfn,_ | .snil,_ | .dead _,_ | .yld _,_=>by simp only[PV.cutb]
 |.ptr i o,hb=>by
  simp only[PV.bd]at hb;simp only[PV.cutb];rw[if_pos (by omega)]
 |.hd i o z,hb=>by
  simp only[PV.bd]at hb;simp only[PV.cutb];rw[if_pos (by omega)]
 |.sl id _ _ _ cs,hb=>by
  have:bdL n a cs:=by cases id<;>simp only[PV.bd]at hb<;>first|exact hb|exact hb.2
  simp only[PV.cutb,bdL_cutb_id h cs this]
 |.eref id _ cs,hb=>by
  have:bdL n a cs:=by cases id<;>simp only[PV.bd]at hb<;>first|exact hb|exact hb.2
  simp only[PV.cutb,bdL_cutb_id h cs this]
 |.fn _ cs,hb=>by simp only[PV.cutb,bdL_cutb_id h cs (by simpa only[PV.bd]using hb)]
 |.agg cs,hb=>by simp only[PV.cutb,bdL_cutb_id h cs (by simpa only[PV.bd]using hb)]
 |.tup cs,hb=>by simp only[PV.cutb,bdL_cutb_id h cs (by simpa only[PV.bd]using hb)]
 |.mp _ _ _ _,hb=>by simp only[PV.cutb]
theorem bdL_cutb_id{n a k:Nat}(h:n<=k):∀c:List PV,bdL n a c->cutbL k c=c
 |[],_=>by simp only[cutbL]
 |p::ps,hb=>by
  simp only[bdL]at hb;simp only[cutbL,bd_cutb_id h p hb.1,bdL_cutb_id h ps hb.2]
end
theorem silent_trim(s:St){n:Nat}(hn:n<=s.m.n)(h0:s.a0.n<=n)(ha0:s.a0.a<=s.m.an)(he:∀e∈s.eff,e.clean):Silent s (s.trim n):=by
 refine⟨rfl,λφ w N a A hs ha hA=>⟨φ.cut n s.m.an,srel_trim hs hn,?_⟩⟩;have hc:=step_cut (n:=n) (an:=s.m.an) he ha.st (λi b hb=>Nat.lt_of_lt_of_le (hA.2.1 i b hb) h0) (λi b hb=>Nat.lt_of_lt_of_le (hA.1 i b hb) ha0);exact⟨by rw[St.trim_eff];exact hc,ha.re.trans ⟨Nat.le_refl _,λb _ ho _=>⟨rfl,λk=>ho (own_cut k)⟩⟩⟩
section
variable{F:Frm}{S S1 H:Sym}{ρ ρ1:List PV}{ids ids1:Nat->Option Nat}{s s1:St}{vs:List PV}{idsH:Nat->Option Nat}
structure Mv(F:Frm)(E1 E EH:Env)(H:Sym)(n1:Nat):Prop where
 p1:E1.ρ<+:E.ρ
 pH:E1.ρ<+:EH.ρ
 nb:E1.nb=EH.nb
 ar:EH.ar=H.ar
 arr:∀k cs a,k<n1->H.arr k=some a->(∃a',E.ar.getD k none=some a'/\a'.rel E k cs)->a.rel EH k cs/\EH.ids k=E.ids k/\(∀a',E.ar.getD k none=some a'->a'.sz=a.sz/\a'.born=a.born)
theorem rv_bad{E:Env}{v:SV}(h:RV F E v .bad):v=.junk:=by
 cases v with
 |junk=>rfl
 |e x=>
  unfold RV at h;have:=SE.ok_plain h.2;rw[←h.1]at this;simp[PV.plain]at this
 |own k=>
  unfold RV at h;obtain⟨a,cs,_,_,h⟩:=h;have:=ownV_one a.born (E.ids k) a.sz cs;rw[←h]at this;cases this
 |_=>
  unfold RV at h;first|(cases h;done)|(cases h.1;done)|(obtain⟨_,_,_,_,h,_⟩:=h;cases h;done)|(obtain⟨_,_,h⟩:=h;cases h;done)|(obtain⟨_,h,_⟩:=h;cases h;done)|(obtain⟨_,_,_,h⟩:=h;cases h;done)|(obtain⟨_,_,_,_,_,_,h⟩:=h;cases h;done)|(obtain⟨_,_,_,_,_,_,_,_,_,_,_,_,h⟩:=h;cases h;done)
theorem ownV_cutb{N:Nat}{b:BN}{id:Option Nat}{sz:Nat}{cs:List PV}(hp:plainC cs=true):(ownV b id sz cs).cutb N=ownV b id sz cs:=by
 unfold ownV;split
 ·split<;>simp only[PV.cutb,plainC_cutb _ cs hp]
 ·simp only[PV.cutb]
mutual
theorem Mv.rv{E1 E EH:Env}{n1:Nat}(m:Mv F E1 E EH H n1):∀{v:SV}{q q0:PV},v.tame H n1=true->RV F E1 v q0->RV F E v q->RV F EH v (q.cutb (F.n0+EH.nb))
 |.e x,q,q0,ht,h0,h=>by
  unfold RV at h0 h⊢;obtain⟨e1,_⟩:=SE.den_prefix m.p1 h0.2;obtain⟨e2,k2⟩:=SE.den_prefix m.pH h0.2;rw[plain_cutb _ q (by rw[h.1];exact SE.ok_plain h.2)];exact⟨by rw[h.1,e1,e2],k2⟩
 |.undef,q,q0,ht,h0,h=>by
  unfold RV at h⊢;rw[h];simp only[PV.cutb]
 |.junk,q,q0,ht,h0,h=>by simp only[RV]
 |.ptr i o,q,q0,ht,h0,h=>by
  unfold RV at h0 h⊢;have hi:i<EH.nb:=by rw[←m.nb];exact h0.2
  rw[h.1];simp only[PV.cutb];rw[if_pos (by omega)];exact⟨rfl,hi⟩
 |.hd i o z,q,q0,ht,h0,h=>by
  unfold RV at h0 h⊢;have hi:i<EH.nb:=by rw[←m.nb];exact h0.2
  rw[h.1];simp only[PV.cutb];rw[if_pos (by omega)];exact⟨rfl,hi⟩
 |.pel i x fo,q,q0,ht,h0,h=>by
  simp only[RV]at h0 h⊢;obtain⟨_,_,_,h0x,_,h0n⟩:=h0;obtain⟨kk,n,g1,g2,g3,_⟩:=h;have hi:i<EH.nb:=by rw[←m.nb];exact h0n
  obtain⟨e1,k1⟩:=SE.den_prefix m.p1 h0x;obtain⟨e2,k2⟩:=SE.den_prefix m.pH h0x;rw[g3];simp only[PV.cutb];rw[if_pos (by omega)];exact⟨kk,n,by rw[e2,←e1];exact g1,k2,rfl,hi⟩
 |.dice,q,q0,ht,h0,h=>by
  unfold RV at h⊢;rw[h.1];simp only[PV.cutb];rw[if_pos (by have:=h.2.1;omega)];exact⟨rfl,h.2⟩
 |.yld _,q,q0,ht,h0,h=>by
  simp only[RV]at h⊢;obtain⟨l,h1,rfl⟩:=h;exact⟨l,h1,by simp only[PV.cutb]⟩
 |.own k,q,q0,ht,h0,h=>by
  simp only[SV.tame,Bool.and_eq_true,decide_eq_true_eq]at ht;obtain⟨a,ha⟩:=Option.isSome_iff_exists.1 ht.2;unfold RV at h⊢;obtain⟨a',cs,h1,h2,h3⟩:=h;obtain⟨g1,g2,g3⟩:=m.arr k cs a ht.1 ha ⟨a',h1,h2⟩;refine⟨a,cs,by rw[m.ar];exact ha,g1,?_⟩;rw[h3,g2,(g3 a' h1).1,(g3 a' h1).2];unfold ownV;split
  ·split<;>simp only[PV.cutb,plainC_cutb _ cs h2.plain]
  ·simp only[PV.cutb]
 |.eown _ _ _,q,q0,ht,h0,h=>by simp[SV.tame]at ht
 |.erow x sz fo,q,q0,ht,h0,h=>by
  unfold RV at h0 h⊢;obtain⟨cs,off,tl,h1,h2,h3,h4⟩:=h;obtain⟨cs0,_,_,k1,k2,_,_⟩:=h0;obtain⟨e1,_⟩:=SE.den_prefix m.p1 k2;obtain⟨e2,k3⟩:=SE.den_prefix m.pH k2;have hp:plainC cs=true:=by have:=SE.ok_plain h2;rw[h1]at this;simpa only[PV.plain]using this
  refine⟨cs,off,tl.map (PV.cutb (F.n0+EH.nb)),by rw[e2,←e1];exact h1,k3,h3,?_⟩;rw[h4];simp only[PV.cutb,cutbL_eq,List.map_append];congr 2;rw[←cutbL_eq,plainC_cutb _ _ (plainC_drop hp fo)]
 |.sref l fo,q,q0,ht,h0,h=>by
  simp only[SV.tame]at ht;unfold RV at h0 h⊢;obtain⟨l',h1,h2,h3⟩:=h;obtain⟨l0,k1,_,_⟩:=h0;have:=Mv.rvl m ht k1 h1;rw[←cutbL_eq,plainC_cutb _ l' h2]at this;refine⟨l',this,h2,?_⟩;rw[h3];simp only[PV.cutb,plainC_cutb _ _ (plainC_drop h2 fo)]
 |.fn f l,q,q0,ht,h0,h=>by
  simp only[SV.tame]at ht;unfold RV at h0 h⊢;obtain⟨l',rfl,h2⟩:=h;obtain⟨l0,_,k2⟩:=h0;exact⟨_,by simp only[PV.cutb,cutbL_eq],Mv.rvl m ht k2 h2⟩
 |.agg l,q,q0,ht,h0,h=>by
  simp only[SV.tame]at ht;unfold RV at h0 h⊢;obtain⟨l',rfl,h2⟩:=h;obtain⟨l0,_,k2⟩:=h0;exact⟨_,by simp only[PV.cutb,cutbL_eq],Mv.rvl m ht k2 h2⟩
 |.tup l,q,q0,ht,h0,h=>by
  simp only[SV.tame]at ht;unfold RV at h0 h⊢;obtain⟨l',rfl,h2⟩:=h;obtain⟨l0,_,k2⟩:=h0;exact⟨_,by simp only[PV.cutb,cutbL_eq],Mv.rvt m ht k2 h2⟩
 |.lit sz len l,q,q0,ht,h0,h=>by
  simp only[SV.tame]at ht;unfold RV at h0 h⊢;obtain⟨l',rfl,h2,h3,h4⟩:=h;obtain⟨l0,_,k2,_,_⟩:=h0;have:=Mv.rvl m ht k2 h2;rw[←cutbL_eq,plainC_cutb _ l' h3]at this;exact⟨l',by simp only[PV.cutb,plainC_cutb _ l' h3],this,h3,h4⟩
theorem Mv.rvl{E1 E EH:Env}{n1:Nat}(m:Mv F E1 E EH H n1):∀{l:List SV}{l' l0:List PV},tameL H n1 l=true->RVL F E1 l l0->RVL F E l l'->RVL F EH l (l'.map (PV.cutb (F.n0+EH.nb)))
 |[],l',l0,ht,h0,h=>by simp only[RVL]at h;subst h;simp[RVL]
 |v::vs,l',l0,ht,h0,h=>by
  simp only[tameL,Bool.and_eq_true]at ht;simp only[RVL]at h0 h;obtain⟨q,r,rfl,h1,h2,h3⟩:=h;obtain⟨q0,r0,_,k1,_,k3⟩:=h0;simp only[List.map_cons,RVL];refine⟨_,_,rfl,Mv.rv m ht.1 k1 h1,?_,Mv.rvl m ht.2 k3 h3⟩;rcases h2 with h2|h2
  ·exact .inl h2
  ·have hrv:=Mv.rv m ht.1 k1 h1;cases q with
   |ptr i o=>
    simp only[PV.cutb]at hrv⊢;split at hrv
    ·rename_i hc;rw[if_pos hc];exact .inr rfl
    ·exact .inl (rv_bad hrv)
   |hd i o z=>
    simp only[PV.cutb]at hrv⊢;split at hrv
    ·rename_i hc;rw[if_pos hc];exact .inr rfl
    ·exact .inl (rv_bad hrv)
   |undef=>simp[PV.one]at h2
   |bad=>simp[PV.one]at h2
   |agg _=>simp[PV.one]at h2
   |tup _=>simp[PV.one]at h2
   |_=>exact .inr rfl
theorem Mv.rvt{E1 E EH:Env}{n1:Nat}(m:Mv F E1 E EH H n1):∀{l:List SV}{l' l0:List PV},tameL H n1 l=true->RVT F E1 l l0->RVT F E l l'->RVT F EH l (l'.map (PV.cutb (F.n0+EH.nb)))
 |[],l',l0,ht,h0,h=>by simp only[RVT]at h;subst h;simp[RVT]
 |v::vs,l',l0,ht,h0,h=>by
  simp only[tameL,Bool.and_eq_true]at ht;simp only[RVT]at h0 h;obtain⟨q,r,rfl,h1,h3⟩:=h;obtain⟨q0,r0,_,k1,k3⟩:=h0;simp only[List.map_cons,RVT];exact⟨_,_,rfl,Mv.rv m ht.1 k1 h1,Mv.rvt m ht.2 k3 h3⟩
end
end
end
section
open Go Go.RowKit
variable[Sp]
theorem denL_eq(ρ:List PV)(l:List PE):denL ρ l=l.map (PE.den ρ):=by
 induction l with
 |nil=>rfl
 |cons x l ih=>simp[denL,ih]
def PosV(S:Sym)(p:Pos)(pe:PE)(ko:Option Nat):Prop:=
 (p.own=none/\(S.at p).pe=some pe/\ko=none) \/
 (∃sz b k a,p.own=some (sz,b)/\S.at p=.own k/\S.arr k=some a/\a.sz=sz/\a.born=b/\b.still=true/\pe=.e a.c/\ko=some k) \/
 (∃sz,p.own=some (sz,.nil0)/\0<sz/\S.at p=.e (.cst .snil)/\pe=.e (.cst (.agg []))/\ko=none)
theorem valsOf_get{S:Sym}:∀{l:List Pos}{ps:List PE}{ks:List (Option Nat)},valsOf S l=some (ps,ks) ->
  ps.length=l.length/\ks.length=l.length/\(∀(j:Nat) p,l[j]?=some p->∃pe ko,ps[j]?=some pe/\ks[j]?=some ko/\PosV S p pe ko)/\(∀(i j:Nat) k,ks[i]?=some (some k)->ks[j]?=some (some k)->i=j)
 |[],ps,ks,h=>by
  simp only[valsOf,Option.some.injEq,Prod.mk.injEq]at h;obtain⟨rfl,rfl⟩:=h;simp
 |p::l,ps,ks,h=>by
  simp only[valsOf]at h;split at h
  ·cases h
  ·rename_i ps' ks' hv;obtain⟨h1,h2,h3,h4⟩:=valsOf_get hv;have mk:∀pe ko,PosV S p pe ko->(∀k:Nat,ko=some k->ks'.contains (some k)=false)->(pe::ps').length=(p::l).length/\(ko::ks').length=(p::l).length/\(∀(j:Nat) q,(p::l)[j]?=some q->∃pe' ko',(pe::ps')[j]?=some pe'/\(ko::ks')[j]?=some ko'/\PosV S q pe' ko')/\(∀(i j:Nat) k,(ko::ks')[i]?=some (some k)->(ko::ks')[j]?=some (some k)->i=j):=by
    intro pe ko hp hk;refine⟨by simp[h1],by simp[h2],λj q hj=>?_,λi j k hi hj=>?_⟩
    ·cases j with
     |zero=>simp at hj;subst hj;exact⟨pe,ko,rfl,rfl,hp⟩
     |succ j=>simpa using h3 j q (by simpa using hj)
    ·have no:∀j,ks'[j]?=some (some k)->ko≠some k:=λj hj e=>by
      have:=hk k e;have hm:=List.mem_of_getElem? hj;simp[List.contains_iff_mem,hm]at this
     cases i with
     |zero=>
      cases j with
      |zero=>rfl
      |succ j=>
       simp at hi hj;exact absurd hi (no j hj)
     |succ i=>
      cases j with
      |zero=>
       simp at hi hj;exact absurd hj (no i hi)
      |succ j=>exact congrArg (·+1) (h4 i j k (by simpa using hi) (by simpa using hj))
   split at h
   ·rename_i hown;split at h
    ·rename_i q hq;injection h with h;injection h with ha hb;subst ha;subst hb;exact mk _ _ (.inl ⟨hown,hq,rfl⟩) (λk e=>by cases e)
    ·cases h
   ·rename_i sz b k hown hat;split at h
    ·rename_i a harr;split at h
     ·rename_i hc;injection h with h;injection h with ha hb;subst ha;subst hb;exact mk _ _ (.inr (.inl ⟨sz,b,k,a,hown,hat,harr,hc.1,BN.b_eq hc.2.1,hc.2.2.1,rfl,rfl⟩)) (λk' e=>by injection e with e;subst e;exact hc.2.2.2)
     ·cases h
    ·cases h
   ·rename_i sz hown hat;split at h
    ·rename_i hsz;injection h with h;injection h with ha hb;subst ha;subst hb;exact mk _ _ (.inr (.inr ⟨sz,hown,hsz,hat,rfl,rfl⟩)) (λk e=>by cases e)
    ·cases h
   ·cases h
theorem valsA_get{S1 S:Sym}:∀{l:List Nat}{ps:List PE},valsA S1 S l=some ps->ps.length=l.length/\∀(j k:Nat),l[j]?=some k->∃h a,S1.arr k=some h/\S.arr k=some a/\ps[j]?=some (.e a.c)/\a.sz=h.sz/\a.born=h.born
 |[],ps,h=>by
  simp only[valsA,Option.some.injEq]at h;subst h;simp
 |k::l,ps,h=>by
  simp only[valsA]at h;split at h
  ·rename_i x a ps' h1 h2 h3;split at h
   ·rename_i hc;injection h with h;subst h;obtain⟨g1,g2⟩:=valsA_get h3;refine⟨by simp[g1],λj k' hj=>?_⟩;cases j with
    |zero=>simp at hj;subst hj;exact⟨x,a,h1,h2,rfl,hc.1,BN.b_eq hc.2⟩
    |succ j=>simpa using g2 j k' (by simpa using hj)
   ·cases h
  ·cases h
def PosH(H:Sym)(n v:Nat)(p:Pos):Prop:=
 (p.own=none/\H.at p=.e (.var v))\/∃sz b K,p.own=some (sz,b)/\H.at p=.own K/\n<=K/\H.arr K=some ⟨sz,b,.var v⟩
theorem posOk_get{H:Sym}{n:Nat}:∀{l:List Pos}{v:Nat},posOk H n v l=true->∀(j:Nat) p,l[j]?=some p->PosH H n (v+j) p
 |[],v,h,j,p,hj=>by simp at hj
 |q::l,v,h,j,p,hj=>by
  simp only[posOk,Bool.and_eq_true]at h;cases j with
  |zero=>
   simp at hj;subst hj;obtain⟨h,_⟩:=h;split at h
   ·rename_i ho;exact .inl ⟨ho,SV.b_eq h⟩
   ·rename_i sz b ho;split at h
    ·rename_i K hK;simp only[Bool.and_eq_true,decide_eq_true_eq]at h;obtain⟨h1,h2⟩:=h;split at h2
     ·rename_i a ha;simp only[Bool.and_eq_true,decide_eq_true_eq]at h2;refine .inr ⟨sz,b,K,ho,hK,h1,?_⟩;rw[ha];cases a;simp only at h2;rw[h2.1.1,BN.b_eq h2.1.2,SE.b_eq h2.2];rfl
     ·cases h2
    ·cases h
  |succ j=>
   have:=posOk_get h.2 j p (by simpa using hj);rwa[show v+1+j=v+(j+1)by omega]at this
theorem arrsOk_get{H S1:Sym}:∀{l:List Nat}{v:Nat},arrsOk H S1 v l=true->(∀(j k:Nat),l[j]?=some k->∃a,S1.arr k=some a/\H.arr k=some ⟨a.sz,a.born,.var (v+j)⟩)
 |[],v,h,j,k,hj=>by simp at hj
 |q::l,v,h,j,k,hj=>by
  simp only[arrsOk,Bool.and_eq_true]at h;obtain⟨⟨h1,h2⟩,h3⟩:=h;cases j with
  |zero=>
   simp at hj;subst hj;split at h1
   ·rename_i x a hx ha;simp only[Bool.and_eq_true,decide_eq_true_eq]at h1;refine⟨a,ha,?_⟩;rw[hx];cases x;simp only at h1;rw[h1.1.1,BN.b_eq h1.1.2,SE.b_eq h1.2];rfl
   ·cases h1
  |succ j=>
   have:=arrsOk_get h3 j k (by simpa using hj);rwa[show v+1+j=v+(j+1)by omega]at this
theorem freshK_get{H:Sym}:∀{l:List Pos}{j:Nat}{p:Pos},l[j]?=some p->(freshK H l)[j]?=some (match p.own,H.at p with|some _,.own K=>some K|_,_=>none)
 |[],j,p,h=>by simp at h
 |q::l,j,p,h=>by
  cases j with
  |zero=>simp at h;subst h;rfl
  |succ j=>simp only[freshK,List.getElem?_cons_succ];exact freshK_get (by simpa using h)
theorem freshK_length{H:Sym}(l:List Pos):(freshK H l).length=l.length:=by
 induction l with
 |nil=>rfl
 |cons p l ih=>simp[freshK,ih]
theorem distinctK_get:∀{l:List (Option Nat)},distinctK l=true->∀(i j:Nat) k,l[i]?=some (some k)->l[j]?=some (some k)->i=j
 |[],h,i,j,k,hi,hj=>by simp at hi
 |none::l,h,i,j,k,hi,hj=>by
  simp only[distinctK]at h;cases i with
  |zero=>simp at hi
  |succ i=>
   cases j with
   |zero=>simp at hj
   |succ j=>exact congrArg (·+1) (distinctK_get h i j k (by simpa using hi) (by simpa using hj))
 |some q::l,h,i,j,k,hi,hj=>by
  simp only[distinctK,Bool.and_eq_true,Bool.not_eq_true']at h;have no:∀j:Nat,l[j]?=some (some k)->q≠k:=λj hj e=>by
   have hm:=List.mem_of_getElem? hj;rw[←e]at hm;simp[List.contains_iff_mem,hm]at h
  cases i with
  |zero=>
   cases j with
   |zero=>rfl
   |succ j=>simp at hi hj;exact absurd hi (no j hj)
  |succ i=>
   cases j with
   |zero=>simp at hi hj;exact absurd hj (no i hi)
   |succ j=>exact congrArg (·+1) (distinctK_get h.2 i j k (by simpa using hi) (by simpa using hj))
def renId:List (Option Nat)->List (Option Nat)->Nat->Option Nat
 |K::Ks,k'::ks,k=>if K=some k then k' else renId Ks ks k
 |_,_,_=>none
theorem renId_get:∀{Ks ks:List (Option Nat)}{j k:Nat}{ko:Option Nat},(∀(i j:Nat) k,Ks[i]?=some (some k)->Ks[j]?=some (some k)->i=j)->Ks[j]?=some (some k)->ks[j]?=some ko->renId Ks ks k=ko
 |[],ks,j,k,ko,hd,h,h'=>by simp at h
 |K::Ks,[],j,k,ko,hd,h,h'=>by simp at h'
 |K::Ks,k'::ks,j,k,ko,hd,h,h'=>by
  simp only[renId];cases j with
  |zero=>simp at h h';rw[if_pos h];exact h'
  |succ j=>
   have hne:K≠some k:=λe=>by
    have:=hd 0 (j+1) k (by simp[e]) h;omega
   rw[if_neg hne];exact renId_get (λi j k hi hj=>by have:=hd (i+1) (j+1) k (by simpa using hi) (by simpa using hj);omega) (by simpa using h) (by simpa using h')
theorem renId_some:∀{Ks ks:List (Option Nat)}{k k':Nat},renId Ks ks k=some k'->∃j:Nat,Ks[j]?=some (some k)/\ks[j]?=some (some k')
 |[],ks,k,k',h=>by simp[renId]at h
 |K::Ks,[],k,k',h=>by simp[renId]at h
 |K::Ks,q::ks,k,k',h=>by
  simp only[renId]at h;split at h
  ·rename_i e;exact⟨0,by simp[e],by simp[h]⟩
  ·obtain⟨j,h1,h2⟩:=renId_some h;exact⟨j+1,by simpa using h1,by simpa using h2⟩
theorem isPos_get{l:List Pos}{box:Bool}{i j:Nat}(h:isPos l box i j=true):∃(n:Nat)(p:Pos),l[n]?=some p/\p.box=box/\p.i=i/\(box=true->p.j=j):=by
 unfold isPos at h;obtain⟨p,hp,hc⟩:=List.any_eq_true.1 h;simp only[Bool.and_eq_true,beq_iff_eq,decide_eq_true_eq,Bool.or_eq_true,Bool.not_eq_true']at hc;obtain⟨n,hn⟩:=List.mem_iff_getElem?.1 hp;exact⟨n,p,hn,hc.1.1,hc.1.2,λhb=>hc.2.resolve_left (by rw[hb];simp)⟩
theorem sameG_get{P:Nat->Bool}{H:Sym}{n:Nat}:∀{hs us vs:List SV}{t:Nat},sameG P H n t hs us vs=true->hs.length=us.length/\hs.length=vs.length/\∀(j:Nat) h u v,hs[j]?=some h->us[j]?=some u->vs[j]?=some v->P (t+j)=true\/svOk H n h u v=true
 |[],[],[],t,_=>by simp
 |h::hs,u::us,v::vs,t,hh=>by
  simp only[sameG,Bool.and_eq_true,Bool.or_eq_true]at hh;obtain⟨g1,g2,g3⟩:=sameG_get hh.2;refine⟨by simp[g1],by simp[g2],λj a b c ha hb hc=>?_⟩;cases j with
  |zero=>simp at ha hb hc;subst ha;subst hb;subst hc;exact hh.1
  |succ j=>
   have:=g3 j a b c (by simpa using ha) (by simpa using hb) (by simpa using hc);rwa[show t+1+j=t+(j+1)by omega]at this
 |[],[],_::_,t,h=>by simp[sameG]at h
 |[],_::_,_,t,h=>by simp[sameG]at h
 |_::_,[],_,t,h=>by simp[sameG]at h
 |_::_,_::_,[],t,h=>by simp[sameG]at h
theorem svOk_cases{H:Sym}{n:Nat}{h u v:SV}(hh:svOk H n h u v=true):h=.junk\/(h=u/\h=v/\h.tame H n=true):=by
 unfold svOk at hh;split at hh
 ·exact .inl rfl
 ·simp only[Bool.and_eq_true]at hh;exact .inr ⟨SV.b_eq hh.1.1,SV.b_eq hh.1.2,hh.2⟩
theorem getA_junk:∀{l:List (Nat×SV)}{t:Nat},(∀p∈l,p.1≠t)->getA l t=.junk
 |[],_,_=>rfl
 |(d,v)::l,t,h=>by
  simp only[getA];rw[if_neg λe=>h (d,v) (by simp) (Nat.eq_of_beq_eq_true e)];exact getA_junk λp hp=>h p (by simp[hp])
theorem sameF_get{P:Nat->Bool}{H S1 S:Sym}{n:Nat}:∀{l:List (Nat×SV)},sameF P H S1 S n l=true->∀p∈l,P p.1=true\/svOk H n (H.get p.1) (S1.get p.1) (S.get p.1)=true
 |[],_,p,hp=>by cases hp
 |q::l,h,p,hp=>by
  simp only[sameF,Bool.and_eq_true,Bool.or_eq_true]at h;rcases List.mem_cons.1 hp with rfl|hp
  ·exact h.1
  ·exact sameF_get h.2 p hp
def BoxOk(l:List Pos)(H:Sym)(n i:Nat):BX->BX->BX->Prop
 |.cells hs,.cells us,.cells vs=>sameG (isPos l true i) H n 0 hs us vs=true
 |.dice,.dice,.dice=>True
 |.gone,_,_=>True
 |_,_,_=>False
theorem sameB_get{l:List Pos}{H:Sym}{n:Nat}:∀{a b c:List BX}{i:Nat},sameB l H n i a b c=true->a.length=b.length/\a.length<=c.length/\∀(j:Nat) x y z,a[j]?=some x->b[j]?=some y->c[j]?=some z->BoxOk l H n (i+j) x y z
 |[],[],c,i,h=>by simp
 |[],_::_,c,i,h=>by simp[sameB]at h
 |x::a,[],c,i,h=>by cases x<;>simp[sameB]at h
 |x::a,y::b,[],i,h=>by cases x<;>cases y<;>simp[sameB]at h
 |x::a,y::b,z::c,i,h=>by
  have key:BoxOk l H n i x y z/\sameB l H n (i+1) a b c=true:=by
   cases x with
   |cells hs=>cases y with
    |cells us=>cases z with
     |cells vs=>simpa[sameB,BoxOk]using h
     |dice=>simp[sameB]at h
     |gone=>simp[sameB]at h
    |dice=>simp[sameB]at h
    |gone=>simp[sameB]at h
   |dice=>cases y with
    |dice=>cases z with
     |dice=>simpa[sameB,BoxOk]using h
     |cells _=>simp[sameB]at h
     |gone=>simp[sameB]at h
    |cells _=>simp[sameB]at h
    |gone=>simp[sameB]at h
   |gone=>exact⟨trivial,by simpa[sameB]using h⟩
  obtain⟨g1,g2,g3⟩:=sameB_get key.2;refine⟨by simp[g1],by simp;omega,λj p q r hp hq hr=>?_⟩;cases j with
  |zero=>simp at hp hq hr;subst hp;subst hq;subst hr;exact key.1
  |succ j=>
   have:=g3 j p q r (by simpa using hp) (by simpa using hq) (by simpa using hr);rwa[show i+1+j=i+(j+1)by omega]at this
end
section
open Go Go.RowKit
variable[Sp]
structure KeepH(S H:Sym):Prop where
 base:H.base=S.base
 bbase:H.bbase=S.bbase
 site:H.site=S.site
 kn:H.kn=S.kn
 ys:H.ys=S.ys
theorem KeepH.refl(S:Sym):KeepH S S:=⟨rfl,rfl,rfl,rfl,rfl⟩
theorem KeepH.trans{S S1 S2:Sym}(h:KeepH S S1)(k:KeepH S1 S2):KeepH S S2:=⟨k.base.trans h.base,k.bbase.trans h.bbase,k.site.trans h.site,k.kn.trans h.kn,k.ys.trans h.ys⟩
theorem keepH_lose:∀(l:List Nat)(S:Sym),KeepH S (S.lose l)
 |[],S=>KeepH.refl S
 |k::l,S=>by
  have h:KeepH S { S.mapV (SV.hitS k true)with ar:=S.ar.set k none }:=⟨rfl,rfl,rfl,rfl,rfl⟩;exact h.trans (keepH_lose l _)
theorem keepH_setAt(S:Sym)(p:Pos)(v:SV):KeepH S (S.setAt p v):=by
 unfold Sym.setAt;split
 ·split
  ·exact⟨rfl,rfl,rfl,rfl,rfl⟩
  ·exact KeepH.refl S
 ·exact⟨rfl,rfl,rfl,rfl,rfl⟩
theorem keepH_fresh:∀(l:List Pos)(S:Sym),KeepH S (S.fresh l)
 |[],S=>KeepH.refl S
 |p::l,S=>by
  simp only[Sym.fresh];split
  ·have h:=keepH_setAt S p (.e (.var S.nv));have h':KeepH S { S.setAt p (.e (.var S.nv))with nv:=S.nv+1 }:=⟨h.base,h.bbase,h.site,h.kn,h.ys⟩;exact h'.trans (keepH_fresh l _)
  ·rename_i sz b _;have h:=keepH_setAt S p (.own S.ar.length);have h':KeepH S { S.setAt p (.own S.ar.length)with ar:=S.ar++[some ⟨sz,b,.var S.nv⟩],nv:=S.nv+1 }:=⟨h.base,h.bbase,h.site,h.kn,h.ys⟩;exact h'.trans (keepH_fresh l _)
theorem keepH_freshA:∀(l:List Nat)(S:Sym),KeepH S (S.freshA l)
 |[],S=>KeepH.refl S
 |k::l,S=>by
  simp only[Sym.freshA];split
  ·rename_i a _;have h':KeepH S { S with ar:=S.ar.set k (some { a with c:=.var S.nv }),nv:=S.nv+1 }:=⟨rfl,rfl,rfl,rfl,rfl⟩;exact h'.trans (keepH_freshA l _)
  ·have h':KeepH S { S with nv:=S.nv+1 }:=⟨rfl,rfl,rfl,rfl,rfl⟩;exact h'.trans (keepH_freshA l _)
theorem keepH_headOf(sk:Skel)(S:Sym):KeepH S (headOf sk S):=by
 unfold headOf;have h1:=keepH_lose (rmOf S sk.pos) S;have h2:KeepH (S.lose (rmOf S sk.pos)) ((S.lose (rmOf S sk.pos)).keep sk.live):=⟨rfl,rfl,rfl,rfl,rfl⟩;have h3:=keepH_fresh sk.pos ((S.lose (rmOf S sk.pos)).keep sk.live);have h4:=keepH_freshA sk.arrs (Sym.fresh ((S.lose (rmOf S sk.pos)).keep sk.live) sk.pos);have h:=((h1.trans h2).trans h3).trans h4;exact⟨h.base,h.bbase,h.site,h.kn,h.ys⟩
structure FitH(sk:Skel)(S1 H S:Sym)(ps qs:List PE)(ks:List (Option Nat)):Prop where
 v:valsOf S sk.pos=some (ps,ks)
 a:valsA S1 S sk.arrs=some qs
 nv:H.nv=S1.nv+sk.pos.length+sk.arrs.length
 pos:posOk H S1.ar.length S1.nv sk.pos=true
 arrs:arrsOk H S1 (S1.nv+sk.pos.length) sk.arrs=true
 dist:distinctK (freshK H sk.pos)=true
 fresh:freshOk (freshK H sk.pos) S1.ar.length H.ar.length=true
 le:S1.ar.length<=H.ar.length
 g:sameF (λt=>isPos sk.pos false t 0) H S1 S S1.ar.length H.g=true
 b:sameB sk.pos H S1.ar.length 0 H.bx S1.bx S.bx=true
 sa:sameA ks sk.arrs H S1 S S1.ar.length=true
 al:∀k∈sk.arrs,k<S1.ar.length
 y:sameY H.ys S.ys=true
 e:sk.eff=true\/S.eff=false/\baseOk H S1 S ks sk.arrs=true
theorem fitVals_ok{sk:Skel}{S1 H S:Sym}{vs:List PE}(h:fitVals sk S1 H S=some vs):∃ps qs ks,vs=ps++qs/\FitH sk S1 H S ps qs ks:=by
 unfold fitVals at h;split at h
 ·rename_i ps ks hv;split at h
  ·rename_i qs ha;split at h
   ·rename_i hc;injection h with h;simp only[Bool.and_eq_true,decide_eq_true_eq,Bool.or_eq_true,Bool.not_eq_true',List.all_eq_true]at hc;obtain⟨⟨⟨⟨⟨⟨⟨⟨⟨⟨⟨h1,h2⟩,h3⟩,h4⟩,h5⟩,h6⟩,h7⟩,h8⟩,h9⟩,h10⟩,h11⟩,h12⟩:=hc;exact⟨ps,qs,ks,h.symm,hv,ha,h1,h2,h3,h4,h5,h6,h7,h8,h9,h10,h11,h12⟩
   ·cases h
  ·cases h
 ·cases h
section
variable{F:Frm}{S S1 H:Sym}{ρ ρ1:List PV}{ids ids1:Nat->Option Nat}{s s1:St}{ps qs:List PE}{ks:List (Option Nat)}{sk:Skel}{ρH:List PV}{idsH:Nat->Option Nat}
theorem pos_arr{p:Pos}{pe:PE}{ko:Option Nat}{v sz:Nat}{b:BN}{K:Nat}(h:Rel F S ρ ids s)(hown:p.own=some (sz,b))(hV:PosV S p pe ko)(hvar:ρH.getD v .bad=pe.den ρ)(hid:idsH K=ko.bind ids):
  ∃cs,AR.rel (H.env ρH idsH) K ⟨sz,b,.var v⟩ cs/\∀q,RV F (S.env ρ ids) (S.at p) q->q=ownV b (idsH K) sz cs/\plainC cs=true:=by
 rcases hV with⟨h1,_⟩|⟨sz',b',k,a,h1,h2,h3,h4,h5,h6,rfl,rfl⟩|⟨sz',h1,h2,h3,rfl,rfl⟩
 ·rw[hown]at h1;cases h1
 ·rw[hown]at h1;injection h1 with h1;injection h1 with e1 e2;subst e1;subst e2;obtain⟨cs,hr⟩:=h.arr k a h3;obtain⟨r1,r2,r3,r4,r5,r6⟩:=hr;have hρ:(S.env ρ ids).ρ=ρ:=rfl;rw[hρ]at r1 r2 r5;have hp:plainC cs=true:=by have:=SE.ok_plain r1;rw[r2]at this;simpa only[PV.plain]using this
  have hden:ρH.getD v .bad=.agg cs:=by rw[hvar];simp only[PE.den,r2]
  have hnil:∀ρ',isNil ρ' a.born cs=isNil ρ a.born cs:=λρ'=>by
   cases hb:a.born with
   |dyn x=>rw[←h5,hb]at h6;cases h6
   |map=>rw[←h5,hb]at h6;cases h6
   |it|tab _|sit=>rw[←h5,hb]at h6;cases h6
   |real=>rfl
   |nil0=>rfl
  refine⟨cs,⟨?_,hden,by rw[←h4];exact r3,by rw[←h4];exact r4,?_,λx e=>?_⟩,λq hq=>⟨?_,hp⟩⟩
  ·show(ρH.getD v .bad).plain=true;rw[hden];simpa only[PV.plain]using hp
  ·show isNil ρH b cs=some (idsH K).isNone;rw[hid,←h5,hnil ρH,r5];rfl
  ·simp only at e;rw[←h5]at h6;rw[h5,e]at h6;cases h6
  ·rw[h2]at hq;unfold RV at hq;obtain⟨a',cs',g1,g2,g3⟩:=hq;have:S.arr k=some a':=g1;rw[h3]at this;injection this with this;subst this;have:=AR.rel_of g2 ⟨r1,r2,r3,r4,r5,r6⟩;subst this;rw[g3,hid,←h4,←h5];rfl
 ·rw[hown]at h1;injection h1 with h1;injection h1 with e1 e2;subst e1;subst e2;refine⟨[],⟨?_,?_,h2,by simp,?_,λx e=>by cases e⟩,λq hq=>⟨?_,rfl⟩⟩
  ·show(ρH.getD v .bad).plain=true;rw[hvar];rfl
  ·show ρH.getD v .bad=.agg [];rw[hvar];rfl
  ·show isNil ρH .nil0 []=some (idsH K).isNone;rw[hid];rfl
  ·rw[h3]at hq;unfold RV at hq;rw[hid,hq.1];rfl
theorem pos_rv{p:Pos}{pe:PE}{ko:Option Nat}{v n1 N:Nat}(h:Rel F S ρ ids s)(hP:PosH H n1 v p)(hV:PosV S p pe ko)(hvar:ρH.getD v .bad=pe.den ρ)(hid:∀K,H.at p=.own K->idsH K=ko.bind ids){q:PV}(hq:RV F (S.env ρ ids) (S.at p) q):
  RV F (H.env ρH idsH) (H.at p) (q.cutb N)/\(q.one=true->(q.cutb N).one=true):=by
 rcases hP with⟨h1,h2⟩|⟨sz,b,K,h1,h2,h3,h4⟩
 ·rcases hV with⟨g1,g2,g3⟩|⟨sz',b',k,a,g1,_⟩|⟨sz',g1,_⟩
  ·obtain⟨e1,e2⟩:=pe_den g2 hq;have e1':q=pe.den ρ:=e1;rw[plain_cutb _ q e2,h2];refine⟨?_,λh=>h⟩;unfold RV;have hv:SE.den (H.env ρH idsH).ρ (.var v)=q:=by show ρH.getD v .bad=q;rw[hvar,e1']
   exact⟨hv.symm,by show(ρH.getD v .bad).plain=true;rw[hvar,←e1'];exact e2⟩
  ·rw[h1]at g1;cases g1
  ·rw[h1]at g1;cases g1
 ·obtain⟨cs,hr,hq'⟩:=pos_arr (H:=H) (K:=K) h h1 hV hvar (hid K h2);obtain⟨e,hp⟩:=hq' q hq;have hc:q.cutb N=q:=by
   rw[e];exact ownV_cutb hp
  rw[hc,h2];refine⟨?_,λh=>h⟩;unfold RV;exact⟨_,cs,h4,hr,e⟩
end
end
end Go.Proofs.Ytjfejoadcdoobaa
