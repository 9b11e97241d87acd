/- Part of the proof of TopTwins. No condition. -/
import Derived.Test.YtjfejoadcdoobaaMTopTwinsAP
import Derived.Test.YtjfejoadcdoobaaMTopTwinsAQ
namespace Go.Proofs.Ytjfejoadcdoobaa
set_option maxRecDepth 100000
set_option linter.all false
section
open Go Go.RowKit
variable[Sp]
section
variable{X:Ctx}{F:Frm}{C:Orc->FuncId->List PV->Option PV}{n:Nat}{R:Out->Prop}{S:Sym}{ρ:List PV}{ids:Nat->Option Nat}{s:St}{K:Sym->M}{t:Tree}{o:Oper}{inl yl:Inl}{key:Nat}
theorem solidS_ok(hr:Rel F S ρ ids s){v:SV}{q:PV}(h:v.solidS=true)(hv:RV F (S.env ρ ids) v q):solidV q:=by
 cases v with
 |ptr i o=>unfold RV at hv;exact .inr (.inl ⟨_,_,hv.1⟩)
 |hd i z m=>unfold RV at hv;exact .inr (.inr ⟨_,_,_,hv.1⟩)
 |_=>
  simp only[SV.solidS]at h;obtain⟨p,hp⟩:=Option.isSome_iff_exists.1 h;exact .inl (pe_den hp hv).2
theorem fixB_ok{late:Bool}{pin:Nat}(hr:Rel F S ρ ids s)(h:fixB late pin o S=true)(v:PV)(hs:(match o.op with
  |.move _ | .assign _ | .load _ _=>true
  |_=>false)=true\/solidV v):quietOk (F.n0+pin) late s o v:=by
 unfold fixB at h;unfold quietOk;split
 ·trivial
 ·trivial
 ·rename_i ty x hop;simp only[hop]at h;split at h
  ·rename_i i off hx;have hxv:=hr.ev x;rw[hx]at hxv;unfold RV at hxv;refine⟨_,_,hxv.1,λe=>?_⟩;rw[e]at h;simp only[Bool.not_true,Bool.false_or]at h;rw[Nat.eq_of_beq_eq_true h]
  ·cases h
 ·rename_i h1 h2 h3;split at h
  ·rename_i hop;exact absurd hop (h1 _)
  ·rename_i hop;exact absurd hop (h2 _)
  ·rename_i hop;exact absurd hop (h3 _ _)
  ·refine⟨λx hx=>solidS_ok hr (List.all_eq_true.1 h x (by simpa using hx)) (hr.ev x),hs.resolve_left λe=>?_⟩;split at e
   ·rename_i hop;exact absurd hop (h1 _)
   ·rename_i hop;exact absurd hop (h2 _)
   ·rename_i hop;exact absurd hop (h3 _ _)
   ·cases e
theorem sw_op(hF:F.P=X.P)(hk:Known X F.DI C n inl yl){late:Bool}{pin:Nat}(h:compSwOp X inl yl late pin key o S K=.ok t)(hr:Rel F S ρ ids s)(hrun:Run X.P C n t ρ R):stepQ X.P (F.n0+pin) late o s λs'=>Stp X F C n R K S ρ s':=by
 unfold compSwOp at h;cases ha:isApp o with
 |true=>
  rw[if_pos ha]at h;rw[stepQ_app ha];unfold appQ';split at h
  ·rename_i c hop;split at h
   ·rename_i ty ty' x y h1 h2;split at h
    ·rename_i hty;subst hty;simp only[hop,h1,h2];refine⟨trivial,?_⟩;split at h
     ·rename_i hown;unfold compAppend at h;simp only[Option.isSome_none,Bool.false_eq_true,if_false]at h;split at h
      ·rename_i e hu;split at h
       ·rename_i hcnd;rw[hown]at h;exact app_core hu hcnd.1 hcnd.2.1 hcnd.2.2 h hr hrun
       ·cases h
      ·cases h
     ·cases h
    ·cases h
   ·cases h
  ·cases h
 |false=>
  rw[if_neg (by simp[ha])]at h;cases hs:isStore o with
  |true=>
   rw[if_pos hs]at h;rw[stepQ_sto ha hs];unfold stoQ;split at h
   ·rename_i ty x y hop;split at h
    ·rename_i i off hx;split at h
     ·cases h
     ·rename_i hpin;unfold compStore at h;split at h
      ·cases h
      ·rename_i hd;have hdst:o.dst=none:=by cases hh:o.dst<;>simp[hh]at hd⊢
       have hin:(X.P.info? ty).isSome:=by cases hh:X.P.info? ty<;>simp[hh]at hd⊢
       rw[hx]at h;obtain⟨e1,e2,e3,e4,l,e5,e6,_,e7⟩:=store_box' (lx:=none) hx h hr hrun;simp only[hop,e1];refine⟨hdst,⟨_,_,rfl,λe he=>hpin ?_⟩,?_⟩
       ·rw[e];have:i=pin:=by omega
        subst this;simp
       ·simp only[aStore];exact⟨by rw[hr.boxn];omega,hin,e3,e4,l,e5,e6,e7⟩
    ·cases h
   ·cases h
  |false=>
   rw[if_neg (by simp[hs])]at h;rw[stepQ_qui ha hs];split at h
   ·rename_i hc;split at h
    ·rename_i hfix;have hpk:pureKind o=true:=by
      unfold calmB at hc;unfold pureKind;split at hc<;>first|(rename_i hop;rw[hop];done)|(rename_i hop;simp only[hop];done)|cases hc
     have hl:=lex_op (m0:=s.m) hF hk h hr (⟨hr.boxn,Nat.le_refl _,λ_ _=>rfl⟩:NearX F (some S.bx.length) s.m s) hrun;unfold LexOk lexOp at hl;have hl2:∃v,pureV X.P s.m s.ev o=some v/\StpN X F C n R (λS'=>if fixR o S' then K S' else die "x") S ρ S.bx.length s.m (s.put o.dst v):=by
      unfold pureKind at hpk;split at hpk
      ·cases hpk
      ·cases hpk
      ·cases hpk
      ·rename_i c hop;simp only[hop]at hl;split at hpk
       ·cases hpk
       ·rename_i hno;split at hl
        ·rename_i f hf;exact absurd hf (hno f)
        ·exact hl
      ·rename_i g1 g2 g3 g4;split at hl
       ·rename_i hop;exact absurd hop (g1 _)
       ·rename_i hop;exact absurd hop (g2 _ _)
       ·rename_i hop;exact absurd hop (g3 _ _ _)
       ·rename_i hop;exact absurd hop (g4 _)
       ·exact hl
     obtain⟨v,hv,⟨S',ρ',ids',t',k1,k2,k3,k4⟩,_⟩:=hl2;dsimp only at k1;split at k1
     ·rename_i hfr;refine⟨hc,v,hv,fixB_ok hr hfix v ?_,S',ρ',ids',t',k1,k2,k3,k4⟩;unfold fixR at hfr;split at hfr
      ·rename_i hop;exact .inl (by simp only[hop])
      ·rename_i hop;exact .inl (by simp only[hop])
      ·rename_i hop;exact .inl (by simp only[hop])
      ·right;split at hfr
       ·rename_i d hd;have hsl:=k2.slot d;rw[hd]at hsl;simp only[St.put_g,if_true]at hsl;exact solidS_ok k2 hfr hsl
       ·cases hfr
     ·cases k1
    ·split at h
     ·split at h<;>cases h
     ·split at h<;>cases h
   ·cases h
theorem sw_ops(hF:F.P=X.P)(hk:Known X F.DI C n inl yl){lts:List Bool}{pin rid:Nat}:∀(l:List Oper)(i:Nat){S:Sym}{ρ:List PV}{ids:Nat->Option Nat}{s:St}{t:Tree},compSw X inl yl lts pin rid l i S K=.ok t->Rel F S ρ ids s->Run X.P C n t ρ R ->
  seqQ X.P (F.n0+pin) (λi=>lts.getD i false) (restQ #[] l i) s λs'=>Stp X F C n R K S ρ s'
 |[],i,S,ρ,ids,s,t,h,hr,hrun=>⟨S,ρ,ids,t,h,hr,hrun,Ext.refl S ρ⟩
 |o::l,i,S,ρ,ids,s,t,h,hr,hrun=>by
  have e:restQ #[] (o::l) i=(i,o)::restQ #[] l (i+1):=by simp[restQ]
  rw[e];unfold compSw at h;refine stepQ_mono (λs' h'=>?_) (sw_op hF hk h hr hrun);obtain⟨S',ρ',ids',t',k1,k2,k3,k4⟩:=h';exact seqQ_mono (λs'' h=>stp_mono k4 h) _ (sw_ops hF hk l (i+1) k1 k2 k3)
theorem restQ_false(m:Nat):∀(R:List Oper)(i:Nat),restQ (Array.replicate m false) R i=restQ #[] R i
 |[],_=>rfl
 |o::R,i=>by
  have e:(Array.replicate m false).getD i false=false:=by
   simp only[Array.getD_eq_getD_getElem?,Array.getElem?_replicate];split<;>rfl
  simp only[restQ,e,restQ_false m R (i+1)];simp
theorem sw_any(hF:F.P=X.P)(hk:Known X F.DI C n inl yl){lts:List Bool}{pin rid:Nat}{ops:Array Oper}(ho:orderB ops (λi=>lts.getD i false)=true)(h:compSw X inl yl lts pin rid ops.toList 0 S K=.ok t)(hr:Rel F S ρ ids s)(hrun:Run X.P C n t ρ R):
  anyW X.P ops ops.size (Array.replicate ops.size false) s λs'=>Stp X F C n R K S ρ s':=by
 obtain⟨M,hp⟩:=ordP_of ho;refine any_of_seq hp ops.size _ (by simp) (by simp[left]) (λi o hi hL=>?_) (by rw[restQ_false];exact sw_ops hF hk _ 0 h hr hrun);exfalso;unfold Lst at hL;simp only[Array.getD_eq_getD_getElem?,Array.getElem?_replicate]at hL;split at hL<;>simp at hL
end
end
section
open Go Go.RowKit
variable[Sp]
section
variable{X:Ctx}{W:Hints}{F:Frm}{C:Orc->FuncId->List PV->Option PV}{n:Nat}{inl yl:Inl}{f:FuncId}
theorem rel_lv{S:Sym}{ρ:List PV}{ids:Nat->Option Nat}{s:St}(h:Rel F S ρ ids s)(l:Nat):Rel F { S with lv:=l } ρ ids s:=
 ⟨h.len,h.kn,h.slot,h.boxn,h.old,h.box,h.idlt,h.idinj,h.arr,h.a0,h.ent,h.efc,h.eff,h.new,h.keep,h.bbase,h.ba,h.bb,h.an,h.obd,h.rc⟩
theorem ext_lv{S S':Sym}{ρ ρ':List PV}{l:Nat}(h:Ext { S with lv:=l } ρ S' ρ'):Ext S ρ S' ρ':=⟨h.pre,h.base,h.bbase,h.site,h.lv,h.ys,h.bx,h.g⟩
theorem fitK_ok{sk:Skel}{S1 S:Sym}{ρ1 ρ:List PV}{ids1 ids:Nat->Option Nat}{s1 s:St}{L:Nat}{wh:String}{t:Tree}{J:List PV->Prop}{R:Out->Prop}(h1:Rel F S1 ρ1 ids1 s1)(hr:Rel F S ρ ids s)(hx:Ext S1 ρ1 S ρ)
  (h:fitK sk S1 (headOf sk S1) S L wh=.ok t) (hrun:Run X.P C n t ρ (atL L J R)):
  ∃s2 vs idsH,Silent s s2/\Rel F (headOf sk S1) (ρ1++vs) idsH s2/\Ext S1 ρ1 (headOf sk S1) (ρ1++vs)/\J vs:=by
 unfold fitK at h;obtain⟨s2,p1,p2,S2,ρ2,ids2,t2,f1,f2,f3,f4⟩:=frzAll_ok (X:=X) h hr hrun;simp only[]at f1;split at f1
 ·rename_i vs hvs;injection f1 with f1;subst f1;obtain⟨ps,qs,ks,rfl,hf⟩:=fitVals_ok hvs;obtain⟨g1,g2,g3⟩:=fit_ok h1 f2 (hx.trans f4) (keepH_headOf sk S1) rfl hf;refine⟨_,_,_,p1.trans g1,g2,g3,?_⟩;obtain⟨o,ho,hR⟩:=f3 orc0;simp only[eval,Option.some.injEq]at ho;subst ho;simpa only[atL,if_true]using hR
 ·cases f1
theorem join_ok{p:Nat}{c:Code}{run:Sym->(Ex->Sym->M)->M}
  (hc:∀{S:Sym}{ρ:List PV}{ids:Nat->Option Nat}{s:St}{t:Tree}{R:Out->Prop}{K:Ex->Sym->M},run S K=.ok t->Rel F S ρ ids s->Run X.P C n t ρ R->CodeSem X.P c s λe s'=>Stp X F C n R (K e) S ρ s')
  {S:Sym} {ρ:List PV} {ids:Nat->Option Nat} {s:St} {t:Tree} {R:Out->Prop} {K:Ex->Sym->M} (h:joinK W p S run K=.ok t) (hr:Rel F S ρ ids s) (hrun:Run X.P C n t ρ R):CodeSem X.P c s λe s'=>Stp X F C n R (K e) S ρ s':=by
 unfold joinK at h;split at h
 ·exact hc h hr hrun
 ·rename_i sk _;obtain⟨s1,q1,q2,S1,ρ1,ids1,t1,h1,h2,h3,h4⟩:=frzAll_ok (X:=X) h hr hrun;obtain⟨body,hb,h1⟩:=bind_ok h1;obtain⟨k,hk,h1⟩:=bind_ok h1;injection h1 with h1;subst h1;have:=hc hb (rel_lv h2 _) (run_join h3);refine codeSem_silent q1 (codeSem_post (codeSem_mono this λe s' hs=>?_));obtain⟨S',ρ',ids',t',e1,e2,e3,e4⟩:=hs;have low:∀e,lowK S1.lv (K e S')=.ok t'->∃s1,Silent s' s1/\Stp X F C n R (K e) S ρ s1:=λe e1=>by
   obtain⟨e5,e6⟩:=lowK_ok e1;exact⟨s',Silent.refl s',S',ρ',ids',t',e5,e2,run_low e6 e3,h4.trans (ext_lv e4)⟩
  cases e with
  |normal=>
   obtain⟨s2,vs,idsH,g1,g2,g3,g4⟩:=fitK_ok (X:=X) h2 e2 (ext_lv e4) e1 e3;exact⟨s2,g1,_,_,idsH,k,hk,g2,g4,h4.trans g3⟩
  |exit i=>exact low _ e1
  |ret=>exact low _ e1
theorem loop_ok{q:Nat}{x:Code}{sk:Skel}{S1:Sym}{ρ1:List PV}{ids1:Nat->Option Nat}{s1:St}{L:Nat}{body:Tree}{wh:String}{R:Out->Prop}{K:Ex->Sym->M}{vs0:List PV}{idsH:Nat->Option Nat}{s2:St}
  (hc:∀{S:Sym}{ρ:List PV}{ids:Nat->Option Nat}{s:St}{t:Tree}{R:Out->Prop}{K:Ex->Sym->M},comp X W inl yl f x q S K=.ok t->Rel F S ρ ids s->Run X.P C n t ρ R->CodeSem X.P x s λe s'=>Stp X F C n R (K e) S ρ s')
  (h:comp X W inl yl f x q (headOf sk S1) (λe S'=>match e with
     |.normal=>fitK sk S1 (headOf sk S1) S' L wh
     |e=>lowK L (K e S'))=.ok body)
  (h1:Rel F S1 ρ1 ids1 s1) (hx:Ext S1 ρ1 (headOf sk S1) (ρ1++vs0)) (h2:Rel F (headOf sk S1) (ρ1++vs0) idsH s2) (hI:Iter X.P C n L body ρ1 R n vs0):
  CodeSem X.P (.loop x) s2 λe s'=>Stp X F C n R (K e) S1 ρ1 s':=by
 let J:Nat->St->Prop:=λk s=>∃vs ids,Rel F (headOf sk S1) (ρ1++vs) ids s/\Iter X.P C n L body ρ1 R k vs;have hleast:∀s,∃k:Nat,(∃k,J k s)->J k s/\∀j,J j s->k<=j:=λs=>by
  by_cases h:∃k,J k s
  ·obtain⟨k,h1,h2⟩:=exists_least h;exact⟨k,λ_=>⟨h1,h2⟩⟩
  ·exact⟨0,λh'=>absurd h' h⟩
 let μ:St->Nat:=λs=>Classical.choose (hleast s);have hμ:∀s,(∃k,J k s)->J (μ s) s/\∀j,J j s->μ s<=j:=λs=>Classical.choose_spec (hleast s);refine sem_loopS (λs=>∃k,J k s) μ ⟨n,vs0,idsH,h2,hI⟩ λs hs=>?_;obtain⟨⟨vs,ids,g1,g2⟩,_⟩:=hμ s hs;have hxv:Ext S1 ρ1 (headOf sk S1) (ρ1++vs):=⟨List.prefix_append _ _,hx.base,hx.bbase,hx.site,hx.lv,hx.ys,hx.bx,hx.g⟩;cases hk:μ s with
 |zero=>rw[hk]at g2;exact(iter_zero g2).elim
 |succ k=>
  rw[hk]at g2;refine codeSem_mono (hc h g1 (iter_run g2)) λe s' hs'=>?_;obtain⟨S',ρ',ids',t',e1,e2,e3,e4⟩:=hs';have low:∀e,lowK L (K e S')=.ok t'->Stp X F C n R (K e) S1 ρ1 s':=λe e1=>by
   obtain⟨e5,e6⟩:=lowK_ok e1;exact⟨S',ρ',ids',t',e5,e2,run_low e6 e3,hxv.trans e4⟩
  cases e with
  |normal=>
   obtain⟨s3,vs',idsH',k1,k2,k3,k4⟩:=fitK_ok (X:=X) h1 e2 (hxv.trans e4) e1 e3;have hJ:J k s3:=⟨vs',idsH',k2,k4⟩;exact⟨s3,k1,⟨k,hJ⟩,by have:=(hμ s3 ⟨k,hJ⟩).2 k hJ;omega⟩
  |exit i=>exact low _ e1
  |ret=>exact low _ e1
mutual
theorem PE.b_eq:∀{x y:PE},x.b y=true->x=y
 |.e x,y,h=>by
  cases y with
  |e y=>
   simp only[PE.b,Bool.or_eq_true]at h;rcases h with h|h
   ·rw[SE.b_eq h]
   ·split at h
    ·simp only[Bool.and_eq_true,decide_eq_true_eq]at h;rw[h.1,h.2]
    ·cases h
  |_=>simp[PE.b]at h
 |.agg l,y,h=>by cases y<;>simp[PE.b]at h;rw[peLB_eq h]
 |.tup l,y,h=>by cases y<;>simp[PE.b]at h;rw[peLB_eq h]
 |.lit a b l,y,h=>by cases y<;>simp[PE.b]at h;rw[h.1.1,h.1.2,peLB_eq h.2]
 |.fn f l,y,h=>by cases y<;>simp[PE.b]at h;rw[h.1,peLB_eq h.2]
 |.ref l,y,h=>by cases y<;>simp[PE.b]at h;rw[peLB_eq h]
theorem peLB_eq:∀{l m:List PE},peLB l m=true->l=m
 |[],m,h=>by cases m<;>simp[peLB]at h;rfl
 |x::l,m,h=>by
  cases m with
  |nil=>simp[peLB]at h
  |cons y m=>
   simp only[peLB,Bool.and_eq_true]at h;rw[PE.b_eq h.1,peLB_eq h.2]
end
theorem pvLB_eq:∀{l m:List PV},pvLB l m=true->l=m
 |[],m,h=>by cases m<;>simp[pvLB]at h;rfl
 |x::l,m,h=>by
  cases m with
  |nil=>simp[pvLB]at h
  |cons y m=>
   simp only[pvLB,Bool.and_eq_true]at h;rw[pvB_eq h.1,pvLB_eq h.2]
theorem peOB_eq:∀{x y:Option PE},peOB x y=true->x=y
 |none,y,h=>by cases y<;>simp[peOB]at h;rfl
 |some x,y,h=>by cases y<;>simp[peOB]at h;rw[PE.b_eq h]
theorem Prim.b_eq{p q:Prim}(h:p.b q=true):p=q:=by
 cases p<;>cases q<;>simp only[Prim.b,Bool.and_eq_true,decide_eq_true_eq,Bool.false_eq_true]at h<;>simp only[Prim.bin.injEq,Prim.un.injEq,Prim.conv.injEq,Prim.ext.injEq,Prim.agg.injEq,Prim.one.injEq,Prim.row.injEq,Prim.idx.injEq,Prim.len.injEq,Prim.slice.injEq,Prim.mm.injEq,Prim.lst.injEq,Prim.mk.injEq,Prim.chk.injEq,Prim.get.injEq,Prim.put.injEq,Prim.push.injEq,Prim.lenc.injEq,Prim.frz.injEq,Prim.deref.injEq,Prim.cont.injEq,Prim.isnil.injEq,Prim.ints.injEq,Prim.ins.injEq,Prim.keys.injEq,Prim.lk.injEq,Prim.tl.injEq,Prim.srt.injEq,Prim.cpt.injEq,Prim.aoff.injEq,Prim.tset.injEq,Prim.tget.injEq,Prim.tgetf.injEq,Prim.siter.injEq,Prim.snx.injEq]
 case bin=>exact⟨h.1.1.1,h.1.1.2,PE.b_eq h.1.2,PE.b_eq h.2⟩
 case un=>exact⟨h.1,PE.b_eq h.2⟩
 case conv=>exact⟨h.1.1,h.1.2,PE.b_eq h.2⟩
 case ext=>exact⟨PE.b_eq h.1,h.2⟩
 case agg=>exact⟨h.1,PE.b_eq h.2⟩
 case one=>exact PE.b_eq h
 case row=>exact⟨h.1.1,PE.b_eq h.1.2,PE.b_eq h.2⟩
 case idx=>exact⟨h.1.1,PE.b_eq h.1.2,PE.b_eq h.2⟩
 case len=>exact⟨h.1,PE.b_eq h.2⟩
 case slice=>exact⟨h.1.1.1,PE.b_eq h.1.1.2,peOB_eq h.1.2,peOB_eq h.2⟩
 case mm=>exact⟨h.1,peLB_eq h.2⟩
 case lst=>exact peLB_eq h
 case mk=>exact⟨pvLB_eq h.1.1,h.1.2,PE.b_eq h.2⟩
 case chk=>exact⟨h.1.1,SE.b_eq h.1.2,PE.b_eq h.2⟩
 case get=>exact⟨h.1.1.1.1,h.1.1.1.2,h.1.1.2,SE.b_eq h.1.2,SE.b_eq h.2⟩
 case put=>exact⟨h.1.1.1.1,h.1.1.1.2,SE.b_eq h.1.1.2,SE.b_eq h.1.2,peLB_eq h.2⟩
 case push=>exact⟨h.1.1.1,h.1.1.2,SE.b_eq h.1.2,PE.b_eq h.2⟩
 case lenc=>exact⟨h.1,SE.b_eq h.2⟩
 case frz=>exact⟨h.1.1,BN.b_eq h.1.2,SE.b_eq h.2⟩
 case deref=>exact⟨h.1,PE.b_eq h.2⟩
 case cont=>exact⟨h.1.1,h.1.2,PE.b_eq h.2⟩
 case isnil=>exact PE.b_eq h
 case ints=>exact PE.b_eq h
 case ins=>exact⟨h.1.1.1,h.1.1.2,SE.b_eq h.1.2,peLB_eq h.2⟩
 case keys=>exact⟨h.1,PE.b_eq h.2⟩
 case lk=>exact⟨h.1,SE.b_eq h.2⟩
 case tl=>exact SE.b_eq h
 case srt=>exact SE.b_eq h
 case cpt=>exact⟨BN.b_eq h.1,SE.b_eq h.2⟩
 case aoff=>exact⟨h.1.1.1.1,h.1.1.1.2,h.1.1.2,PE.b_eq h.1.2,PE.b_eq h.2⟩
 case tset=>exact⟨h.1.1.1.1.1,eq_of_beq h.1.1.1.1.2,h.1.1.1.2,SE.b_eq h.1.1.2,PE.b_eq h.1.2,PE.b_eq h.2⟩
 case tget=>exact⟨h.1.1.1.1.1,eq_of_beq h.1.1.1.1.2,eq_of_beq h.1.1.1.2,h.1.1.2,SE.b_eq h.1.2,PE.b_eq h.2⟩
 case tgetf=>exact⟨h.1.1.1.1,eq_of_beq h.1.1.1.2,eq_of_beq h.1.1.2,PE.b_eq h.1.2,PE.b_eq h.2⟩
 case siter=>exact PE.b_eq h
 case snx=>exact SE.b_eq h
theorem Tree.b_eq:∀{t u:Tree},t.b u=true->t=u
 |.ret v,u,h=>by cases u<;>simp[Tree.b]at h;rw[PE.b_eq h]
 |.jump L l,u,h=>by cases u<;>simp[Tree.b]at h;rw[h.1,peLB_eq h.2]
 |.prim p t,u,h=>by cases u<;>simp[Tree.b]at h;rw[Prim.b_eq h.1,Tree.b_eq h.2]
 |.ite c x y,u,h=>by cases u<;>simp[Tree.b]at h;rw[SE.b_eq h.1.1,Tree.b_eq h.1.2,Tree.b_eq h.2]
 |.call g l t,u,h=>by cases u<;>simp[Tree.b]at h;rw[h.1.1,peLB_eq h.1.2,Tree.b_eq h.2]
 |.callv f l t,u,h=>by cases u<;>simp[Tree.b]at h;rw[SE.b_eq h.1.1,peLB_eq h.1.2,Tree.b_eq h.2]
 |.pick z c t,u,h=>by cases u<;>simp[Tree.b]at h;rw[h.1.1,SE.b_eq h.1.2,Tree.b_eq h.2]
 |.loop L i t,u,h=>by cases u<;>simp[Tree.b]at h;rw[h.1.1,peLB_eq h.1.2,Tree.b_eq h.2]
 |.join L x y,u,h=>by cases u<;>simp[Tree.b]at h;rw[h.1.1,Tree.b_eq h.1.2,Tree.b_eq h.2]
 |.die,u,h=>by cases u<;>simp[Tree.b]at h;rfl
theorem sameM_eq{t:Tree}{x:M}(h:sameM t x=true):x=.ok t:=by
 cases x with
 |ok u=>rw[Tree.b_eq (show t.b u=true from h)]
 |error e=>cases h
theorem anyW_mono{P:Program}{ops:Array Oper}{K K':St->Prop}(hk:∀s,K s->K' s):∀(m:Nat)(l:Array Bool)(s:St),anyW P ops m l s K->anyW P ops m l s K'
 |0,l,s,h=>⟨h.1,hk s h.2⟩
 |m+1,l,s,h=>⟨λe=>hk s (h.1 e),λi hi o ho=>opsW_mono (λs' h'=>anyW_mono hk m _ s' h') [o] s (h.2 i hi o ho)⟩
theorem any_ok(hF:F.P=X.P)(hk:Known X F.DI C n inl yl){ops:Array Oper}{rid:Nat}{K:Sym->M}{R:Out->Prop}:∀(m:Nat)(l:Array Bool){S:Sym}{ρ:List PV}{ids:Nat->Option Nat}{s:St}{t:Tree},compAny X inl yl ops rid m l S K=.ok t->Rel F S ρ ids s->Run X.P C n t ρ R->anyW X.P ops m l s λs'=>Stp X F C n R K S ρ s'
 |0,l,S,ρ,ids,s,t,h,hr,hrun=>by
  simp only[compAny]at h;split at h
  ·rename_i he;exact⟨he,S,ρ,ids,t,h,hr,hrun,Ext.refl S ρ⟩
  ·cases h
 |m+1,l,S,ρ,ids,s,t,h,hr,hrun=>by
  simp only[compAny]at h;split at h
  ·rename_i he;exact⟨λ_=>⟨S,ρ,ids,t,h,hr,hrun,Ext.refl S ρ⟩,λi hi=>(by rw[he]at hi;cases hi)⟩
  ·rename_i i is he;obtain⟨t0,ht,h⟩:=bind_ok h;split at h
   ·rename_i hall;injection h with h;subst h;refine⟨λe=>(by rw[e]at he;cases he),λj hj o ho=>?_⟩;have hone:oneAny X inl yl ops rid S (λi S=>compAny X inl yl ops rid m (l.setIfInBounds i true) S K) j=.ok t0:=by
     rw[he]at hj;rcases List.mem_cons.1 hj with rfl|hj
     ·exact ht
     ·exact sameM_eq (List.all_eq_true.1 hall j hj)
    simp only[oneAny,ho]at hone;refine opsW_mono (λs' hs=>?_) [o] s (seq_ops hF hk [o] j hone hr hrun);obtain⟨S',ρ',ids',t',h1,h2,h3,h4⟩:=hs;exact anyW_mono (λs3 h=>stp_mono h4 h) m _ s' (any_ok hF hk m _ h1 h2 h3)
   ·cases h
def RestQ(S S':Sym):Prop:=S'={ S with g:=S'.g,bx:=S'.bx }
theorem restQ_put(S:Sym)(d:Option Tmp)(v:SV):RestQ S (S.put d v):=by cases d<;>rfl
theorem RestQ.trans{S S1 S2:Sym}(h:RestQ S S1)(k:RestQ S1 S2):RestQ S S2:=by
 unfold RestQ at *;rw[k,h]
theorem restQ_app(S:Sym)(e:QE):RestQ S (appQ S e):=by
 cases e with
 |put d v=>exact restQ_put S d v
 |ld d b k v=>exact restQ_put S d v
 |st b k v=>
  simp only[appQ];split<;>rfl
structure AtQ(es:List QE)(p:Nat->Prop)(S S1:Sym):Prop where
 rest:RestQ S S1
 blen:S1.bx.length=S.bx.length
 put:∀(i:Nat) e d v,es[i]?=some e->(e=.put (some d) v\/∃b k,e=.ld (some d) b k v)->p i->S1.get d=v
 old:∀t,(∀(i:Nat) e,es[i]?=some e->e.dst=some t->¬p i)->S1.get t=S.get t
 box:∀(b:Nat) c0,S.bx[b]?=some (BX.cells c0)->∃c,S1.bx[b]?=some (BX.cells c)/\c.length=c0.length/\(∀(i k:Nat) v,es[i]?=some (QE.st b k v)->p i->c[k]?=some v)/\∀(k:Nat),(∀(i:Nat) v,es[i]?=some (QE.st b k v)->¬p i)->c[k]?=c0[k]?
 oth:∀(b:Nat),(∀c0,S.bx[b]?≠some (BX.cells c0))->S1.bx[b]?=S.bx[b]?
theorem pwQ_ne{es:List QE}(h:pwQ es=true):∀(i j:Nat) x y,i<j->es[i]?=some x->es[j]?=some y->x.clash y=false:=by
 induction es with
 |nil=>intro i j x y _ hx;simp at hx
 |cons e es ih=>
  simp only[pwQ,Bool.and_eq_true]at h;intro i j x y hij hx hy;obtain⟨j,rfl⟩:∃m,j=m+1:=⟨j-1,by omega⟩;simp only[List.getElem?_cons_succ]at hy;cases i with
  |zero=>
   simp only[List.getElem?_cons_zero,Option.some.injEq]at hx;subst hx;have:=List.all_eq_true.1 h.1 y (List.mem_of_getElem? hy);simpa using this
  |succ i=>
   simp only[List.getElem?_cons_succ]at hx;exact ih h.2 i j x y (by omega) hx hy
theorem nbeq(a:Nat):Nat.beq a a=true:=Nat.beq_refl a
theorem clash_dst{x y:QE}{d:Nat}(hx:x.dst=some d)(hy:y.dst=some d):x.clash y=true:=by cases x<;>cases y<;>simp only[QE.dst,reduceCtorEq]at hx hy<;>simp[QE.clash,QE.dst,hx,hy,nbeq]
theorem pw_dst{es:List QE}(h:pwQ es=true){i j:Nat}{x y:QE}{d:Nat}(hx:es[i]?=some x)(hy:es[j]?=some y)(h1:x.dst=some d)(h2:y.dst=some d):i=j:=by
 rcases Nat.lt_trichotomy i j with hij|hij|hij
 ·have:=pwQ_ne h i j x y hij hx hy;rw[clash_dst h1 h2]at this;cases this
 ·exact hij
 ·have:=pwQ_ne h j i y x hij hy hx;rw[clash_dst h2 h1]at this;cases this
theorem pw_st{es:List QE}(h:pwQ es=true){i j:Nat}{b k:Nat}{v v':SV}(hx:es[i]?=some (.st b k v))(hy:es[j]?=some (.st b k v')):i=j:=by
 rcases Nat.lt_trichotomy i j with hij|hij|hij
 ·have:=pwQ_ne h i j _ _ hij hx hy;simp[QE.clash]at this
 ·exact hij
 ·have:=pwQ_ne h j i _ _ hij hy hx;simp[QE.clash]at this
theorem pw_ld{es:List QE}(h:pwQ es=true){i j:Nat}{b k:Nat}{d:Option Tmp}{v v':SV}(hx:es[i]?=some (.ld d b k v))(hy:es[j]?=some (.st b k v')):False:=by
 rcases Nat.lt_trichotomy i j with hij|hij|hij
 ·have:=pwQ_ne h i j _ _ hij hx hy;simp[QE.clash]at this
 ·subst hij;rw[hx]at hy;cases hy
 ·have:=pwQ_ne h j i _ _ hij hy hx;simp[QE.clash]at this
theorem at_put{es:List QE}{p:Nat->Prop}{S S1:Sym}{i:Nat}{e:QE}{d:Option Tmp}{v:SV}(hw:pwQ es=true)(h:AtQ es p S S1)(he:es[i]?=some e)(hv:e=.put d v\/∃b k,e=.ld d b k v):
  AtQ es (λj=>p j\/j=i) S (S1.put d v):=by
 have hst:∀b k v',e≠.st b k v':=by rintro b k v' rfl;rcases hv with h|⟨_,_,h⟩<;>cases h
 have hdst:e.dst=d:=by rcases hv with rfl|⟨_,_,rfl⟩<;>rfl
 have hbx:(S1.put d v).bx=S1.bx:=by cases d<;>rfl
 refine⟨h.rest.trans (restQ_put _ _ _),by rw[hbx,h.blen],?_,?_,?_,?_⟩
 ·intro j e' d' v' he' hv' hp;cases d with
  |none=>
   rcases hp with hp|rfl
   ·exact h.put j e' d' v' he' hv' hp
   ·rw[he]at he';injection he' with he';subst he';rcases hv' with rfl|⟨_,_,rfl⟩<;>simp[QE.dst]at hdst
  |some d=>
   rw[get_put];have hd':e'.dst=some d':=by rcases hv' with rfl|⟨_,_,rfl⟩<;>rfl
   by_cases hdd:d'=d
   ·subst hdd;rw[if_pos rfl];have:=pw_dst hw he he' hdst hd';subst this;rw[he]at he';injection he' with he';subst he';rcases hv with rfl|⟨_,_,rfl⟩<;>rcases hv' with hv'|⟨_,_,hv'⟩<;>injection hv'<;>simp_all
   ·rw[if_neg hdd];rcases hp with hp|rfl
    ·exact h.put j e' d' v' he' hv' hp
    ·rw[he]at he';injection he' with he';subst he';rw[hdst]at hd';injection hd' with hd';exact absurd hd'.symm hdd
 ·intro t ht;cases d with
  |none=>exact h.old t λj e' he' hd' hp=>ht j e' he' hd' (.inl hp)
  |some d=>
   rw[get_put,if_neg (λk=>ht i e he (by rw[hdst,k]) (.inr rfl))];exact h.old t λj e' he' hd' hp=>ht j e' he' hd' (.inl hp)
 ·intro b c0 hb;rw[hbx];obtain⟨c,h1,h2,h3,h4⟩:=h.box b c0 hb;refine⟨c,h1,h2,λj k v' hj hp=>?_,λk hk=>h4 k λj v' hj hp=>hk j v' hj (.inl hp)⟩;rcases hp with hp|rfl
  ·exact h3 j k v' hj hp
  ·rw[he]at hj;injection hj with hj;exact absurd hj (hst _ _ _)
 ·intro b hb;rw[hbx];exact h.oth b hb
theorem at_app{es:List QE}{p:Nat->Prop}{S S1:Sym}{i:Nat}{e:QE}(hw:pwQ es=true)(h:AtQ es p S S1)(he:es[i]?=some e)(hin:∀b k v,e=.st b k v->∃c,S1.bx[b]?=some (BX.cells c)/\k<c.length):
  AtQ es (λj=>p j\/j=i) S (appQ S1 e):=by
 cases e with
 |put d v=>exact at_put hw h he (.inl rfl)
 |ld d b k v=>exact at_put hw h he (.inr ⟨b,k,rfl⟩)
 |st b k v=>
  obtain⟨c,hc,hk⟩:=hin b k v rfl;simp only[appQ,hc];have hbl:b<S1.bx.length:=(List.getElem?_eq_some_iff.1 hc).1;refine⟨h.rest.trans rfl,by simp[Sym.setBox,h.blen],?_,?_,?_,?_⟩
  ·intro j e' d' v' he' hv' hp;rcases hp with hp|rfl
   ·exact h.put j e' d' v' he' hv' hp
   ·rw[he]at he';injection he' with he';subst he';rcases hv' with hv'|⟨_,_,hv'⟩<;>cases hv'
  ·intro t ht;exact h.old t λj e' he' hd' hp=>ht j e' he' hd' (.inl hp)
  ·intro b' c0 hb';obtain⟨c',h1,h2,h3,h4⟩:=h.box b' c0 hb';by_cases hbb:b'=b
   ·subst hbb;rw[hc]at h1;injection h1 with h1;injection h1 with h1;subst h1;have hg:∀m,(spliceS c k [v])[m]?=if m=k then some v else c[m]?:=by
     intro m;simp only[spliceS,List.length_singleton];rcases Nat.lt_trichotomy m k with hm|hm|hm
     ·rw[List.append_assoc,List.getElem?_append_left (by simp;omega),List.getElem?_take_of_lt hm,if_neg (by omega)]
     ·subst hm;rw[List.append_assoc,List.getElem?_append_right (by simp;omega)];simp[Nat.min_eq_left (Nat.le_of_lt hk)]
     ·rw[List.getElem?_append_right (by simp;omega),if_neg (by omega)];simp only[List.length_append,List.length_take,List.length_singleton,Nat.min_eq_left (Nat.le_of_lt hk),List.getElem?_drop];congr 1;omega
    refine⟨spliceS c k [v],by simp[Sym.setBox,hbl],by simp[spliceS];omega,λj m v' hj hp=>?_,λm hm=>?_⟩
    ·rw[hg];by_cases hmk:m=k
     ·subst hmk;have:=pw_st hw he hj;subst this;rw[he]at hj;injection hj with hj;injection hj with _ _ hj;rw[if_pos rfl,hj]
     ·rw[if_neg hmk];rcases hp with hp|rfl
      ·exact h3 j m v' hj hp
      ·rw[he]at hj;injection hj with hj;injection hj with _ hj _;exact absurd hj.symm hmk
    ·rw[hg,if_neg (λq=>hm i v (by rw[q];exact he) (.inr rfl))];exact h4 m λj v' hj hp=>hm j v' hj (.inl hp)
   ·refine⟨c',by simp only[Sym.setBox,List.getElem?_set];rw[if_neg (λq=>hbb q.symm)];exact h1,h2,λj m v' hj hp=>?_,λm hm=>h4 m λj v' hj hp=>hm j v' hj (.inl hp)⟩;rcases hp with hp|rfl
    ·exact h3 j m v' hj hp
    ·rw[he]at hj;injection hj with hj;injection hj with hj _ _;exact absurd hj.symm hbb
  ·intro b' hb';have hne:b≠b':=by
    rintro rfl;have:=h.oth b hb';rw[hc]at this;exact hb' c this.symm
   simp only[Sym.setBox,List.getElem?_set];rw[if_neg hne];exact h.oth b' hb'
theorem AtQ.congr{es:List QE}{p q:Nat->Prop}{S S1:Sym}(h:AtQ es p S S1)(hpq:∀i,i<es.length->(p i↔q i)):AtQ es q S S1:=by
 have hl:∀{i:Nat}{e},es[i]?=some e->(p i↔q i):=λhe=>hpq _ (List.getElem?_eq_some_iff.1 he).1;refine⟨h.rest,h.blen,λi e d v he hv hp=>h.put i e d v he hv ((hl he).2 hp),λt ht=>h.old t λi e he hd hp=>ht i e he hd ((hl he).1 hp),λb c0 hb=>?_,h.oth⟩;obtain⟨c,h1,h2,h3,h4⟩:=h.box b c0 hb;exact⟨c,h1,h2,λi k v he hp=>h3 i k v he ((hl he).2 hp),λk hk=>h4 k λi v he hp=>hk i v he ((hl he).1 hp)⟩
theorem RestQ.eq{S a b:Sym}(ha:RestQ S a)(hb:RestQ S b)(h2:a.bx=b.bx):a={ b with g:=a.g }:=by
 unfold RestQ at ha hb;rw[ha,hb,h2]
theorem rel_g{F:Frm}{S:Sym}{g:List (Nat×SV)}{ρ:List PV}{ids:Nat->Option Nat}{s:St}(h:Rel F { S with g:=g } ρ ids s)(hg:∀t,getA g t=S.get t):Rel F S ρ ids s:=
 ⟨h.len,h.kn,λt=>by rw[←hg];exact h.slot t,h.boxn,h.old,h.box,h.idlt,h.idinj,h.arr,h.a0,h.ent,h.efc,h.eff,h.new,h.keep,h.bbase,h.ba,h.bb,h.an,h.obd,h.rc⟩
theorem at_full{es:List QE}{S a b:Sym}(ha:AtQ es (λ_=>True) S a)(hb:AtQ es (λ_=>True) S b):a={ b with g:=a.g }/\∀t,a.get t=b.get t:=by
 classical
 have hg:∀t,a.get t=b.get t:=by
  intro t;by_cases ht:∃(i:Nat)(e:QE),es[i]?=some e/\e.dst=some t
  ·obtain⟨i,e,he,hd⟩:=ht;cases e with
   |put d v=>simp only[QE.dst]at hd;subst hd;rw[ha.put i _ t v he (.inl rfl) trivial,hb.put i _ t v he (.inl rfl) trivial]
   |ld d b' k v=>simp only[QE.dst]at hd;subst hd;rw[ha.put i _ t v he (.inr ⟨_,_,rfl⟩) trivial,hb.put i _ t v he (.inr ⟨_,_,rfl⟩) trivial]
   |st _ _ _=>cases hd
  ·have hn:∀(i:Nat) e,es[i]?=some e->e.dst=some t->¬True:=λi e he hd=>(ht ⟨i,e,he,hd⟩).elim;rw[ha.old t hn,hb.old t hn]
 refine⟨RestQ.eq ha.rest hb.rest (List.ext_getElem? λm=>?_),hg⟩
 ·cases hm:S.bx[m]? with
  |none=>rw[ha.oth m (by rw[hm];simp),hb.oth m (by rw[hm];simp)]
  |some x=>
   cases x with
   |cells c0=>
    obtain⟨c,h1,h2,h3,h4⟩:=ha.box m c0 hm;obtain⟨c',k1,k2,k3,k4⟩:=hb.box m c0 hm;rw[h1,k1];congr 2;refine List.ext_getElem? λk=>?_;by_cases hk:∃(i:Nat)(v:SV),es[i]?=some (.st m k v)
    ·obtain⟨i,v,he⟩:=hk;rw[h3 i k v he trivial,k3 i k v he trivial]
    ·have hn:∀(i:Nat) v,es[i]?=some (.st m k v)->¬True:=λi v he=>(hk ⟨i,v,he⟩).elim;rw[h4 k hn,k4 k hn]
   |dice=>rw[ha.oth m (by rw[hm];simp),hb.oth m (by rw[hm];simp)]
   |gone=>rw[ha.oth m (by rw[hm];simp),hb.oth m (by rw[hm];simp)]
theorem effQ_eq{ops:Array Oper}{rid i:Nat}{o:Oper}{S:Sym}{e:QE}(h:effQ X o S=some e)(K:Sym->M):compOps X inl yl none ops rid [o] i S K=K (appQ S e):=by
 unfold effQ at h;simp only[compOps];cases hg:o.guard with
 |some g=>rw[hg]at h;cases h
 |none=>
  rw[hg]at h;simp only at h⊢;unfold compOp;cases ho:o.op<;>rw[ho]at h<;>simp only[reduceCtorEq]at h⊢
  case move x=>injection h with h;rw[←h];rfl
  case assign x=>injection h with h;rw[←h];rfl
  case fieldAddr t x f=>
   unfold compField;split at h
   ·rename_i fs hu;try rw[hu]
    try simp only
    split at h
    ·rename_i fd hf;try rw[hf]
     try simp only
     split at h
     ·cases h
     ·rename_i hc;rw[if_neg hc];split at h
      ·rename_i b off hx;try rw[hx]
       injection h with h;simp only[←h,appQ]
      ·cases h
    ·cases h
   ·cases h
  case indexAddr t x j=>
   unfold compIndexAddr;split at h
   ·rename_i e hu;try rw[hu]
    try simp only
    split at h
    ·rename_i pi hpi;try rw[hpi]
     try simp only
     split at h
     ·cases h
     ·rename_i hc;rw[if_neg hc];split at h
      ·rename_i b sz len hx;try rw[hx]
       try simp only
       split at h
       ·rename_i kk nn hj;try rw[hj]
        try simp only
        split at h
        ·rename_i hcn;rw[if_pos hcn];injection h with h;rw[←h];rfl
        ·cases h
       ·cases h
      ·cases h
    ·cases h
   ·cases h
  case load t x=>
   unfold compLoad;split at h
   ·rename_i b off hx;try rw[hx]
    try simp only
    split at h
    ·rename_i ha;split at h
     ·rename_i l hl;split at h
      ·rename_i v hv;injection h with h;have:loadS X S none t b off=some v:=by
        unfold loadS;first|exact hv|(rw[hl,ha];exact hv)
       rw[this];simp only[←h,appQ]
      ·cases h
     ·cases h
    ·cases h
   ·cases h
  case store t x y=>
   unfold compStore;split at h
   ·cases h
   ·rename_i hc;rw[if_neg hc];split at h
    ·rename_i b off hx;try rw[hx]
     try simp only
     split at h
     ·rename_i v ha hy;split at h
      ·rename_i hone;unfold cellsK;rw[ha,hy];simp only[hone,if_true];split at h
       ·rename_i l hl;try rw[hl]
        split at h
        ·rename_i hcn;injection h with h;have hcn':[SV.e v].length=X.P.cellsOf t/\[SV.e v].all SV.solid=true/\off+[SV.e v].length<=l.length/\((none:Option Nat).all λb'=>decide (off=0)&&decide (b'<=b)&&decide (l.length=[SV.e v].length))=true:=⟨hcn.1,rfl,hcn.2,rfl⟩;try simp only[]
         rw[if_pos hcn',←h];simp only[appQ,hl]
        ·cases h
       ·cases h
      ·cases h
     ·cases h
    ·cases h
theorem effQ_st{o:Oper}{S:Sym}{b k:Nat}{v:SV}(h:effQ X o S=some (.st b k v)):∃c,S.bx[b]?=some (BX.cells c)/\k<c.length:=by
 unfold effQ at h;repeat' split at h
 all_goals first|(cases h;done)|skip
 rename_i l hl hcn;injection h with h;injection h with h1 h2 h3;subst h1 h2;exact⟨l,hl,by omega⟩
theorem ev_agree{S1 S2:Sym}{x:Operand}(h:∀t∈opnd x,S1.get t=S2.get t):S1.ev x=S2.ev x:=by
 cases x with
 |tmp t=>exact h t (by simp[opnd])
 |const v=>rfl
 |func f=>rfl
 |global g=>rfl
theorem effQ_agree{o:Oper}{S1 S2:Sym}{e:QE}(hk:S1.kn=S2.kn)(hs:∀t∈slotsQ o.op,S1.get t=S2.get t)(h:effQ X o S2=some e)
  (hld:∀d b k v c,e=.ld d b k v->S2.bx[b]?=some (BX.cells c)->∃c',S1.bx[b]?=some (BX.cells c')/\c'[k]?=c[k]?)
  (hst:∀b k v c,e=.st b k v->S2.bx[b]?=some (BX.cells c)->∃c',S1.bx[b]?=some (BX.cells c')/\c'.length=c.length):effQ X o S1=some e:=by
 unfold effQ at h⊢;cases hg:o.guard with
 |some g=>rw[hg]at h;cases h
 |none=>
  rw[hg]at h;simp only at h⊢;cases ho:o.op<;>rw[ho]at h hs<;>simp only[reduceCtorEq,slotsQ,List.mem_append]at h hs⊢
  case move x=>rw[ev_agree hs];exact h
  case assign x=>rw[ev_agree hs];exact h
  case fieldAddr t x f=>rw[ev_agree hs];exact h
  case indexAddr t x y=>rw[ev_agree λt ht=>hs t (.inl ht),ev_agree λt ht=>hs t (.inr ht)];exact h
  case load t x=>
   rw[ev_agree hs];split at h
   ·rename_i b off hx;split at h
    ·rename_i ha;split at h
     ·rename_i l hl;split at h
      ·rename_i v hv;injection h with h;obtain⟨c',h1,h2⟩:=hld _ _ _ _ _ h.symm hl;simp only[h1,h2,hv,h]
      ·cases h
     ·cases h
    ·cases h
   ·cases h
  case store t x y=>
   rw[ev_agree λt ht=>hs t (.inl ht),ev_agree λt ht=>hs t (.inr ht)];have hone:∀v,S1.isOne v=S2.isOne v:=λv=>by cases v<;>simp[Sym.isOne,hk]
   split at h
   ·cases h
   ·rename_i hc;rw[if_neg hc];split at h
    ·rename_i b off hx;split at h
     ·rename_i v ha hy;simp only[hone];split at h
      ·rename_i ho1;rw[if_pos ho1];split at h
       ·rename_i l hl;split at h
        ·rename_i hcn;injection h with h;obtain⟨c',h1,h2⟩:=hst _ _ _ _ h.symm hl;simp only[h1,h2,if_pos hcn,h]
        ·cases h
       ·cases h
      ·cases h
     ·cases h
    ·cases h
theorem wrB_ok{o:Oper}{i t:Nat}:∀{es:List QE}{j0:Nat},wrB o i t es j0=true->∀(j:Nat) e,es[j]?=some e->e.dst=some t->j0+j<i/\∃ed∈o.after,Region.binds .any ed=true/\ed.on=j0+j
 |[],_,_,j,e,he,_=>by simp at he
 |x::es,j0,h,j,e,he,hd=>by
  simp only[wrB,Bool.and_eq_true]at h;cases j with
  |zero=>
   simp only[List.getElem?_cons_zero,Option.some.injEq]at he;subst he;rw[hd]at h;simp only[nbeq,Bool.not_true,Bool.false_or,Bool.and_eq_true,Array.any_eq_true']at h;obtain⟨⟨h1,ed,hm,h2⟩,_⟩:=h;exact⟨Nat.le_of_ble_eq_true h1,ed,hm,h2.1,Nat.eq_of_beq_eq_true h2.2⟩
  |succ j=>
   simp only[List.getElem?_cons_succ]at he;have:=wrB_ok h.2 j e he hd;rw[show j0+(j+1)=j0+1+j by omega];exact this
theorem rdQ_ok{es:List QE}:∀{os:List Oper}{i0:Nat},rdQ es os i0=true->∀(i:Nat) o,os[i]?=some o->(∀ed∈o.after,Region.binds .any ed=true->ed.on<i0+i)/\∀t∈slotsQ o.op,wrB o (i0+i) t es 0=true
 |[],_,_,i,o,ho=>by simp at ho
 |x::os,i0,h,i,o,ho=>by
  simp only[rdQ,Bool.and_eq_true]at h;cases i with
  |zero=>
   simp only[List.getElem?_cons_zero,Option.some.injEq]at ho;subst ho;refine⟨λed hm hb=>?_,λt ht=>List.all_eq_true.1 h.1.2 t ht⟩;have:=Array.all_eq_true'.1 h.1.1 ed hm;simp only[hb,Bool.not_true,Bool.false_or]at this;exact Nat.le_of_ble_eq_true this
  |succ i=>
   simp only[List.getElem?_cons_succ]at ho;have:=rdQ_ok h.2 i o ho;rw[show i0+(i+1)=i0+1+i by omega];exact this
theorem can_at{es:List QE}{S:Sym}(hw:pwQ es=true):∀{os:List Oper}{S1:Sym}{es' pre:List QE},canQ X os S1=some es'->es=pre++es'->AtQ es (·<pre.length) S S1 ->
  os.length=es'.length/\AtQ es (·<es.length) S (es'.foldl appQ S1)/\∀(i:Nat) o,os[i]?=some o->∃Si e,es'[i]?=some e/\AtQ es (·<pre.length+i) S Si/\effQ X o Si=some e
 |[],S1,es',pre,h,he,ha=>by
  simp only[canQ,Option.some.injEq]at h;subst h;simp only[List.append_nil]at he;subst he;exact⟨rfl,ha,λi o ho=>by simp at ho⟩
 |o::os,S1,es',pre,h,he,ha=>by
  simp only[canQ]at h;split at h
  ·rename_i e h1;split at h
   ·rename_i es2 h2;injection h with h;subst h;have hi:es[pre.length]?=some e:=by rw[he];simp
    have ha2:=(at_app hw ha hi λb k v hv=>effQ_st (by rw[←hv];exact h1)).congr (q:=(·<(pre++[e]).length)) λi _=>by simp;omega
    obtain⟨k1,k2,k3⟩:=can_at hw h2 (pre:=pre++[e]) (by rw[he];simp) ha2;refine⟨by simp[k1],k2,λi o' ho=>?_⟩;cases i with
    |zero=>
     simp only[List.getElem?_cons_zero,Option.some.injEq]at ho;subst ho;exact⟨S1,e,rfl,ha,h1⟩
    |succ i=>
     simp only[List.getElem?_cons_succ]at ho;obtain⟨Si,e',g1,g2,g3⟩:=k3 i o' ho;exact⟨Si,e',g1,g2.congr λj _=>by simp;omega,g3⟩
   ·cases h
  ·cases h
theorem quiet_ok(hF:F.P=X.P)(hk:Known X F.DI C n inl yl){ops:Array Oper}{S Sf:Sym}{ρ:List PV}{ids:Nat->Option Nat}{s:St}{K:Sym->M}{R:Out->Prop}{t:Tree}(hc:compQ X ops S=some Sf)(h:K Sf=.ok t)(hr:Rel F S ρ ids s)(hrun:Run X.P C n t ρ R):
  anyW X.P ops ops.size (Array.replicate ops.size false) s λs'=>Stp X F C n R K S ρ s':=by
 classical
 simp only[compQ]at hc;split at hc
 ·rename_i es hes;split at hc
  ·rename_i hA;simp only[Bool.and_eq_true]at hA;obtain⟨hw,hrd⟩:=hA;injection hc with hc;have h0:AtQ es (·<([]:List QE).length) S S:=⟨rfl,rfl,λi e d v _ _ hp=>absurd hp (by simp),λt _=>rfl,λb c0 hb=>⟨c0,hb,rfl,λi k v _ hp=>absurd hp (by simp),λk _=>rfl⟩,λb _=>rfl⟩;obtain⟨hlen,hfull,hcan⟩:=can_at hw hes (pre:=[]) rfl h0;have hfin:∀{S1:Sym}{l:Array Bool},l.size=ops.size->AtQ es (Lst l) S S1->Region.ready .any ops l=[]->S1={ Sf with g:=S1.g }/\∀t,S1.get t=Sf.get t:=by
    intro S1 l hsz ha hnil;have hall:∀i,i<ops.size->Lst l i:=by
     intro i;induction i using Nat.strongRecOn with
     |_ i ih=>
      intro hi;apply Decidable.byContradiction;intro hn;have:i∈Region.ready .any ops l:=mem_ready.2 ⟨(lst_false (by omega)).2 hn,ops[i],by simp[hi],λe he hb=>by
       have:=(rdQ_ok hrd i ops[i] (by simp[hi])).1 e he hb;exact ih e.on (by omega) (by omega)⟩
      rw[hnil]at this;cases this
    rw[←hc];refine at_full (ha.congr λi hi=>⟨λ_=>trivial,λ_=>hall i ?_⟩) (hfull.congr λi hi=>⟨λ_=>trivial,λ_=>hi⟩);have:ops.toList.length=es.length:=hlen;simp only[Array.length_toList]at this;omega
   suffices hgo:∀(m:Nat)(l:Array Bool){S1:Sym}{ids:Nat->Option Nat}{s:St},l.size=ops.size->left l<=m->AtQ es (Lst l) S S1->Rel F S1 ρ ids s->Ext S ρ S1 ρ->anyW X.P ops m l s λs'=>Stp X F C n R K S ρ s' by
    refine hgo ops.size _ (by simp) (by simp[left]) (h0.congr λi _=>?_) hr (Ext.refl S ρ);simp only[List.length_nil,Nat.not_lt_zero,false_iff,Lst,Array.getD_eq_getD_getElem?,Array.getElem?_replicate];split<;>simp
   intro m;induction m with
   |zero=>
    intro l S1 ids s hsz hl ha hr hx;have hnil:Region.ready .any ops l=[]:=by
     cases he:Region.ready .any ops l with
     |nil=>rfl
     |cons i is=>
      exfalso;have hm:i∈Region.ready .any ops l:=by rw[he];simp
      obtain⟨h1,o,ho,h2⟩:=mem_ready.1 hm;have hi:i<l.size:=by rw[hsz];exact(Array.getElem?_eq_some_iff.1 ho).1
      have:=left_pos hi ((lst_false hi).1 h1);omega
    obtain⟨e1,e2⟩:=hfin hsz ha hnil;rw[e1]at hr hx;exact⟨hnil,Sf,ρ,ids,t,h,rel_g hr e2,hrun,⟨hx.pre,hx.base,hx.bbase,hx.site,hx.lv,hx.ys,hx.bx,rfl⟩⟩
   |succ m ih=>
    intro l S1 ids s hsz hl ha hr hx;refine⟨λhnil=>?_,λi hi o ho=>?_⟩
    ·obtain⟨e1,e2⟩:=hfin hsz ha hnil;rw[e1]at hr hx;exact⟨Sf,ρ,ids,t,h,rel_g hr e2,hrun,⟨hx.pre,hx.base,hx.bbase,hx.site,hx.lv,hx.ys,hx.bx,rfl⟩⟩
    ·obtain⟨h1,o',ho',h2⟩:=mem_ready.1 hi;rw[ho]at ho';injection ho' with ho';subst ho';have hlt:i<l.size:=by rw[hsz];exact(Array.getElem?_eq_some_iff.1 ho).1
     have hoL:ops.toList[i]?=some o:=by rw[Array.getElem?_toList];exact ho
     obtain⟨Si,e,he,hSi,heff⟩:=hcan i o hoL;have hSi:=hSi.congr (q:=(·<i)) λj _=>by simp
     obtain⟨hr1,hr2⟩:=rdQ_ok hrd i o hoL;have heff1:effQ X o S1=some e:=by
      refine effQ_agree (by rw[ha.rest,hSi.rest]) (λu hu=>?_) heff (λd b k v c hv hb=>?_) λb k v c hv hb=>?_
      ·have hwr:=wrB_ok (hr2 u hu);by_cases hex:∃(j:Nat)(e':QE),es[j]?=some e'/\e'.dst=some u
       ·obtain⟨j,e',he',hd'⟩:=hex;obtain⟨g1,ed,g2,g3,g4⟩:=hwr j e' he' hd';have hl:Lst l j:=by have:=h2 ed g2 g3;rw[g4,Nat.zero_add]at this;exact this
        have hji:j<i:=by omega
        cases e' with
        |put d v=>simp only[QE.dst]at hd';subst hd';rw[ha.put j _ u v he' (.inl rfl) hl,hSi.put j _ u v he' (.inl rfl) hji]
        |ld d b k v=>simp only[QE.dst]at hd';subst hd';rw[ha.put j _ u v he' (.inr ⟨_,_,rfl⟩) hl,hSi.put j _ u v he' (.inr ⟨_,_,rfl⟩) hji]
        |st _ _ _=>cases hd'
       ·rw[ha.old u λj e' he' hd' _=>hex ⟨j,e',he',hd'⟩,hSi.old u λj e' he' hd' _=>hex ⟨j,e',he',hd'⟩]
      ·subst hv;cases hS:S.bx[b]? with
       |none=>rw[hSi.oth b (by rw[hS];simp),hS]at hb;cases hb
       |some x=>
        cases x with
        |cells c0=>
         obtain⟨c1,a1,a2,a3,a4⟩:=ha.box b c0 hS;obtain⟨c2,b1,b2,b3,b4⟩:=hSi.box b c0 hS;rw[hb]at b1;injection b1 with b1;injection b1 with b1;subst b1;exact⟨c1,a1,by rw[a4 k λj v' hj _=>pw_ld hw he hj,b4 k λj v' hj _=>pw_ld hw he hj]⟩
        |dice=>rw[hSi.oth b (by rw[hS];simp),hS]at hb;cases hb
        |gone=>rw[hSi.oth b (by rw[hS];simp),hS]at hb;cases hb
      ·cases hS:S.bx[b]? with
       |none=>rw[hSi.oth b (by rw[hS];simp),hS]at hb;cases hb
       |some x=>
        cases x with
        |cells c0=>
         obtain⟨c1,a1,a2,_,_⟩:=ha.box b c0 hS;obtain⟨c2,b1,b2,_,_⟩:=hSi.box b c0 hS;rw[hb]at b1;injection b1 with b1;injection b1 with b1;subst b1;exact⟨c1,a1,by rw[a2,b2]⟩
        |dice=>rw[hSi.oth b (by rw[hS];simp),hS]at hb;cases hb
        |gone=>rw[hSi.oth b (by rw[hS];simp),hS]at hb;cases hb
     have ha2:=at_app hw ha he λb k v hv=>effQ_st (by rw[←hv];exact heff1);let K2:Sym->M:=λS'=>if S'=appQ S1 e then .ok (.ret (.e (.cst .nilp)))else .error ""
     have hK2:compOps X inl yl none ops 0 [o] i S1 K2=.ok (.ret (.e (.cst .nilp))):=by
      rw[effQ_eq heff1];simp only[K2,if_true]
     refine opsW_mono (λs' hs'=>?_) [o] s (seq_ops hF hk [o] i hK2 hr (R:=λ_=>True) (λω=>⟨_,rfl,trivial⟩));obtain⟨S',ρ',ids',t',k1,k2,k3,k4⟩:=hs';have e':S'=appQ S1 e:=by
      simp only[K2]at k1;split at k1
      ·assumption
      ·cases k1
     subst e';have hnv:(appQ S1 e).nv=S1.nv:=by rw[restQ_app S1 e]
     have hρ:ρ'=ρ:=by
      have l1:=k2.len;have l2:=hr.len;exact(k4.pre.eq_of_length (by omega)).symm
     subst hρ;refine ih _ (by simpa using hsz) (by have:=left_set hlt ((lst_false hlt).1 h1);omega) (ha2.congr λj _=>?_) k2 (hx.trans k4);simp only[Lst,Array.getD_eq_getD_getElem?,Array.getElem?_setIfInBounds];by_cases hij:i=j
     ·subst hij;simp[hlt]
     ·simp[hij];exact λk=>(hij k.symm).elim
  ·cases hc
 ·cases hc
theorem comp_ok(hF:F.P=X.P)(hm:X.P.follows .mixedOrders=true)(hk:Known X F.DI C n inl yl):∀(c:Code){p:Nat}{S:Sym}{ρ:List PV}{ids:Nat->Option Nat}{s:St}{t:Tree}{R:Out->Prop}{K:Ex->Sym->M},
  comp X W inl yl f c p S K=.ok t->Rel F S ρ ids s->Run X.P C n t ρ R->CodeSem X.P c s λe s'=>Stp X F C n R (K e) S ρ s'
 |.skip,p,S,ρ,ids,s,t,R,K,h,hr,hrun=>by
  simp only[comp]at h;exact sem_skip ⟨S,ρ,ids,t,h,hr,hrun,Ext.refl S ρ⟩
 |.ret,p,S,ρ,ids,s,t,R,K,h,hr,hrun=>by
  simp only[comp]at h;exact sem_ret ⟨S,ρ,ids,t,h,hr,hrun,Ext.refl S ρ⟩
 |.exit i,p,S,ρ,ids,s,t,R,K,h,hr,hrun=>by
  simp only[comp]at h;exact sem_exit ⟨S,ρ,ids,t,h,hr,hrun,Ext.refl S ρ⟩
 |.seq x y,p,S,ρ,ids,s,t,R,K,h,hr,hrun=>by
  simp only[comp]at h;refine sem_seq (codeSem_mono (comp_ok hF hm hk x h hr hrun) λe s' hs=>?_);obtain⟨S',ρ',ids',t',e1,e2,e3,e4⟩:=hs;cases e with
  |normal=>exact codeSem_mono (comp_ok hF hm hk y e1 e2 e3) λe s'' hs=>stp_mono e4 hs
  |exit i=>exact⟨S',ρ',ids',t',e1,e2,e3,e4⟩
  |ret=>exact⟨S',ρ',ids',t',e1,e2,e3,e4⟩
 |.cond c x y,p,S,ρ,ids,s,t,R,K,h,hr,hrun=>by
  simp only[comp]at h;refine join_ok (λ{S ρ ids s t R K} h hr hrun=>?_) h hr hrun;have hv:=hr.ev c;split at h
  ·rename_i b hc;rw[hc]at hv;unfold RV at hv;cases b with
   |true=>exact sem_cond true hv.1 (by simp only[if_true];exact comp_ok hF hm hk x (by simpa using h) hr hrun)
   |false=>exact sem_cond false hv.1 (by simp only[Bool.false_eq_true,if_false];exact comp_ok hF hm hk y (by simpa using h) hr hrun)
  ·rename_i e _ hc;rw[hc]at hv;unfold RV at hv;obtain⟨a,ha,h⟩:=bind_ok h;obtain⟨b,hb,h⟩:=bind_ok h;injection h with h;subst h;rcases hrun.ite with⟨h1,h2⟩|⟨h1,h2⟩
   ·exact sem_cond true (hv.1.trans h1) (by simp only[if_true];exact comp_ok hF hm hk x ha hr h2)
   ·exact sem_cond false (hv.1.trans h1) (by simp only[Bool.false_eq_true,if_false];exact comp_ok hF hm hk y hb hr h2)
  ·cases h
 |.block id x,p,S,ρ,ids,s,t,R,K,h,hr,hrun=>by
  simp only[comp]at h;refine join_ok (λ{S ρ ids s t R K} h hr hrun=>?_) h hr hrun;refine sem_block (codeSem_mono (comp_ok hF hm hk x h hr hrun) λe s' hs=>?_);obtain⟨S',ρ',ids',t',e1,e2,e3,e4⟩:=hs;cases e with
  |normal=>exact⟨S',ρ',ids',t',e1,e2,e3,e4⟩
  |exit i=>
   simp only at e1⊢;split
   ·rename_i hi;rw[if_pos hi]at e1;exact⟨S',ρ',ids',t',e1,e2,e3,e4⟩
   ·rename_i hi;rw[if_neg hi]at e1;exact⟨S',ρ',ids',t',e1,e2,e3,e4⟩
  |ret=>exact⟨S',ρ',ids',t',e1,e2,e3,e4⟩
 |.region rid ops false,p,S,ρ,ids,s,t,R,K,h,hr,hrun=>by
  simp only[comp]at h;refine join_ok (λ{S ρ ids s t R K} h hr hrun=>?_) h hr hrun;exact sem_region (seq_ops hF hk ops.toList 0 h hr hrun)
 |.region rid ops true,p,S,ρ,ids,s,t,R,K,h,hr,hrun=>by
  simp only[comp]at h;refine join_ok (λ{S ρ ids s t R K} h hr hrun=>?_) h hr hrun;split at h
  ·rename_i hd;obtain⟨s1,q1,q2,S1,ρ1,ids1,t1,h1,h2,h3,h4⟩:=frzAll_ok (X:=X) h hr hrun;refine codeSem_silent q1 (sem_draw hm _ hd (tabX X C) ?_);refine lex_ops.lexW_imp (λs' hs=>?_) _ _ (lex_ops (m0:=s1.m) hF hk _ 0 h1 h2 ⟨h2.boxn,Nat.le_refl _,λ_ _=>rfl⟩ h3);obtain⟨⟨S',ρ',ids',t',e1,e2,e3,e4⟩,_⟩:=hs;exact opsW_mono (λs'' h=>stp_mono (h4.trans e4) h) _ _ (seq_ops hF hk _ _ e1 e2 e3)
  split at h
  ·rename_i hsw;obtain⟨s1,q1,q2,S1,ρ1,ids1,t1,h1,h2,h3,h4⟩:=frzAll_ok (X:=X) h hr hrun;exact codeSem_silent q1 (sem_any hm (anyW_mono (λs' hs=>stp_mono h4 hs) _ _ _ (sw_any hF hk hsw.2 h1 h2 h3)))
  ·split at h
   ·rename_i Sf hq;exact sem_any hm (quiet_ok hF hk hq h hr hrun)
   ·exact sem_any hm (any_ok hF hk _ _ h hr hrun)
 |.loop x,p,S,ρ,ids,s,t,R,K,h,hr,hrun=>by
  simp only[comp]at h;split at h
  ·cases h
  ·rename_i sk _;obtain⟨s1,q1,q2,S1,ρ1,ids1,t1,h1,h2,h3,h4⟩:=frzAll_ok (X:=X) h hr hrun;simp only[]at h1;split at h1
   ·cases h1
   ·rename_i vs hvs;obtain⟨body,hb,h1⟩:=bind_ok h1;injection h1 with h1;subst h1;obtain⟨ps,qs,ks,rfl,hf⟩:=fitVals_ok hvs;obtain⟨g1,g2,g3⟩:=fit_ok h2 h2 (Ext.refl S1 ρ1) (keepH_headOf sk S1) rfl hf;refine codeSem_silent (q1.trans g1) (codeSem_mono (loop_ok (X:=X) (f:=f) (inl:=inl) (yl:=yl) (W:=W) (λ{S ρ ids s t R K} h hr hrun=>comp_ok hF hm hk x h hr hrun) hb h2 g3 g2 (run_loop h3)) λe s' hs=>stp_mono h4 hs)
 |.rangeFunc g ps a b,p,S,ρ,ids,s,t,R,K,h,hr,hrun=>by
  simp only[comp]at h;exact hk.rng F R f g ps a b p K S ρ ids s t hF hk.c hk.new hk.own h hr hrun
 |.scope x,p,S,ρ,ids,s,t,R,K,h,hr,hrun=>by
  simp only[comp]at h;exact sem_scope (comp_ok hF hm hk x h hr hrun)
 |.label _,p,S,ρ,ids,s,t,R,K,h,hr,hrun=>by
  simp only[comp]at h;exact sem_label ⟨S,ρ,ids,t,h,hr,hrun,Ext.refl S ρ⟩
 |.goto _,p,S,ρ,ids,s,t,R,K,h,hr,hrun=>by simp only[comp]at h;cases h
 |.refuse _,p,S,ρ,ids,s,t,R,K,h,hr,hrun=>by simp only[comp]at h;cases h
end
end
end Go.Proofs.Ytjfejoadcdoobaa
