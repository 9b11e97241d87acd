/- Part of the proof of TopTwins. No condition. -/
import Derived.Test.YtjfejoadcdoobaaMTopTwinsAS
namespace Go.Proofs.Ytjfejoadcdoobaa
set_option maxRecDepth 100000
set_option linter.all false
section
open Go Go.RowKit
variable[Sp]
def flagsOf(diceT:TypeId)(fn:Func):List Bool:=fn.params.toList.map (λt=>decide (t=diceT))++List.replicate fn.nfree false
def flagsS:List Bool->Nat->List SV
 |[],_=>[]
 |b::bs,i=>(if b=true then .dice else .e (.var i))::flagsS bs (i+1)
def fitArgs:List Bool->List PV->Bool
 |[],[]=>true
 |true::bs,.ptr 0 0::asz=>fitArgs bs asz&&!bs.contains true
 |false::bs,a::asz=>a.plain&&fitArgs bs asz
 |_,_=>false
def diceOf:List Bool->List PV->Nat
 |true::_,.ptr i _::_=>i
 |_::bs,_::asz=>diceOf bs asz
 |_,_=>0
theorem flagsS_append(a b:List Bool)(i:Nat):flagsS (a++b) i=flagsS a i++flagsS b (i+a.length):=by
 induction a generalizing i with
 |nil=>simp[flagsS]
 |cons x a ih=>simp only[List.cons_append,flagsS,ih,List.length_cons,show i+(a.length+1)=i+1+a.length by omega]
theorem flagsS_false(k i:Nat):flagsS (List.replicate k false) i=varsS k i:=by
 induction k generalizing i with
 |zero=>rfl
 |succ k ih=>simp[List.replicate_succ,flagsS,varsS,ih]
theorem flagsS_params(diceT:TypeId)(l:List TypeId)(i:Nat):flagsS (l.map λt=>decide (t=diceT)) i=paramsS diceT l i:=by
 induction l generalizing i with
 |nil=>rfl
 |cons t l ih=>simp[flagsS,paramsS,ih]
theorem flagsS_length(bs:List Bool)(i:Nat):(flagsS bs i).length=bs.length:=by
 induction bs generalizing i with
 |nil=>rfl
 |cons b bs ih=>simp[flagsS,ih]
theorem flagsS_get(bs:List Bool)(i t:Nat):(flagsS bs i)[t]?=bs[t]?.map λb=>if b=true then .dice else .e (.var (i+t)):=by
 induction bs generalizing i t with
 |nil=>simp[flagsS]
 |cons b bs ih=>
  cases t with
  |zero=>simp[flagsS]
  |succ t=>simp only[flagsS,List.getElem?_cons_succ,ih];congr 1;funext b;congr 3;omega
theorem fitArgs_ok{DI:List PV->Prop}{m:Mem}:∀{bs:List Bool}{asz as':List PV},fitArgs bs asz=true->ArgL DI m asz as'->asz.length=bs.length/\as'.length=bs.length /\
  ∀(t:Nat),(bs[t]?=some true->as'[t]?=some (.ptr (diceOf bs as') 0)/\diceOf bs as'<m.n/\m.β (diceOf bs as')=.inv DI)/\(bs[t]?=some false->∃a,asz[t]?=some a/\as'[t]?=some a/\a.plain=true)
 |[],[],as',h,ha=>by simp only[ArgL]at ha;subst ha;simp
 |[],_::_,as',h,ha=>by simp[fitArgs]at h
 |b::bs,[],as',h,ha=>by cases b<;>simp[fitArgs]at h
 |true::bs,a::asz,as',h,ha=>by
  have:a=.ptr 0 0/\fitArgs bs asz=true/\bs.contains true=false:=by
   unfold fitArgs at h;split at h
   ·rename_i e;cases e
   ·rename_i e e';injection e with _ e2;injection e' with e3 e4;subst e2;subst e3;subst e4;simp only[Bool.and_eq_true,Bool.not_eq_true']at h;exact⟨rfl,h.1,h.2⟩
   ·rename_i e _;injection e with e1;cases e1
   ·cases h
  obtain⟨rfl,h1,h2⟩:=this;obtain⟨q,l',rfl,g1,g2⟩:=ha;obtain⟨k1,k2,k3⟩:=fitArgs_ok h1 g2;rcases g1 with⟨rfl,hp⟩|⟨_,i,rfl,hi,hb⟩
  ·simp[PV.plain]at hp
  refine⟨by simp[k1],by simp[k2],λt=>?_⟩;cases t with
  |zero=>simp[diceOf];exact⟨hi,hb⟩
  |succ t=>
   refine⟨λht=>?_,λht=>?_⟩
   ·have hm:=List.mem_of_getElem? (by simpa using ht:bs[t]?=some true);simp[List.contains_iff_mem,hm]at h2
   ·simpa using(k3 t).2 (by simpa using ht)
 |false::bs,a::asz,as',h,ha=>by
  have h':a.plain=true/\fitArgs bs asz=true:=by simpa[fitArgs]using h
  obtain⟨q,l',rfl,g1,g2⟩:=ha;obtain⟨k1,k2,k3⟩:=fitArgs_ok h'.2 g2;have hq:q=a:=by
   rcases g1 with⟨rfl,_⟩|⟨rfl,_⟩
   ·rfl
   ·have:=h'.1;simp[PV.plain]at this
  subst hq;have hd:diceOf (false::bs) (q::l')=diceOf bs l':=by cases q<;>rfl
  refine⟨by simp[k1],by simp[k2],λt=>?_⟩;rw[hd];cases t with
  |zero=>simp;exact h'.1
  |succ t=>simpa using k3 t
section
variable{X:Ctx}{W:Hints}{C:Orc->FuncId->List PV->Option PV}{n:Nat}
theorem start_rel{DI:List PV->Prop}{args args':List PV}{m:Mem}{fn:Func}(hfit:fitArgs (flagsOf X.diceT fn) args=true)(ha:ArgL DI m args args')(hobd:∀i l,i<m.n->m.β i=.cells l->bdL m.n m.an l):
  ∃F:Frm,F.P=X.P/\F.n0=m.n/\F.A0=m.an/\F.β0=m.β/\F.ent=⟨m.an,m.n,[]⟩/\F.rc0=m.rc/\F.DI=DI/\args'.length=fn.params.size+fn.nfree/\Rel F (startS X fn) args (λ_=>none) (entry args' m):=by
 obtain⟨k1,k2,k3⟩:=fitArgs_ok hfit ha;have hlen:(flagsOf X.diceT fn).length=fn.params.size+fn.nfree:=by simp[flagsOf]
 have hg:paramsS X.diceT fn.params.toList 0++varsS fn.nfree fn.params.size=flagsS (flagsOf X.diceT fn) 0:=by
  unfold flagsOf;rw[flagsS_append,flagsS_params,flagsS_false];simp
 let F:Frm:=⟨X.P,m.n,m.an,m.β,diceOf (flagsOf X.diceT fn) args',DI,⟨m.an,m.n,[]⟩,λ_=>none,λ_=>none,m.rc,[]⟩;have hrel:Rel F { g:=asG 0 (flagsS (flagsOf X.diceT fn) 0),bx:=[],ar:=[],ys:=[],nv:=fn.params.size+fn.nfree,kn:=[],lv:=0,site:=0,base:=0,bbase:=0,eff:=false } args (λ_=>none) (entry args' m):=by
  refine⟨by rw[k1,hlen],λi hi=>(by simp at hi),λt=>?_,rfl,λi hi=>rfl,λi b hb=>(by simp at hb),λk id hk=>(by cases hk),λk j id hk=>(by cases hk),λk a hk=>(by simp at hk),rfl,⟨Nat.le_refl _,Nat.le_refl _⟩,λe he=>(by cases he),λ_=>rfl,λ_ k id hk=>(by cases hk),λ_ k hk=>(by simp at hk),rfl,Nat.le_refl _,Nat.le_refl _,Nat.le_refl _,hobd,⟨List.nil_prefix,rfl,rfl,λi y r hy=>(by simp at hy),λi j r r' hi=>absurd (show([]:List YRec)[i]?=some r from hi) (by simp),λr hr=>absurd (show r∈([]:List YRec)from hr) (by simp)⟩⟩;simp only[Sym.get];rw[getA_as _ 0 t (Nat.zero_le _),Nat.sub_zero,List.getD_eq_getElem?_getD];show RV F _ _ ((args'[t]?).getD PV.undef);rcases Nat.lt_or_ge t (flagsOf X.diceT fn).length with hl|hl
  ·rw[flagsS_get];have e:(flagsOf X.diceT fn)[t]?=some (flagsOf X.diceT fn)[t]:=by simp[hl]
   cases hb:(flagsOf X.diceT fn)[t]with
   |true=>
    rw[hb]at e;obtain⟨g1,g2,g3⟩:=(k3 t).1 e;rw[e,g1];simp only[Option.map_some,Option.getD_some,if_true];unfold RV;exact⟨rfl,g2,g3⟩
   |false=>
    rw[hb]at e;obtain⟨a,g1,g2,g3⟩:=(k3 t).2 e;rw[e,g2];simp only[Option.map_some,Option.getD_some,Bool.false_eq_true,if_false];unfold RV;have hden:SE.den args (.var (0+t))=a:=by simp only[SE.den,List.getD_eq_getElem?_getD,Nat.zero_add,g1,Option.getD_some]
    exact⟨hden.symm,by show(args.getD (0+t) .bad).plain=true;have:args.getD (0+t) .bad=a:=hden;rw[this];exact g3⟩
  ·rw[List.getElem?_eq_none (by rw[flagsS_length];exact hl)];simp only[Option.getD_none,RV]
 refine⟨F,rfl,rfl,rfl,rfl,rfl,rfl,rfl,by rw[k2,hlen],?_⟩;unfold startS;rw[hg];exact hrel
theorem fun_coreB{DI:List PV->Prop}{R:Out->Prop}{f:FuncId}{t:Tree}{args args':List PV}{m:Mem}{fn:Func}{K:Func->Sym->M}{Q:PV->List Eff->Mem->Prop}(hm:X.P.follows .mixedOrders=true)(hC:CSound X.P DI C)(hN:NewOk X.P DI X.diceNew)(hO:OwnAll X DI C)(hfn:X.P.funcs[f]?=some fn)
  (h:compWith X W f K=.ok t) (hfit:fitArgs (flagsOf X.diceT fn) args=true) (ha:ArgL DI m args args') (hrun:Run X.P C n t args R)
  (fin:∀(F:Frm)(S:Sym)(ρ:List PV)(ids:Nat->Option Nat)(s:St)(t:Tree),F.P=X.P->F.n0=m.n->F.A0=m.an->F.β0=m.β->F.ent=⟨m.an,m.n,[]⟩->F.rc0=m.rc->K fn S=.ok t->Rel F S ρ ids s->Run X.P C n t ρ R ->
   ∃s1,Silent s s1/\∃pv,aRes X.P s1 fn.results.toList=some pv/\∃pv' m',leaves s1 pv pv' m m'/\Q pv' s1.eff m'):EBody X.P f args' m Q:=by
 intro φ vs w hmr hv
 suffices hs:(∀i l,i<m.n->m.β i=.cells l->bdL m.n m.an l)->EBody X.P f args' m Q by
  refine hs (λi l hi hb=>?_) φ vs w hmr hv;obtain⟨b,cs,e,_,_,hr⟩:=hmr.cells hi (by rw[hb];simp);rw[hb]at hr;exact bdL_of_rel (λi b hib=>Nat.lt_of_not_le λhle=>by rw[hmr.boxn i hle]at hib;cases hib) (λi b hib=>(hmr.arr i b hib).1) l _ hr
 clear hv hmr vs w φ;intro hobd;unfold compWith at h;split at h
 ·cases h
 ·rename_i fn' hfn';rw[hfn]at hfn';injection hfn' with hfn';subst hfn';split at h
  ·cases h
  ·rename_i c hc;split at h
   ·cases h
   ·rename_i hd;simp only[not_or,Bool.not_eq_false,Nat.not_lt,Bool.and_eq_true,Bool.not_eq_true']at hd;obtain⟨F,f1,f2,f3,f4,f5,f6,f7,hlen,hrel⟩:=start_rel (X:=X) hfit ha hobd;have hw:=walk_ok (X:=X) (W:=W) (C:=C) (n:=n) hm 12;have hk:Known X F.DI C n (inlN X W 12) (yldN X W 12):=f7.symm▸⟨hC,hN,inlOk_of_core hw.1,hw.2,rngOk_of_core hw.1,hO⟩;have hsem:=comp_ok (X:=X) (F:=F) f1 hm hk c h hrel hrun;refine ebody_of_sem hfn hc (by omega) hd.1.1 hd.1.2 (codeSem_post (codeSem_mono hsem λe s' hs=>?_));obtain⟨S',ρ',ids',t',e1,e2,e3,e4⟩:=hs;cases e with
    |normal=>obtain⟨s1,h1,h2⟩:=fin F S' ρ' ids' s' t' f1 f2 f3 f4 f5 f6 e1 e2 e3;exact⟨s1,h1,.inl rfl,h2⟩
    |exit i=>cases e1
    |ret=>obtain⟨s1,h1,h2⟩:=fin F S' ρ' ids' s' t' f1 f2 f3 f4 f5 f6 e1 e2 e3;exact⟨s1,h1,.inr rfl,h2⟩
theorem fun_core{DI:List PV->Prop}{R:Out->Prop}{f:FuncId}{t:Tree}{args args':List PV}{m:Mem}{fn:Func}{K:Func->Sym->M}{Q:PV->List Eff->Mem->Prop}(hm:X.P.follows .mixedOrders=true)(hC:CSound X.P DI C)(hN:NewOk X.P DI X.diceNew)(hO:OwnAll X DI C)(hfn:X.P.funcs[f]?=some fn)
  (h:compWith X W f K=.ok t) (hfit:fitArgs (flagsOf X.diceT fn) args=true) (ha:ArgL DI m args args') (hrun:Run X.P C n t args R)
  (fin:∀(F:Frm)(S:Sym)(ρ:List PV)(ids:Nat->Option Nat)(s:St)(t:Tree),F.P=X.P->F.n0=m.n->F.A0=m.an->F.β0=m.β->F.ent=⟨m.an,m.n,[]⟩->F.rc0=m.rc->K fn S=.ok t->Rel F S ρ ids s->Run X.P C n t ρ R ->
   ∃s1,Silent s s1/\∃pv,aRes X.P s1 fn.results.toList=some pv/\∃pv' m',leaves s1 pv pv' m m'/\Q pv' s1.eff m'):ECalls X.P f args' m Q:=(fun_coreB hm hC hN hO hfn h hfit ha hrun fin).calls
theorem end_rc{F:Frm}{S:Sym}{ρ:List PV}{ids:Nat->Option Nat}{s:St}{m:Mem}(h:Rel F S ρ ids s)(he:F.ent=⟨m.an,m.n,[]⟩)(hr:F.rc0=m.rc):s.m.rc=m.rc:=by rw[h.rc.rc,he,hr];simp
theorem endK_ok{R:Out->Prop}{m:Mem}{fn:Func}{F:Frm}{S:Sym}{ρ:List PV}{ids:Nat->Option Nat}{s:St}{t:Tree}(f1:F.P=X.P)(f2:F.n0=m.n)(f3:F.A0=m.an)(f4:F.β0=m.β)(f5:F.ent=⟨m.an,m.n,[]⟩)(f6:F.rc0=m.rc)
  (h1:endK X fn S=.ok t) (hr:Rel F S ρ ids s) (hrun:Run X.P C n t ρ R):
  ∃s1,Silent s s1/\∃pv,aRes X.P s1 fn.results.toList=some pv/\∃pv' m',leaves s1 pv pv' m m'/\R (.val pv')/\pv'.plain=true/\s1.eff=[]/\m'=m:=by
 unfold endK at h1;split at h1
 ·obtain⟨s2,p1,p2,S2,ρ2,ids2,t2,g1,g2,g3,g4⟩:=frzAll_ok (X:=X) h1 hr hrun;simp only[]at g1;split at g1
  ·rename_i vs2 hvs2;split at g1
   ·rename_i v hpe;injection g1 with g1;subst g1;obtain⟨q,u1,u2⟩:=one1_ok (X:=X) g2 hvs2;obtain⟨u3,u4⟩:=pe_den hpe u2;obtain⟨o,ho1,ho2⟩:=g3 orc0;simp only[eval,Option.some.injEq]at ho1;subst ho1;have heff:s2.eff=[]:=g2.eff (.inr (by rw[f3,f5]));have hn:m.n<=s2.m.n:=by rw[g2.boxn,f2];omega
    have u3':q=v.den ρ2:=u3;refine⟨s2,p1,q,u1,q,m,.inr ⟨heff,Nat.le_refl _,Nat.le_refl _,hn,(end_rc g2 f5 f6).symm,(plain_anon _ _ q u4).symm,λi hi=>.inl ⟨hi,rfl,by rw[g2.old i (by omega),f4]⟩⟩,?_,u4,heff,rfl⟩;rw[u3'];exact ho2
   ·cases g1
  ·cases g1
 ·cases h1
theorem compFun_okB{DI:List PV->Prop}{R:Out->Prop}{f:FuncId}{t:Tree}{args args':List PV}{m:Mem}{fn:Func}(hm:X.P.follows .mixedOrders=true)(hC:CSound X.P DI C)(hN:NewOk X.P DI X.diceNew)(hO:OwnAll X DI C)(hfn:X.P.funcs[f]?=some fn)
  (h:compFun X W f=.ok t) (hfit:fitArgs (flagsOf X.diceT fn) args=true) (ha:ArgL DI m args args') (hrun:Run X.P C n t args R):EBody X.P f args' m λv E m'=>R (.val v)/\v.plain=true/\E=[]/\m'=m:=by
 exact fun_coreB hm hC hN hO hfn h hfit ha hrun λF S ρ ids s t f1 f2 f3 f4 f5 f6 h1 hr hrun=>endK_ok f1 f2 f3 f4 f5 f6 h1 hr hrun
theorem compFun_ok{DI:List PV->Prop}{R:Out->Prop}{f:FuncId}{t:Tree}{args args':List PV}{m:Mem}{fn:Func}(hm:X.P.follows .mixedOrders=true)(hC:CSound X.P DI C)(hN:NewOk X.P DI X.diceNew)(hO:OwnAll X DI C)(hfn:X.P.funcs[f]?=some fn)
  (h:compFun X W f=.ok t) (hfit:fitArgs (flagsOf X.diceT fn) args=true) (ha:ArgL DI m args args') (hrun:Run X.P C n t args R):AnsR X.P f args' m λv=>R (.val v):=(compFun_okB hm hC hN hO hfn h hfit ha hrun).calls
structure DfrOk(P:Program)(f:FuncId):Prop where
 on:Sp.dfr=true
 r:∀fn c ops0 d g T,P.funcs[f]?=some fn->fn.body=some c->dfrOf c=some (ops0,d,g,T)->∀v w,RunsD P ⟨.fn (.func g) #[v],#[]⟩ w (Grows w)
theorem dfrOf_some{c:Code}{ops0:Array Oper}{d:Nat}{g:FuncId}{T:Code}(h:dfrOf c=some (ops0,d,g,T)):
  ∃i0 i1 o1 o2 cd t3,c=.seq (.region i0 ops0 false) (.seq (.region i1 #[o1,o2] false) T)/\o1.op=.makeFunc (.func g) #[] #[.tmp t3]/\o1.dst=some d/\o1.guard=none/\o2.op=.defer cd/\cd.callee=.value (.tmp d)/\cd.args=#[]/\o2.guard=none/\o2.dst=none:=by
 unfold dfrOf at h;split at h
 ·split at h
  ·split at h
   ·split at h
    ·rename_i e1 e2 e3 _ _ _ _ _ e4 e5 e6 hd;injection h with h;simp only[Prod.mk.injEq]at h;obtain⟨rfl,rfl,rfl,rfl⟩:=h;subst hd;exact⟨_,_,_,_,_,_,rfl,e1,e2,e3,e4,rfl,rfl,e6,e5⟩
    ·cases h
   ·cases h
  ·cases h
 ·cases h
theorem compDf_ok{DI:List PV->Prop}{R:Out->Prop}{f:FuncId}{t:Tree}{args args':List PV}{m:Mem}{fn:Func}(hm:X.P.follows .mixedOrders=true)(hC:CSound X.P DI C)(hN:NewOk X.P DI X.diceNew)(hO:OwnAll X DI C)(hfn:X.P.funcs[f]?=some fn)(hD:DfrOk X.P f)
  (h:compDf X W f=.ok t) (hfit:fitArgs (flagsOf X.diceT fn) args=true) (ha:ArgL DI m args args') (hrun:Run X.P C n t args R):AnsR X.P f args' m λv=>R (.val v):=by
 intro φ vs w hmr hv
 suffices hs:(∀i l,i<m.n->m.β i=.cells l->bdL m.n m.an l)->AnsR X.P f args' m λv=>R (.val v)by
  refine hs (λi l hi hb=>?_) φ vs w hmr hv;obtain⟨b,cs,e,_,_,hr⟩:=hmr.cells hi (by rw[hb];simp);rw[hb]at hr;exact bdL_of_rel (λi b hib=>Nat.lt_of_not_le λhle=>by rw[hmr.boxn i hle]at hib;cases hib) (λi b hib=>(hmr.arr i b hib).1) l _ hr
 clear hv hmr vs w φ;intro hobd;unfold compDf at h;simp only[hfn]at h;split at h
 ·cases h
 rename_i c hc;split at h
 ·cases h
 rename_i ops0 d g T hdf;split at h
 ·cases h
 rename_i hd;simp only[not_or,Bool.not_eq_false,Nat.not_lt,Nat.not_le,Bool.and_eq_true,Bool.not_eq_true',Nat.not_lt]at hd;obtain⟨⟨⟨hd0,hdT⟩,hbad⟩,hlen0,hd8⟩:=hd;obtain⟨F,f1,f2,f3,f4,f5,f6,f7,hlen,hrel⟩:=start_rel (X:=X) hfit ha hobd;have hw:=walk_ok (X:=X) (W:=W) (C:=C) (n:=n) hm 12;have hk:Known X F.DI C n (inlN X W 12) (yldN X W 12):=f7.symm▸⟨hC,hN,inlOk_of_core hw.1,hw.2,rngOk_of_core hw.1,hO⟩;have hR:=hD.r fn c ops0 d g T hfn hc hdf;obtain⟨i0,i1,o1,o2,cd,t3,rfl,q1,q2,q3,q4,q5,q6,q7,q8⟩:=dfrOf_some hdf;refine ecalls_defer hfn hc (by omega) hd0 hdT ?_ q1 q2 q3 (by omega) q4 q5 q6 q7 q8 hR ?_
 ·simp only[badC,Bool.or_eq_false_iff]at hbad⊢;refine⟨hbad.1,?_,hbad.2⟩;simp[badO,q1,q4,hD.on]
 ·refine opsW_mono (λs1 hs=>?_) _ _ (seq_ops f1 hk ops0.toList 0 h hrel hrun);obtain⟨S1,ρ1,ids1,t1,e1,e2,e3,e4⟩:=hs;have e2':=e2.put (some d) (v:=.junk) (q:=.bad) (by simp only[RV]);refine codeSem_post (codeSem_mono (comp_ok (X:=X) (F:=F) f1 hm hk T e1 e2' e3) λe s' hs=>?_);obtain⟨S',ρ',ids',t',g1,g2,g3,g4⟩:=hs;cases e with
  |normal=>obtain⟨s1,h1,h2⟩:=endK_ok f1 f2 f3 f4 f5 f6 g1 g2 g3;exact⟨s1,h1,.inl rfl,h2⟩
  |exit i=>cases g1
  |ret=>obtain⟨s1,h1,h2⟩:=endK_ok f1 f2 f3 f4 f5 f6 g1 g2 g3;exact⟨s1,h1,.inr rfl,h2⟩
theorem compFunO_ok{DI:List PV->Prop}{R:Out->Prop}{f:FuncId}{t:Tree}{args args':List PV}{m:Mem}{fn:Func}{r:Option (Nat×Nat)}(hm:X.P.follows .mixedOrders=true)(hC:CSound X.P DI C)(hN:NewOk X.P DI X.diceNew)(hO:OwnAll X DI C)(hfn:X.P.funcs[f]?=some fn)
  (h:compFunO X W r f=.ok t) (hfit:fitArgs (flagsOf X.diceT fn) args=true) (ha:ArgL DI m args args') (hrun:Run X.P C n t args R):
  ECalls X.P f args' m λv E m'=>∃p,R (.val p)/\p.plain=true/\E=[]/\m'={ m with an:=m'.an }/\m.an<=m'.an/\OwnV r p v m.an m'.an:=by
 refine fun_core hm hC hN hO hfn h hfit ha hrun λF S ρ ids s t f1 f2 f3 f4 f5 f6 h1 hr hrun=>?_;unfold endO at h1;split at h1
 ·split at h1
  ·obtain⟨s2,p1,p2,S2,ρ2,ids2,t2,g1,g2,g3,g4⟩:=frzAll_ok (X:=X) h1 hr hrun;simp only[]at g1;split at g1
   ·rename_i vs2 hvs2;split at g1
    ·rename_i k hk;split at g1
     ·rename_i a ha;split at g1
      ·cases g1
      rename_i hlst0;have hlst:a.born.lst=true:=by simpa using hlst0
      obtain⟨t3,h3,rfl⟩:=emit_ok g1;obtain⟨x,hx,hrun3⟩:=g3.prim;split at h3
      ·rename_i v hpe;injection h3 with h3;subst h3;obtain⟨o,ho1,ho2⟩:=hrun3 orc0;simp only[eval,Option.some.injEq]at ho1;subst ho1;obtain⟨q,u1,u2⟩:=one1_ok (X:=X) g2 hvs2;have heff:s2.eff=[]:=g2.eff (.inr (by rw[f3,f5]));have hn:m.n<=s2.m.n:=by rw[g2.boxn,f2];omega
       have hrc:=end_rc g2 f5 f6;obtain⟨cs,hcs⟩:=g2.arr k a ha;obtain⟨q1,q2,q3,q4,q5,q6⟩:=hcs;have hplain:=(show a.rel (S2.env ρ2 ids2) k cs from⟨q1,q2,q3,q4,q5,q6⟩).plain;have q2':a.c.den ρ2=.agg cs:=q2;have q5':isNil ρ2 a.born cs=some (ids2 k).isNone:=q5;simp only[Prim.run,frzV,q2',q5']at hx;have key:∃y an',RV F (S2.env ρ2 ids2) (.own k) y/\x.plain=true/\x.one=true/\y.one=true/\m.an<=an'/\own1 x y m.an an'/\y.anon m.n an'=y:=by
        cases hid:ids2 k with
        |none=>
         rw[hid]at hx;simp only[Option.isNone_none,Option.some.injEq]at hx;subst hx;exact⟨.snil,m.an,(by simp only[RV];exact⟨a,cs,ha,⟨q1,q2,q3,q4,q5,q6⟩,by rw[ownV_lst hlst];simp[Sym.env,hid]⟩),rfl,rfl,rfl,Nat.le_refl _,.inr ⟨rfl,rfl⟩,by simp only[PV.anon]⟩
        |some id=>
         rw[hid]at hx;simp only[Option.isNone_some]at hx;have hx:PV.sl none a.sz 0 (cs.length/a.sz) cs=x:=by
          cases hb:a.born with
          |map=>rw[hb]at hlst;cases hlst
          |it|tab _|sit=>rw[hb]at hlst;cases hlst
          |_=>rw[hb]at hx;simpa using hx
         subst hx;have hge:=(g2.idlt k id hid).1;rw[f3]at hge;exact⟨.sl (some id) a.sz 0 (cs.length/a.sz) cs,id+1,(by simp only[RV];exact⟨a,cs,ha,⟨q1,q2,q3,q4,q5,q6⟩,by rw[ownV_lst hlst];simp[Sym.env,hid]⟩),(by simpa only[PV.plain]using hplain),rfl,rfl,by omega,
          .inl ⟨a.sz,_,cs,id,rfl,rfl,hge,by omega⟩,by simp only[PV.anon];rw[if_pos (by omega),plainC_anon _ _ cs hplain]⟩
       obtain⟨y,an',w1,w2,w2',w3,w4,w5,w6⟩:=key;have hle:=Env.le_bind S2 ρ2 ids2 x true;obtain⟨v1,v2⟩:=var_ok g2 x w2;have uniq:∀{y'},RV F (S2.env ρ2 ids2) (.own k) y'->y'=y:=λh'=>by
        simp only[RV]at h' w1;obtain⟨a1,c1,b1,b2,b3⟩:=h';obtain⟨a2,c2,d1,d2,d3⟩:=w1;rw[b1]at d1;injection d1 with d1;subst d1;have:=AR.rel_of b2 d2;subst this;rw[b3,d3]
       have finish:∀p,v.den (ρ2++[x])=p->p.plain=true->OwnV r p q m.an an'->q.anon m.n an'=q->∃s1,Silent s s1/\∃pv,aRes X.P s1 fn.results.toList=some pv/\∃pv' m',leaves s1 pv pv' m m'/\∃p,R (.val p)/\p.plain=true/\s1.eff=[]/\m'={ m with an:=m'.an }/\m.an<=m'.an/\OwnV r p pv' m.an m'.an:=λp e1 e2 e3 e4=>
        ⟨s2,p1,q,u1,q,{ m with an:=an' },.inr ⟨heff,Nat.le_refl _,w4,hn,hrc.symm,e4.symm,λi hi=>.inl ⟨hi,rfl,by rw[g2.old i (by rw[f2];exact hi),f4]⟩⟩,p,by rw[←e1];exact ho2,e2,heff,rfl,w4,e3⟩
       cases r with
       |none=>
        have hv:one1 vs2=.own k:=by
         unfold ownAt at hk;split at hk
         ·injection hk with hk;subst hk;assumption
         ·rename_i e _;cases e
         ·cases hk
        simp only[ownPut,SV.pe,Option.some.injEq]at hpe;subst hpe;rw[hv]at u2;have:=uniq u2;subst this;exact finish x v2 w2 w5 w6
       |some nj=>
        obtain⟨nn,j⟩:=nj;have hv:∃l,one1 vs2=.agg l/\l[j]?=some (.own k):=by
         unfold ownAt at hk;split at hk
         ·rename_i e _;cases e
         ·rename_i n' j' l e1 e2;injection e1 with e1;injection e1 with _ e1;subst e1;split at hk
          ·split at hk
           ·rename_i hl;injection hk with hk;subst hk;exact⟨l,e2,hl⟩
           ·cases hk
          ·cases hk
         ·cases hk
        obtain⟨l,hl1,hl2⟩:=hv;rw[hl1]at u2 hpe;simp only[RV]at u2;obtain⟨l',rfl,hl'⟩:=u2;simp only[ownPut]at hpe;have hjl:j<l.length:=(List.getElem?_eq_some_iff.1 hl2).1;have hlen:=rvl_length hl';have hj':l'[j]?=some l'[j]:=by simp
        have hy:=uniq ((rvl_iff.1 hl').2 j _ _ hl2 hj').1;have hrv:RV F ((S2.bind true).env (ρ2++[x]) ids2) (.agg (l.set j (.e (.var S2.nv)))) (.agg (l'.set j x)):=by
         simp only[RV];refine⟨_,rfl,rvl_set (RVL.mono hle hl') ?_ w2' j⟩;simp only[RV];exact⟨v2.symm,v1⟩
        obtain⟨d1,d2⟩:=pe_den hpe hrv;refine finish (.agg (l'.set j x)) d1.symm d2 ⟨l'.set j x,x,y,rfl,by simp[List.getElem?_set];omega,?_,w5⟩ ?_
        ·rw[List.set_set];congr 1;rw[←hy];exact(List.set_getElem_self _).symm
        ·have hpc:plainC (l'.set j x)=true:=by simpa only[PV.plain]using d2
         simp only[PV.anon];congr 1;rw[anonL_eq];refine List.ext_getElem? λi=>?_;rw[List.getElem?_map];cases hi:l'[i]? with
         |none=>rfl
         |some z=>
          simp only[Option.map_some,Option.some.injEq];by_cases e:i=j
          ·subst e;rw[hj']at hi;injection hi with hi;rw[←hi,hy];exact w6
          ·refine plain_anon _ _ z ((plainC_iff _).1 hpc z (List.mem_of_getElem? (i:=i) ?_)).1;rw[List.getElem?_set_ne (λh=>e h.symm)];exact hi
      ·cases h3
     ·cases g1
    ·cases g1
   ·cases g1
  ·split at h1
   ·rename_i hsn;injection h1 with h1;subst h1;rename_i vs hvs _ _ _ heq;obtain⟨q,u1,u2⟩:=one1_ok (X:=X) hr hvs;rw[heq]at u2;simp only[RV,SE.den]at u2;obtain⟨rfl,_⟩:=u2;obtain⟨o,ho1,ho2⟩:=hrun orc0;simp only[eval,PE.den,SE.den,Option.some.injEq]at ho1;subst ho1;have heff:s.eff=[]:=hr.eff (.inr (by rw[f3,f5]));have hn:m.n<=s.m.n:=by rw[hr.boxn,f2];omega
    exact⟨s,Silent.refl s,.snil,u1,.snil,m,.inr ⟨heff,Nat.le_refl _,Nat.le_refl _,hn,(end_rc hr f5 f6).symm,by simp only[PV.anon],λi hi=>.inl ⟨hi,rfl,by rw[hr.old i (by rw[f2];exact hi),f4]⟩⟩,.snil,ho2,rfl,heff,rfl,Nat.le_refl _,.inr ⟨rfl,rfl⟩⟩
   ·cases h1
 ·cases h1
theorem own1_anon{p v:PV}{a a' n:Nat}(h:own1 p v a a')(hp:p.plain=true):v.anon n a=p:=by
 rcases h with⟨sz,len,cs,id,rfl,rfl,h1,h2⟩|⟨rfl,rfl⟩
 ·have hc:plainC cs=true:=by simpa only[PV.plain]using hp
  simp only[PV.anon];rw[if_neg (by omega),plainC_anon _ _ cs hc]
 ·simp only[PV.anon]
theorem ownV_anon{r:Option (Nat×Nat)}{p v:PV}{a a' n:Nat}(h:OwnV r p v a a')(hp:p.plain=true):v.anon n a=p:=by
 cases r with
 |none=>exact own1_anon h hp
 |some nj=>
  obtain⟨nn,j⟩:=nj;obtain⟨ps,x,y,rfl,h1,rfl,h2⟩:=h;have hc:plainC ps=true:=by simpa only[PV.plain]using hp
  have hx:=(plainC_iff ps).1 hc x (List.mem_of_getElem? h1);simp only[PV.anon];congr 1;rw[anonL_eq];refine List.ext_getElem? λi=>?_;rw[List.getElem?_map,List.getElem?_set];have hjl:=(List.getElem?_eq_some_iff.1 h1).1;by_cases e:j=i
  ·subst e;rw[if_pos rfl,if_pos hjl,h1];simp only[Option.map_some,own1_anon h2 hx.1]
  ·rw[if_neg e];cases hi:ps[i]? with
   |none=>rfl
   |some z=>simp only[Option.map_some,plain_anon _ _ z ((plainC_iff ps).1 hc z (List.mem_of_getElem? hi)).1]
theorem ans_of_own{R:PV->Prop}{f:FuncId}{args':List PV}{m:Mem}{r:Option (Nat×Nat)}
  (h:ECalls X.P f args' m λv E m'=>∃p,R p/\p.plain=true/\E=[]/\m'={ m with an:=m'.an }/\m.an<=m'.an/\OwnV r p v m.an m'.an):AnsR X.P f args' m R:=by
 intro φ vs w hm hv;refine(h φ vs w hm hv).mono ?_;rintro e w' ⟨v,pv,E,m',φ',rfl,hpv,hm',hstep,p,hR,hp,rfl,he,han,hov⟩;have hb0:∀i b,φ.box i=some b->i<m.n:=λi b hi=>Nat.lt_of_not_le λhle=>(by rw[hm.boxn i hle]at hi;cases hi);have ha0:∀i b,φ.arr i=some b->i<m.an:=λi b hi=>(hm.arr i b hi).1;refine⟨v,p,[],m,φ'.cut m.n m.an,rfl,?_,?_,?_,hR,hp,rfl,rfl⟩
 ·have:=VRel.anon (n:=m.n) (an:=m.an) hm' pv v hpv;rwa[ownV_anon hov hp]at this
 ·refine mrel_cut (m':=m) hm' (by rw[he]) (by rw[he];exact Nat.le_refl _) (λi hi g=>by rw[he]at g;exact g) λi vs hi hr=>?_;have hr:BRel φ' w' (m.β i) vs:=by rw[he]at hr;exact hr
  cases hc:m.β i with
  |cells l=>
   rw[hc]at hr;obtain⟨b,cs,e3,g1,g2,g3⟩:=hm.cells hi (by rw[hc];simp);rw[hc]at g3;exact VRelL.cut l vs hr (bdL_of_rel hb0 ha0 l _ g3)
  |inv I=>
   rw[hc]at hr;obtain⟨l,g1,g2,g3,g4⟩:=hr;refine⟨l,g1,g2,g3,?_⟩;have:=VRelL.anon (n:=m.n) (an:=m.an) hm' l vs g4;rwa[anonL_fixed l g2,g3]at this
  |hole=>rw[hc]at hr;exact hr.elim
 ·exact step_cut (λ_ h=>by cases h) hstep hb0 ha0
end
section
variable(P:Program)(diceT:TypeId)(tab:FuncId->Option Tree)(C0:Orc->FuncId->List PV->Option PV)(n:Nat)
def evalF:Nat->Orc->FuncId->List PV->Option PV
 |0,_,_,_=>none
 |k+1,ω,g,args=>match tab g with
  |none=>C0 ω g args
  |some t=>match P.funcs[g]? with
   |none=>none
   |some fn=>if fitArgs (flagsOf diceT fn) args=true then match eval P (evalF k) n t ω args with
     |some (.val v)=>if v.plain=true then some v else none
     |_=>none
    else none
end
structure TreeOk(P:Program)(diceT:TypeId)(diceNew:LibF)(own:FuncId->Option (Option (Nat×Nat)))(g:FuncId)(t:Tree)(X:Ctx)(W:Hints)(fn:Func):Prop where
 p:X.P=P
 dt:X.diceT=diceT
 dn:X.diceNew=diceNew
 ow:∀g' r,findOr X.ownr g'=some r->own g'=some r.1
 fu:P.funcs[g]?=some fn
 nm:fn.name ≠ "runtime.NumGoroutine"
 bd:fn.body.isSome
 tr:match own g with
  |none=>compFun X W g=.ok t\/(compDf X W g=.ok t/\DfrOk P g)
  |some r=>compFunO X W r g=.ok t
structure TabOk(P:Program)(diceT:TypeId)(diceNew:LibF)(own:FuncId->Option (Option (Nat×Nat)))(tab:FuncId->Option Tree):Prop where
 tr:∀g t,tab g=some t->∃X W fn,TreeOk P diceT diceNew own g t X W fn
 ow:∀g r,own g=some r->(tab g).isSome
theorem evalF_sound{P:Program}{diceT:TypeId}{diceNew:LibF}{own:FuncId->Option (Option (Nat×Nat))}{tab:FuncId->Option Tree}{C0:Orc->FuncId->List PV->Option PV}{n:Nat}{DI:List PV->Prop}(hm:P.follows .mixedOrders=true)(hT:TabOk P diceT diceNew own tab)(h0:CSound P DI C0)(hN:NewOk P DI diceNew):
  ∀k,CSound P DI (evalF P diceT tab C0 n k)/\∀g r,own g=some r->OwnSound P DI (evalF P diceT tab C0 n k) g r
 |0=>⟨⟨λg args h=>(by have:=h orc0;simp[evalF]at this),λω g args v h=>(by simp[evalF]at h),λω g args v h=>(by simp[evalF]at h)⟩,λg r _ args h=>(by have:=h orc0;simp[evalF]at this)⟩
 |k+1=>by
  obtain⟨hk,hko⟩:=evalF_sound (n:=n) hm hT h0 hN k;have run:∀g args t fn,tab g=some t->P.funcs[g]?=some fn->(∀ω,(evalF P diceT tab C0 n (k+1) ω g args).isSome)->fitArgs (flagsOf diceT fn) args=true/\Run P (evalF P diceT tab C0 n k) n t args λo=>∃v,o=.val v/\∃ω,evalF P diceT tab C0 n (k+1) ω g args=some v:=by
   intro g args t fn ht hfn h;have e:∀ω,evalF P diceT tab C0 n (k+1) ω g args=if fitArgs (flagsOf diceT fn) args=true then match eval P (evalF P diceT tab C0 n k) n t ω args with
     |some (.val v)=>if v.plain=true then some v else none
     |_=>none
    else none:=λω=>by simp only[evalF,ht,hfn]
   have hfit:fitArgs (flagsOf diceT fn) args=true:=by
    have:=h orc0;rw[e]at this;split at this
    ·assumption
    ·cases this
   refine⟨hfit,λω=>?_⟩;have h1:=h ω;obtain⟨v,hv⟩:=Option.isSome_iff_exists.1 h1;have h2:=hv;rw[e,if_pos hfit]at h2;split at h2
   ·rename_i v' hev;split at h2
    ·injection h2 with h2;subst h2;exact⟨_,hev,v',rfl,ω,hv⟩
    ·cases h2
   ·cases h2
  have hown:∀{X:Ctx}{g t W fn},TreeOk P diceT diceNew own g t X W fn->OwnAll X DI (evalF P diceT tab C0 n k):=λhX g' r hr=>by rw[hX.p];exact hko g' r.1 (hX.ow g' r hr)
  refine⟨⟨λg args h args' m ha=>?_,λω g args v h=>?_,λω g args v h=>?_⟩,λg r hr args h args' m ha=>?_⟩
  ·cases ht:tab g with
   |none=>
    have e:∀ω,evalF P diceT tab C0 n (k+1) ω g args=C0 ω g args:=λω=>by simp only[evalF,ht]
    have:=h0.ans g args (λω=>by rw[←e];exact h ω) args' m ha;refine this.mono ?_;rintro v E m' ⟨⟨ω,h1⟩,h2⟩;exact⟨⟨ω,by rw[e];exact h1⟩,h2⟩
   |some t=>
    obtain⟨X,W,fn,hX⟩:=hT.tr g t ht;obtain⟨hfit,hrun⟩:=run g args t fn ht hX.fu h;have ho:=hown hX;obtain⟨rfl,rfl,rfl,_,hfn,hname,hb,htr⟩:=hX;have key:AnsR X.P g args' m λv=>∃v',Out.val v=.val v'/\∃ω,evalF X.P X.diceT tab C0 n (k+1) ω g args=some v':=by
     cases hg:own g with
     |none=>
      rw[hg]at htr;rcases htr with htr|⟨htr,hD⟩
      ·exact compFun_ok hm hk hN ho hfn htr hfit ha hrun
      ·exact compDf_ok hm hk hN ho hfn hD htr hfit ha hrun
     |some r=>rw[hg]at htr;exact ans_of_own (R:=λv=>∃v',Out.val v=.val v'/\∃ω,evalF X.P X.diceT tab C0 n (k+1) ω g args=some v') (compFunO_ok hm hk hN ho hfn htr hfit ha hrun)
    refine key.mono ?_;rintro v E m' ⟨⟨v',h1,h2⟩,h3⟩;injection h1 with h1;subst h1;exact⟨h2,h3⟩
  ·simp only[evalF]at h;split at h
   ·exact h0.plain _ _ _ _ h
   ·split at h
    ·cases h
    ·split at h
     ·split at h
      ·split at h
       ·injection h with h;subst h;assumption
       ·cases h
      ·cases h
     ·cases h
  ·cases ht:tab g with
   |none=>
    simp only[evalF,ht]at h;exact h0.fn _ _ _ _ h
   |some t=>
    obtain⟨X,W,fn,hX⟩:=hT.tr g t ht;exact⟨fn,hX.fu,hX.nm,hX.bd⟩
  ·obtain⟨t,ht⟩:=Option.isSome_iff_exists.1 (hT.ow g r hr);obtain⟨X,W,fn,hX⟩:=hT.tr g t ht;obtain⟨hfit,hrun⟩:=run g args t fn ht hX.fu h;have ho:=hown hX;obtain⟨rfl,rfl,rfl,_,hfn,hname,hb,htr⟩:=hX;rw[hr]at htr;refine(compFunO_ok hm hk hN ho hfn htr hfit ha hrun).mono ?_;rintro v E m' ⟨p,⟨v',h1,ω,h2⟩,h3⟩;injection h1 with h1;subst h1;exact⟨p,ω,h2,h3⟩
end
section
open Go Go.RowKit
variable[Sp]
structure Rw where
 g:FuncId
 s:List Nat:=[]
 k:List (Nat×Nat×Skel):=[]
 o:List (Nat×Nat):=[]
 c:List (Nat×Nat):=[]
 r:List (FuncId×Option (Nat×Nat)×Nat×Bool):=[]
 i:List FuncId:=[]
 t:List (Nat×Nat×Nat):=[]
 h:List (Nat×Nat):=[]
 z:Bool:=false
 d:Bool:=false
structure Tb where
 P:Program
 dn:LibF
 il:List FuncId
 np:List (Nat×Nat×Nat)
 own:FuncId->Option (Option (Nat×Nat))
 rows:List Rw
 dt:TypeId:=23
 tb:List (TypeId×Bool):=[]
def Tb.X(T:Tb)(w:Rw):Ctx:={ P:=T.P,inl:=T.il++w.i,own:=w.o,ownc:=w.c,ownr:=w.r,hds:=w.h,tabs:=T.tb,soft:=w.z,diceT:=T.dt,diceNew:=T.dn }
def Tb.W(T:Tb)(w:Rw):Hints:={ sites:=w.s,np:=T.np,thaw:=w.t,skel:=w.k }
def trO:M->Option Tree
 |.ok t=>some t
 |_=>none
def Tb.tree(T:Tb)(w:Rw):Option Tree:=match T.own w.g with
 |none=>if w.d=true then trO (compDf (T.X w) (T.W w) w.g)else trO (compFun (T.X w) (T.W w) w.g)
 |some q=>trO (compFunO (T.X w) (T.W w) q w.g)
def Tb.find(T:Tb):List Rw->FuncId->Option Tree
 |[],_=>none
 |w::l,g=>if w.g=g then T.tree w else T.find l g
def Tb.tab(T:Tb)(g:FuncId):Option Tree:=T.find T.rows g
def Tb.ok(T:Tb):Bool:=T.rows.all λw=>w.r.all (λx=>decide (T.own x.1=some x.2.1))&&(match T.P.funcs[w.g]? with
 |some fn=>fn.name != "runtime.NumGoroutine" && fn.body.isSome
 |none=>false)
theorem Tb.find_mem{T:Tb}{g:FuncId}{t:Tree}:∀{l:List Rw},T.find l g=some t->∃w∈l,w.g=g/\T.tree w=some t
 |[],h=>by cases h
 |w::l,h=>by
  simp only[Tb.find]at h;split at h
  ·exact⟨w,by simp,by assumption,h⟩
  ·obtain⟨w',hm,h⟩:=Tb.find_mem h;exact⟨w',by simp[hm],h⟩
theorem findOr_mem{g:FuncId}{r:Option (Nat×Nat)×Nat×Bool}:∀{l:List (FuncId×Option (Nat×Nat)×Nat×Bool)},findOr l g=some r->(g,r)∈l
 |[],h=>by cases h
 |(f,q)::l,h=>by
  simp only[findOr]at h;split at h
  ·rename_i e;injection h with h;subst e h;simp
  ·simp[findOr_mem h]
theorem trO_some{m:M}{t:Tree}(h:trO m=some t):m=.ok t:=by
 unfold trO at h;split at h
 ·injection h with h;rw[h]
 ·cases h
section
theorem Tb.tabOk(T:Tb)(h:T.ok=true)(hD:∀w∈T.rows,w.d=true->DfrOk T.P w.g)(ho:∀g r,T.own g=some r->(T.tab g).isSome):TabOk T.P T.dt T.dn T.own T.tab:=by
 refine⟨λg t ht=>?_,ho⟩;obtain⟨w,hm,rfl,hw⟩:=Tb.find_mem ht;have hk:=List.all_eq_true.1 h w hm;simp only[Bool.and_eq_true]at hk;obtain⟨h1,h2⟩:=hk;split at h2
 ·rename_i fn hfn;simp only[Bool.and_eq_true,bne_iff_ne,ne_eq]at h2;refine⟨T.X w,T.W w,fn,rfl,rfl,rfl,λg' r hr=>?_,hfn,h2.1,h2.2,?_⟩
  ·have:=List.all_eq_true.1 h1 _ (findOr_mem hr);simpa using this
  ·unfold Tb.tree at hw;split at hw
   ·rename_i e;try rw[e]
    split at hw
    ·exact .inr ⟨trO_some hw,hD w hm (by assumption)⟩
    ·exact .inl (trO_some hw)
   ·rename_i q e;first|exact trO_some hw|(rw[e];exact trO_some hw)
 ·cases h2
end
def tv(i:Nat):PE:=.e (.var i)
def tp(i j:Nat):PE:=.e (.proj (.var i) j)
def tn(k:Int):PE:=.e (.cst (.int .i64 k))
def hp(i:Nat):Pos:=⟨false,i,0,none,false⟩
def hs(a b:Nat)(p:List Pos)(l:List Nat)(ar pr:List Nat:=[]):Nat×Nat×Skel:=(a,b,⟨p,ar,l,pr,false⟩)
end
end Go.Proofs.Ytjfejoadcdoobaa
