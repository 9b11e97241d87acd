/- Part of the proof of RuleBack. No condition. -/
import Derived.Test.YtlminnpaeaganaaGreatMBackAS
namespace Go.Proofs.YtlminnpaeaganaaGreat
set_option maxRecDepth 100000
set_option linter.all false
section
open Go Go.RowKit
variable[cQ]
section
variable{X:Ctx}{F:cP}{C:b2->FuncId->List aa->Option aa}{n:Nat}{R:Out->Prop}{S:Sym}{ρ:List aa}{ids:Nat->Option Nat}{s:aA}{K:Sym->M}{t:Tree}{o:Oper}{m0:Mem}{inl yl:fh}{lx:Option Nat}{key:Nat}{E:Env}{ops:Array Oper}{e2:Nat}
theorem abm{s:aA}{d:Nat}{v:aa}(h:s.g d=v):s.put (some d) v=s:=by
 cases s with
 |mk g m bg bb=>
  simp only[aA.put]at h⊢;congr 1;funext u;split
  ·rename_i e;rw[e];exact h.symm
  ·rfl
theorem uz(ad:Rel F S ρ ids s){d:Nat}{b:Bool}(h:s.g d=.bool b):Rel F (S.put (some d) (.e (.bu (.bool b)))) ρ ids s:=by
 have:=ad.put (some d) (v:=.e (.bu (.bool b))) (q:=.bool b) (by unfold a0;exact⟨rfl,rfl⟩);rwa[abm h]at this
theorem PU(ad:Rel F S ρ ids s)(d:Option Tmp):Rel F (S.put d .undef) ρ ids (s.put d .undef):=ad.put d (by simp only[a0])
theorem pU{P:Program}{K fy:aA->Prop}(aq:∀s,K s->fy s):∀(l:List Oper)(s:aA),h1 P ops l s K->h1 P ops l s fy
 |[],s,h=>aq s h
 |o::l,s,h=>Hy h (λ⟨s1,U,ab⟩=>⟨s1,U,uC (λs' _ h=>pU aq l s' h) ab⟩) (λh=>pU aq l _ h)
theorem Ez{x:aR}{a b:M}(h:FG x a b=.ok t):∃a' a6,a=.ok a'/\b=.ok a6/\t=.ite x a' a6:=by
 unfold FG at h;split at h
 ·rename_i a' a6;injection h with h;exact⟨a',a6,rfl,rfl,h.symm⟩
 ·cases h
 ·cases h
theorem AU(aw:F.P=X.P)(aq:ri X F.DI C n inl yl):∀(l:List Oper)(i:Nat){S:Sym}{ρ:List aa}{ids:Nat->Option Nat}{s:aA}{t:Tree},kh X inl yl none ops e2 l i S K=.ok t->Rel F S ρ ids s->bN X.P C n t ρ R ->
  h1 X.P ops l s λs'=>hS X F C n R K S ρ s'
 |[],i,S,ρ,ids,s,t,h,ad,aB=>by
  simp only[kh]at h;exact⟨S,ρ,ids,t,h,ad,aB,Ext.refl S ρ⟩
 |o::l,i,S,ρ,ids,s,t,h,ad,aB=>by
  have run:∀{S:Sym}{t:Tree},sQ X inl yl none (e2*1000+i) o S (λS=>kh X inl yl none ops e2 l (i+1) S K)=.ok t->Rel F S ρ ids s->bN X.P C n t ρ R ->
    ∃s1,dW s s1/\eQ X.P s1 o λs'=>h1 X.P ops l s' λs'=>hS X F C n R K S ρ s':=λ{S t} h ad aB=>by
   obtain⟨s1,cy,dM⟩:=aeb aw aq h ad aB;refine⟨s1,cy,uC (λs' _ ao=>?_) dM⟩;obtain⟨br,b1,dK,bw,U,ab,al,aJ⟩:=ao;exact pU (λl6 h=>nL aJ h) l s' (AU aw aq l (i+1) U ab al)
  have skip:∀{S:Sym}{t:Tree},kh X inl yl none ops e2 l (i+1) (S.put o.dst .undef) K=.ok t->Rel F S ρ ids s->bN X.P C n t ρ R->h1 X.P ops l (s.put o.dst .undef) λs'=>hS X F C n R K S ρ s':=λ{S t} h ad aB=>
   pU (λl6 h=>nL ((Ext.refl S ρ).put _ _) h) l _ (AU aw aq l (i+1) h (PU ad o.dst) aB)
  have back:∀{d:Nat}{v:aL}{s':aA},hS X F C n R K (S.put (some d) v) ρ s'->hS X F C n R K S ρ s':=λh=>nL ((Ext.refl S ρ).put _ _) h;simp only[kh]at h;simp only[h1,ld];split at h
  ·rename_i aN;simp only[aN];exact run h ad aB
  ·rename_i j want aN;simp only[aN];split at h
   ·rename_i aV;simp only[aV];exact skip h ad aB
   ·rename_i d aV;simp only[aV];have hB:=ad.slot d;split at h
    ·rename_i ai;rw[ai]at hB;simp only[a0]at hB;simp only[hB];exact skip h ad aB
    ·rename_i b ai;rw[ai]at hB;simp only[a0,aR.den]at hB;simp only[hB.1];split at h
     ·rename_i hb;rw[if_pos hb];exact run h ad aB
     ·rename_i hb;rw[if_neg hb];exact skip h ad aB
    ·rename_i x _ ai;rw[ai]at hB;simp only[a0]at hB;cases want with
     |true=>
      simp only[if_true]at h;obtain⟨a,b,au,hb,rfl⟩:=Ez h;rcases aB.ite with⟨U,ab⟩|⟨U,ab⟩
      ·have e:s.g d=.bool true:=by rw[hB.1];exact U
       simp only[e,if_true];obtain⟨s1,cy,dM⟩:=run au (uz ad e) ab;exact⟨s1,cy,uC (λs' _ h=>pU (λl6 h=>back h) l s' h) dM⟩
      ·have e:s.g d=.bool false:=by rw[hB.1];exact U
       simp only[e,Bool.false_eq_true,if_false];exact pU (λl6 h=>back h) l _ (skip hb (uz ad e) ab)
     |false=>
      simp only[Bool.false_eq_true,if_false]at h;obtain⟨a,b,au,hb,rfl⟩:=Ez h;rcases aB.ite with⟨U,ab⟩|⟨U,ab⟩
      ·have e:s.g d=.bool true:=by rw[hB.1];exact U
       simp only[e,Bool.true_eq_false,if_false];exact pU (λl6 h=>back h) l _ (skip au (uz ad e) ab)
      ·have e:s.g d=.bool false:=by rw[hB.1];exact U
       simp only[e,if_true];obtain⟨s1,cy,dM⟩:=run hb (uz ad e) ab;exact⟨s1,cy,uC (λs' _ h=>pU (λl6 h=>back h) l s' h) dM⟩
    ·cases h
def vj(X:Ctx)(F:cP)(C:b2->FuncId->List aa->Option aa)(n:Nat)(R:Out->Prop)(K:Sym->M)(S:Sym)(ρ:List aa)(b:Nat)(m0:Mem)(s':aA):Prop:=hS X F C n R K S ρ s'/\lf F (some b) m0 s'
def n5(X:Ctx)(C:b2->FuncId->List aa->Option aa):l0:=λg args an v eR=>match mW X.nb g with
 |none=>eR=an/\v.plain=true/\∃ω,C ω g (args.map Bp)=some v
 |some r=>∃p ω,C ω g (args.map Bp)=some p/\p.plain=true/\an<=eR/\rD r.1 p v an eR
theorem PV{DI:List aa->Prop}(hC:jq X.P DI C)(ar:∀g r,mW X.nb g=some r->wi X.P DI C g r.1){g:FuncId}{args args':List aa}(au:∀m,pw m0 m->im DI m args args')(oE:∀ω,(C ω g args).isSome)(an:Nat)(nk:∀r,mW X.nb g=some r->∀ω p,C ω g args=some p->∃v,rD r.1 p v an (an+1)):EB X.P m0 (n5 X C) g args' an:=by
 have aV:args'.map Bp=args:=Dq (au m0 ⟨Nat.le_refl _,λ_ _=>rfl⟩);unfold EB n5;cases aQ:mW X.nb g with
 |none=>
  simp only[];have agZ:=λm hm=>hC.zG g args oE args' m (au m hm);refine⟨?_,λm hm l7=>(agZ m hm).mono ?_⟩
  ·obtain⟨v,ai⟩:=Option.isSome_iff_exists.1 (oE gP);exact⟨v,an,rfl,hC.plain _ _ _ _ ai,gP,by rw[aV];exact ai⟩
  ·rintro v E m' ⟨⟨ω,ai⟩,ae,rfl,rfl⟩;exact⟨rfl,rfl,Nat.le_refl _,by rw[←l7],ae,ω,by rw[aV];exact ai⟩
 |some r=>
  simp only[];refine⟨?_,λm hm l7=>(ar g r aQ args oE args' m (au m hm)).mono ?_⟩
  ·obtain⟨v,ai⟩:=Option.isSome_iff_exists.1 (oE gP);obtain⟨y,aF⟩:=nk r aQ gP v ai;exact⟨y,an+1,v,gP,by rw[aV];exact ai,hC.plain _ _ _ _ ai,by omega,aF⟩
  ·rintro v E m' ⟨p,ω,ai,ae,rfl,eX,ag0,nj⟩;exact⟨rfl,eX,ag0,p,ω,by rw[aV];exact ai,ae,by omega,by rw[←l7];exact nj⟩
end
end
section
open Go Go.RowKit
variable[cQ]
section
variable{X:Ctx}{F:cP}{C:b2->FuncId->List aa->Option aa}{n:Nat}{R:Out->Prop}{S:Sym}{ρ:List aa}{ids:Nat->Option Nat}{s:aA}{K:Sym->M}{t:Tree}{o:Oper}{m0:Mem}{inl yl:fh}{b:Nat}{key:Nat}{E:Env}{ops:Array Oper}{e2:Nat}
def qf(X:Ctx)(F:cP)(C:b2->FuncId->List aa->Option aa)(n:Nat)(R:Out->Prop)(K:Sym->M)(S:Sym)(ρ:List aa)(b:Nat)(m0:Mem)(s:aA)(o:Oper):Prop:=mY X.P m0 (n5 X C) s o λs'=>vj X F C n R K S ρ b m0 s'
def hX(o:Oper):Bool:=match o.op with
 |.alloc _ | .box _ _ | .store _ _ _=>false
 |.call c=>match c.callee with
  |.value _=>false
  |_=>true
 |_=>true
theorem AP(aI:lf F (some b) m0 s)(d:Option Tmp)(v:aa):lf F (some b) m0 (s.put d v):=by grind [lf,aA.aeg]
theorem jl(aq:hX o=true)(aI:lf F (some b) m0 s)(h:jr X F C n R K S ρ s m0 o):qf X F C n R K S ρ b m0 s o:=by
 obtain⟨pv,U,ab⟩:=h;unfold qf mY;unfold hX at aq;split at aq
 ·cases aq
 ·cases aq
 ·cases aq
 ·rename_i c aE;simp only[aE];split at aq
  ·cases aq
  ·split
   ·grind
   ·exact⟨pv,U,ab,AP aI _ _⟩
 ·split
  ·grind
  ·grind
  ·grind
  ·grind
  ·exact⟨pv,U,ab,AP aI _ _⟩
theorem Nd(aI:lf F (some b) m0 s)(d:Option Tmp)(l:List aa):lf F (some b) m0 (s.gu d l):=by
 obtain⟨U,ab,al⟩:=aI;refine⟨U,by grind [aA.OQ],λi hi=>?_⟩;rw[aA.OQ];grind [qK]
theorem Yk{l af:List aa}(h:l.length=af.length):fa l 0 af=af:=by grind [fa]
theorem Mu{c:Call}{f:Operand}{g:FuncId}{caps args:List aa}(hC:jq X.P F.DI C)(ar:∀g r,mW X.nb g=some r->wi X.P F.DI C g r.1)(fu:mW X.nb g=none)(aE:o.op=.call c)(de:c.callee=.value f)(aQ:s.ay f=.fn g caps)(aI:lf F (some b) m0 s)
  (au:∀m,pw m0 m->im F.DI m args (c.args.toList.map s.ay++caps)) {bw:Tree} (oE:∀ω,(C ω g args).isSome) (aB:∀ω v,C ω g args=some v->bN X.P C n bw (ρ++[v]) R) (ad:Rel F S ρ ids s) (h:K (S.var.put o.dst (.e (.var S.cd)))=.ok bw):qf X F C n R K S ρ b m0 s o:=by
 unfold qf mY;simp only[aE,de,aQ];obtain⟨v0,pD⟩:=Option.isSome_iff_exists.1 (oE gP);refine⟨hC.fn _ _ _ _ pD,PV hC ar au oE _ (λr ad=>by grind),?_⟩;intro v eR ek;unfold n5 at ek;rw[fu]at ek;obtain⟨rfl,ae,ω,ai⟩:=ek;rw[Dq (au m0 ⟨Nat.le_refl _,λ_ _=>rfl⟩)]at ai;have ao:({ s with m:={ s.m with an:=s.m.an } }:aA)=s:=rfl;have hb:=ad.bind v false (by simp);obtain⟨g1,a2⟩:=fO ad v ae;exact⟨⟨_,_,ids,bw,h,hb.put o.dst (by exact⟨a2.symm,g1⟩),aB ω v ai,(Ext.bind S ρ v false).put _ _⟩,AP aI _ _⟩
theorem Wy{c:Call}{f:Operand}{g:FuncId}{caps args:List aa}{r:Option (Nat×Nat)×Nat×Bool}(hC:jq X.P F.DI C)(ar:∀g r,mW X.nb g=some r->wi X.P F.DI C g r.1)(zV:mW X.nb g=some r)(aE:o.op=.call c)(de:c.callee=.value f)(aQ:s.ay f=.fn g caps)(aI:lf F (some b) m0 s)
  (au:∀m,pw m0 m->im F.DI m args (c.args.toList.map s.ay++caps)) {bw:Tree} (oE:∀ω,(C ω g args).isSome) (aB:∀ω v,C ω g args=some v->bN X.P C n bw (ρ++[v]) R) (ad:Rel F S ρ ids s) (h:uI r (.var S.cd) o.dst S.var K=.ok bw):qf X F C n R K S ρ b m0 s o:=by
 unfold qf mY;simp only[aE,de,aQ];obtain⟨v0,pD⟩:=Option.isSome_iff_exists.1 (oE gP);refine⟨hC.fn _ _ _ _ pD,PV hC ar au oE _ (λbR ir ω p ae=>?_),?_⟩
 ·rw[zV]at ir;injection ir with ir;subst ir;exact Wa (X:=X) h ad (aB ω p ae) (hC.plain _ _ _ _ ae) _
 ·intro v eR ek;unfold n5 at ek;rw[zV]at ek;obtain⟨p,ω,ai,ae,l7,nj⟩:=ek;rw[Dq (au m0 ⟨Nat.le_refl _,λ_ _=>rfl⟩)]at ai;obtain⟨pK,pL,uZ,tO,k1,bf,bP,cX⟩:=NP (X:=X) (m':={ s.m with an:=eR }) h ad (aB ω p ai) ae nj rfl l7;exact⟨⟨pK,pL,uZ,tO,k1,bf,bP,cX⟩,AP (s:={ s with m:={ s.m with an:=eR } }) ⟨aI.1,aI.2.1,aI.2.2⟩ _ _⟩
theorem NT{DI:List aa->Prop}{m:Mem}:∀{b:List aa},bG b=true->im DI m b b
 |[],_=>rfl
 |q::b,h=>by
  simp[bG]at h;exact⟨q,b,rfl,.inl ⟨rfl,h.1.1⟩,NT h.2⟩
theorem Nf{DI:List aa->Prop}{m:Mem}:∀{a a' b a6:List aa},im DI m a a'->im DI m b a6->im DI m (a++b) (a'++a6)
 |[],a',b,a6,h,k=>by grind [im]
 |p::a,a',b,a6,⟨q,aG,e,U,ab⟩,k=>by subst e;exact⟨q,aG++a6,rfl,U,Nf ab k⟩
theorem HY{ck:List Nat}{fy:Sym->M}(h:thaw (some b) key ck S fy=.ok t):fy S=.ok t:=by
 unfold thaw at h;split at h
 ·exact h
 trivial
theorem abn{c:Call}{f:Operand}(aq:ri X F.DI C n inl yl)(aE:o.op=.call c)(de:c.callee=.value f)(h:AK X inl yl (some b) key o f c.args.toList S K=.ok t)(ad:Rel F S ρ ids s)(aI:lf F (some b) m0 s)(aB:bN X.P C n t ρ R):qf X F C n R K S ρ b m0 s o:=by
 unfold AK at h;split at h
 ·split at h
  ·split at h
   ·cases h
   ·split at h
    ·trivial
    ·split at h
     ·trivial
     split at h
     ·trivial
     split at h
     ·grind
     ·have h:=HY h;split at h
      ·rename_i g' afq pJ;split at h
       ·rename_i CB;subst CB;split at h
        ·rename_i ps gy;obtain⟨bw,a1,h⟩:=EO h;have eH:=ad.ay f;rw[pJ]at eH;obtain⟨aG,e,ak⟩:=eH;subst h;obtain⟨U,ab⟩:=aB.call;split at a1
         ·rename_i r Bq;split at a1
          ·exact Wy (args:=ep ρ ps) aq.c aq.own Bq aE de e aI (λm hm=>uo ad aI hm gy (Ak (qX ad _) (yj ak))) U ab ad a1
          ·all_goals trivial
         ·rename_i Bq;exact Mu (args:=ep ρ ps) aq.c aq.own Bq aE de e aI (λm hm=>uo ad aI hm gy (Ak (qX ad _) (yj ak))) U ab ad a1
        ·cases h
       ·cases h
      ·cases h
  ·cases h
 ·split at h
  ·cases h
  rename_i KE;have KE:X.nb=[]:=by simpa using KE
  have h:=HY h;split at h
  ·rename_i x aj;split at h
   ·rename_i ps gy;obtain⟨bw,a1,h⟩:=EO h;subst h;obtain⟨g,caps,e,U,ab⟩:=aB.kL;have eH:=ad.ay f;rw[aj]at eH;have e':s.ay f=.fn g caps:=by rw[eH.1];exact e
    have cD:(s.ay f).plain=true:=by rw[eH.1];exact aR.jJ eH.2
    rw[e']at cD;have LG:bG caps=true:=by simpa only[aa.plain]using cD
    exact Mu (args:=ep ρ ps++caps) aq.c aq.own (by rw[KE];rfl) aE de e' aI (λm hm=>Nf (uo ad aI hm gy (qX ad _)) (NT LG)) U ab ad a1
   ·cases h
  ·cases h
 ·cases h
 ·cases h
theorem aec(aw:F.P=X.P)(aq:ri X F.DI C n inl yl)(h:sQ X inl yl (some b) key o S K=.ok t)(ad:Rel F S ρ ids s)(aI:lf F (some b) m0 s)(aB:bN X.P C n t ρ R):qf X F C n R K S ρ b m0 s o:=by
 unfold sQ at h;split at h
 ·rename_i x aE;exact jl (by simp[hX,aE]) aI (ic h ad aB (by grind [bV]) (ad.ay x))
 ·rename_i x aE;exact jl (by simp[hX,aE]) aI (ic h ad aB (by grind [bV]) (ad.ay x))
 ·grind [jl,hX,Q1]
 ·rename_i op ty x y Gl aE;split at h
  ·grind [jl,hX,R2]
  ·cases h
 ·rename_i ty x aE;split at h
  ·rename_i b ae;obtain⟨e,_⟩:=ad.cu ae;exact jl (by simp[hX,aE]) aI (ic h ad aB (pv:=.bool !b) (by simp only[bV,aE,e];rfl) (by trivial))
  ·grind [jl,hX,E9]
  ·cases h
 ·rename_i op ty x _ aE;split at h
  ·grind [jl,hX,E9]
  ·cases h
 ·rename_i a b x aE;split at h
  ·grind [jl,hX,Q4]
  ·cases h
 ·grind [jl,hX,R0]
 ·grind [jl,hX,R1]
 ·grind [jl,hX,PN]
 ·grind [jl,hX,OM]
 ·grind [jl,hX,MI]
 ·rename_i ty x i aE;split at h
  ·grind [jl,hX,PO]
  ·cases h
 ·grind [jl,hX,Q3]
 ·rename_i ty x y aE;unfold DC at h;split at h
  ·cases h
  ·rename_i aV;have nX:o.dst=none:=by simp_all
   have c1:(X.P.info? ty).isSome:=by cases bq:X.P.info? ty<;>simp[bq]at aV⊢
   split at h
   ·rename_i i off aj;obtain⟨aK,aO,bS,b8,l,en,l9,L6,ue⟩:=NO (lx:=some b) aj h ad aB;obtain⟨rfl,BW,sh⟩:=L6 b rfl;unfold qf mY;simp only[aE];refine⟨nX,c1,bS,b8,F.n0+i,l,aK,by rw[aI.1];omega,by rw[ad.dt];omega,en,sh,?_⟩;rw[Yk sh]at ue;refine⟨ue,aI.1,aI.2.1,λj aC=>?_⟩;have jB:j<F.n0+b:=by rw[←aI.1];exact aC
    simp only[aA.hq,qK _ _ _ _ (by omega:j≠F.n0+i)];exact aI.2.2 j aC
   ·simp only[Option.isSome_some,true_or,if_true]at h;cases h
   ·injection h with h;grind [QZ]
   ·cases h
 ·rename_i ty x aE;obtain⟨c,ba,bY,t1,U,ab,al,aJ,bm,bI,cS⟩:=Ax h ad (ad.ay x) aB;unfold qf mY;simp only[aE];refine⟨cS,⟨ba.gu o.dst c,bY,ids,t1,U,ab.gu o.dst bI,al,aJ.trans ?_⟩,Nd aI _ _⟩;rw[HU];have aj:Ext ba bY (ba.mq c) bY:=⟨List.prefix_refl _,rfl,rfl,rfl,rfl,rfl,by simp[Sym.mq],rfl⟩;exact aj.put _ _
 ·rename_i ty aE;split at h
  ·rename_i z bO;split at h
   ·rename_i ae;unfold qf mY;simp only[aE];refine⟨z,bO,⟨S.gu o.dst (oJ z),ρ,ids,t,h,ad.gu o.dst (wB ae),aB,?_⟩,Nd aI _ _⟩;rw[HU];have aj:Ext S ρ (S.mq (oJ z)) ρ:=⟨List.prefix_refl _,rfl,rfl,rfl,rfl,rfl,by simp[Sym.mq],rfl⟩;exact aj.put _ _
   ·cases h
  ·cases h
 ·grind [jl,hX,PQ]
 ·grind [jl,hX,VM]
 ·rename_i ty l c aE;simp only[D8,Option.isSome_some,if_true]at h;cases h
 ·rename_i ty x lo hi aE;unfold HS at h;have h:=HY h;split at h
  ·grind [jl,hX,ok_slice]
  ·cases h
 ·rename_i f first caps aE
  split at h
  ·cases h
  grind [jl,hX,M9]
 ·rename_i c aE;split at h
  ·rename_i f de;exact abn aq aE de h ad aI aB
  ·rename_i de;split at h
   ·rename_i ty x a1 aj;exact jl (by simp[hX,aE,de]) aI (R6 aE de a1 aj h ad aB)
   ·cases h
  ·rename_i de;split at h
   ·rename_i l ak;exact jl (by simp[hX,aE,de]) aI (R4 aE de ak h ad aB)
   ·cases h
  ·rename_i de;split at h
   ·rename_i l ak;exact jl (by simp[hX,aE,de]) aI (R5 aE de ak h ad aB)
   ·cases h
  ·rename_i de;split at h
   ·split at h
    ·simp only[Dl,Option.isSome_some,if_true]at h;cases h
    ·cases h
   ·cases h
  ·cases h
 ·simp[Dc,die]at h
 ·simp[CZ,die]at h
 ·simp[Dm,die]at h
 ·simp[D9,die]at h
 ·simp[DD,die]at h
 ·simp only[pure,Except.pure,Except.ok.injEq]at h;subst h;obtain⟨o,ar,_⟩:=aB gP;simp[eval]at ar
 ·simp only[pure,Except.pure,Except.ok.injEq]at h;subst h;obtain⟨o,ar,_⟩:=aB gP;simp[eval]at ar
 ·cases h
theorem HZ{ba:Sym}{bY:List aa}{s':aA}(aj:Ext S ρ ba bY)(h:vj X F C n R K ba bY b m0 s'):vj X F C n R K S ρ b m0 s':=⟨nL aj h.1,h.2⟩
theorem Eo(aw:F.P=X.P)(aq:ri X F.DI C n inl yl):∀(l:List Oper)(i:Nat){S:Sym}{ρ:List aa}{ids:Nat->Option Nat}{s:aA}{t:Tree},kh X inl yl (some b) ops e2 l i S K=.ok t->Rel F S ρ ids s->lf F (some b) m0 s->bN X.P C n t ρ R ->
  kO X.P m0 (n5 X C) ops l s λs'=>vj X F C n R K S ρ b m0 s'
 |[],i,S,ρ,ids,s,t,h,ad,aI,aB=>by exact⟨⟨S,ρ,ids,t,h,ad,aB,Ext.refl S ρ⟩,aI⟩
 |o::l,i,S,ρ,ids,s,t,h,ad,aI,aB=>by
  have run:∀{S:Sym}{t:Tree},sQ X inl yl (some b) (e2*1000+i) o S (λS=>kh X inl yl (some b) ops e2 l (i+1) S K)=.ok t->Rel F S ρ ids s->bN X.P C n t ρ R ->
    mY X.P m0 (n5 X C) s o λs'=>kO X.P m0 (n5 X C) ops l s' λs'=>vj X F C n R K S ρ b m0 s':=λ{S t} h ad aB=>
   DJ (λs' ao=>by
    obtain⟨⟨br,b1,dK,bw,U,ab,al,aJ⟩,bm⟩:=ao;exact sC (λl6 h=>HZ aJ h) l s' (Eo aw aq l (i+1) U ab bm al)) (aec aw aq h ad aI aB)
  have skip:∀{S:Sym}{t:Tree},kh X inl yl (some b) ops e2 l (i+1) (S.put o.dst .undef) K=.ok t->Rel F S ρ ids s->bN X.P C n t ρ R->kO X.P m0 (n5 X C) ops l (s.put o.dst .undef) λs'=>vj X F C n R K S ρ b m0 s':=λ{S t} h ad aB=>
   sC (λl6 h=>HZ ((Ext.refl S ρ).put _ _) h) l _ (Eo aw aq l (i+1) h (PU ad o.dst) (AP aI _ _) aB)
  have back:∀{d:Nat}{v:aL}{s':aA},vj X F C n R K (S.put (some d) v) ρ b m0 s'->vj X F C n R K S ρ b m0 s':=λh=>HZ ((Ext.refl S ρ).put _ _) h;simp only[kh]at h;simp only[kO,ld];split at h
  ·grind
  ·rename_i j want aN;simp only[aN];split at h
   ·grind
   ·rename_i d aV;simp only[aV];have hB:=ad.slot d;split at h
    ·grind [a0]
    ·grind [a0,aR.den]
    ·rename_i x _ ai;rw[ai]at hB;cases want with
     |true=>
      obtain⟨a,b,au,hb,rfl⟩:=Ez h;rcases aB.ite with⟨U,ab⟩|⟨U,ab⟩
      ·have e:s.g d=.bool true:=by rw[hB.1];exact U
       simp only[e,if_true];exact DJ (λs' h=>sC (λl6 h=>back h) l s' h) (run au (uz ad e) ab)
      ·have e:s.g d=.bool false:=by rw[hB.1];exact U
       simp[e,if_false];exact sC (λl6 h=>back h) l _ (skip hb (uz ad e) ab)
     |false=>
      obtain⟨a,b,au,hb,rfl⟩:=Ez h;rcases aB.ite with⟨U,ab⟩|⟨U,ab⟩
      ·have e:s.g d=.bool true:=by rw[hB.1];exact U
       simp[e,if_false];exact sC (λl6 h=>back h) l _ (skip au (uz ad e) ab)
      ·have e:s.g d=.bool false:=by rw[hB.1];exact U
       simp only[e,if_true];exact DJ (λs' h=>sC (λl6 h=>back h) l s' h) (run hb (uz ad e) ab)
    ·cases h
where
 DJ {s:aA} {o:Oper} {K fy:aA->Prop} (aq:∀s,K s->fy s) (h:mY X.P m0 (n5 X C) s o K):mY X.P m0 (n5 X C) s o fy:=by
  unfold mY at *;split at h
  ·obtain⟨z,U,ab⟩:=h;exact⟨z,U,aq _ ab⟩
  ·exact⟨h.1,aq _ h.2⟩
  ·obtain⟨U,ab,al,aJ,id,l,bm,bI,cS,et,gp,h7⟩:=h;exact⟨U,ab,al,aJ,id,l,bm,bI,cS,et,gp,aq _ h7⟩
  ·split at h
   ·split at h
    ·exact⟨h.1,h.2.1,λv eR ek=>aq _ (h.2.2 v eR ek)⟩
    ·exact h.elim
   ·obtain⟨v,U,ab⟩:=h;exact⟨v,U,aq _ ab⟩
  ·obtain⟨v,U,ab⟩:=h;exact⟨v,U,aq _ ab⟩
 sC {K fy:aA->Prop} (aq:∀s,K s->fy s):∀(l:List Oper)(s:aA),kO X.P m0 (n5 X C) ops l s K->kO X.P m0 (n5 X C) ops l s fy
  |[],s,h=>aq s h
  |o::l,s,h=>Hy h (DJ λs' h=>sC aq l s' h) (λh=>sC aq l _ h)
end
end
section
open Go Go.RowKit
variable[cQ]
theorem RI{a b:aa}(h:Cx a b=true):a=b:=by
 unfold Cx at h;split at h
 ·simp only[Bool.and_eq_true,decide_eq_true_eq]at h;rw[h.1,h.2]
 ·simp only[beq_iff_eq]at h;rw[h]
 all_goals first|rfl|cases h
theorem aR.dh:∀{x y:aR},x.b y=true->x=y
 |.var i,y,h=>by cases y<;>simp[aR.b]at h;rw[h]
 |.proj x j,y,h=>by
  cases y<;>simp[aR.b]at h;rw[h.1,aR.dh h.2]
 |.bu v,y,h=>by
  cases y<;>simp[aR.b]at h;rw[RI h]
theorem e9.dh{x y:e9}(h:x.b y=true):x=y:=by cases x<;>cases y<;>simp[e9.b]at h<;>first|rfl|rw[aR.dh h]
mutual
theorem aL.dh:∀{x y:aL},x.b y=true->x=y
 |.e x,y,h=>by cases y<;>simp[aL.b]at h;rw[aR.dh h]
 |.undef,y,h=>by cases y<;>simp[aL.b]at h;rfl
 |.bT,y,h=>by cases y<;>simp[aL.b]at h
 |.ptr i o,y,h=>by cases y<;>simp[aL.b]at h;rw[h.1,h.2]
 |.c8,y,h=>by cases y<;>simp[aL.b]at h;rfl
 |.cq a,y,h=>by cases y<;>simp[aL.b]at h;rw[h]
 |.own k,y,h=>by cases y<;>simp[aL.b]at h;rw[h]
 |.fF k x fo,y,h=>by cases y<;>simp[aL.b]at h;rw[h.1.1,aR.dh h.1.2,h.2]
 |.fQ x s fo,y,h=>by cases y<;>simp[aL.b]at h;rw[aR.dh h.1.1,h.1.2,h.2]
 |.ft l a,y,h=>by cases y<;>simp[aL.b]at h;rw[h.1,yP h.2]
 |.fn f l,y,h=>by cases y<;>simp[aL.b]at h;rw[h.1,yP h.2]
 |.agg l,y,h=>by cases y<;>simp[aL.b]at h;rw[yP h]
 |.bD l,y,h=>by cases y<;>simp[aL.b]at h;rw[yP h]
 |.lit a b l,y,h=>by cases y<;>simp[aL.b]at h;rw[h.1.1,h.1.2,yP h.2]
theorem yP:∀{l m:List aL},rF l m=true->l=m
 |[],m,h=>by cases m<;>simp[rF]at h;rfl
 |x::l,m,h=>by
  cases m with
  |nil=>simp[rF]at h
  |cons y m=>
   simp[rF]at h;rw[aL.dh h.1,yP h.2]
end
theorem Jo{a b:Option c6}(h:tS a b=true):a=b:=by
 cases a with
 |none=>cases b with
  |none=>rfl
  |some _=>simp[tS]at h
 |some a=>cases b with
  |none=>simp[tS]at h
  |some b=>
   simp only[tS,Bool.and_eq_true,decide_eq_true_eq]at h;cases a;cases b;simp only at h;rw[h.1.1,e9.dh h.1.2,aR.dh h.2]
mutual
theorem Yl{n a k:Nat}(h:n<=k):∀q:aa,q.cT n a->q.cH k=q
 |.int _ _,_ | .bool _,_ | .str _,_ | .undef,_ | .bad,_ | .ca,_ | .eL,_ | .bC,_ | .dead _,_ | .cq _,_=>by simp only[aa.cH]
 |.ptr i o,hb=>by
  simp only[aa.cT]at hb;simp only[aa.cH];rw[if_pos (by omega)]
 |.sl id _ _ _ cs,hb=>by
  have:e5 n a cs:=by cases id<;>simp only[aa.cT]at hb<;>first|exact hb|exact hb.2
  simp only[aa.cH,vY h cs this]
 |.bJ id _ cs,hb=>by
  have:e5 n a cs:=by cases id<;>simp only[aa.cT]at hb<;>first|exact hb|exact hb.2
  simp only[aa.cH,vY h cs this]
 |.fn _ cs,hb=>by simp only[aa.cH,vY h cs (by simpa only[aa.cT]using hb)]
 |.agg cs,hb=>by simp only[aa.cH,vY h cs (by simpa only[aa.cT]using hb)]
 |.bD cs,hb=>by simp only[aa.cH,vY h cs (by simpa only[aa.cT]using hb)]
 |.mp _ _ _ _,hb=>by simp only[aa.cH]
theorem vY{n a k:Nat}(h:n<=k):∀c:List aa,e5 n a c->iR k c=c
 |[],_=>by simp only[iR]
 |p::ps,hb=>by
  simp only[e5]at hb;simp only[iR,Yl h p hb.1,vY h ps hb.2]
end
theorem WW(s:aA){n:Nat}(aI:n<=s.m.n)(aT:s.bg.n<=n)(Cn:s.bg.a<=s.m.an)(he:∀e∈s.bb,e.clean):dW s (s.trim n):=by
 refine⟨rfl,λφ w N a A ao au aW=>⟨φ.cut n s.m.an,N8 ao aI,?_⟩⟩;have ah:=DT (n:=n) (an:=s.m.an) he au.st (λi b hb=>Nat.lt_of_lt_of_le (aW.2.1 i b hb) aT) (λi b hb=>Nat.lt_of_lt_of_le (aW.1 i b hb) Cn);exact⟨by rw[aA.Z2];exact ah,au.a8.trans ⟨Nat.le_refl _,λb _ ar _=>⟨rfl,λk=>ar (pZ k)⟩⟩⟩
section
variable{F:cP}{S ba H:Sym}{ρ bY:List aa}{ids kP:Nat->Option Nat}{s s1:aA}{af:List aa}{idsH:Nat->Option Nat}
structure mc(F:cP)(nJ E k7:Env)(H:Sym)(hn:Nat):Prop where
 gr:nJ.ρ<+:E.ρ
 Vv:nJ.ρ<+:k7.ρ
 fw:nJ.fw=k7.fw
 bd:k7.bd=H.bd
 arr:∀k cs a,k<hn->H.arr k=some a->(∃a',E.bd.getD k none=some a'/\a'.rel E k cs)->a.rel k7 k cs/\k7.ids k=E.ids k/\(∀a',E.bd.getD k none=some a'->a'.sz=a.sz/\a'.born=a.born)
theorem RG{E:Env}{v:aL}(h:a0 F E v .bad):v=.bT:=by
 cases v with
 |bT=>rfl
 |e x=>
  unfold a0 at h;have:=aR.jJ h.2;rw[←h.1]at this;simp[aa.plain]at this
 |own k=>
  unfold a0 at h;obtain⟨a,cs,_,_,h⟩:=h;have:=wm a.born (E.ids k) a.sz cs;rw[←h]at this;cases this
 |_=>
  unfold a0 at h;first|(cases h;done)|(cases h.1;done)|(obtain⟨_,_,h⟩:=h;cases h;done)|(obtain⟨_,h,_⟩:=h;cases h;done)|(obtain⟨_,_,_,h⟩:=h;cases h;done)|(obtain⟨_,_,_,_,_,_,h⟩:=h;cases h;done)|(obtain⟨_,_,_,_,_,_,_,_,_,_,_,_,h⟩:=h;cases h;done)
theorem Zf{N:Nat}{b:e9}{id:Option Nat}{sz:Nat}{cs:List aa}(ae:bG cs=true):(g8 b id sz cs).cH N=g8 b id sz cs:=by
 unfold g8;split
 ·split<;>simp only[aa.cH,ox _ cs ae]
 ·simp only[aa.cH]
mutual
theorem mc.ow{nJ E k7:Env}{hn:Nat}(m:mc F nJ E k7 H hn):∀{v:aL}{q hE:aa},v.qj H hn=true->a0 F nJ v hE->a0 F E v q->a0 F k7 v (q.cH (F.n0+k7.fw))
 |.e x,q,hE,a1,aT,h=>by
  unfold a0 at aT h⊢;obtain⟨aK,_⟩:=aR.j9 m.gr aT.2;obtain⟨aO,bf⟩:=aR.j9 m.Vv aT.2;rw[Df _ q (by rw[h.1];exact aR.jJ h.2)];exact⟨by rw[h.1,aK,aO],bf⟩
 |.undef,q,hE,a1,aT,h=>by
  unfold a0 at h⊢;rw[h];simp only[aa.cH]
 |.bT,q,hE,a1,aT,h=>by simp only[a0]
 |.ptr i o,q,hE,a1,aT,h=>by
  unfold a0 at aT h⊢;have hi:i<k7.fw:=by rw[←m.fw];exact aT.2
  rw[h.1];simp only[aa.cH];rw[if_pos (by omega)];exact⟨rfl,hi⟩
 |.c8,q,hE,a1,aT,h=>by
  unfold a0 at h⊢;rw[h.1];simp only[aa.cH];rw[if_pos (by have:=h.2.1;omega)];exact⟨rfl,h.2⟩
 |.cq _,q,hE,a1,aT,h=>by
  simp only[a0]at h⊢;obtain⟨l,U,rfl⟩:=h;exact⟨l,U,by simp only[aa.cH]⟩
 |.own k,q,hE,a1,aT,h=>by
  simp only[aL.qj,Bool.and_eq_true,decide_eq_true_eq]at a1;obtain⟨a,au⟩:=Option.isSome_iff_exists.1 a1.2;unfold a0 at h⊢;obtain⟨a',cs,U,ab,al⟩:=h;obtain⟨g1,a2,bZ⟩:=m.arr k cs a a1.1 au ⟨a',U,ab⟩;refine⟨a,cs,by rw[m.bd];exact au,g1,?_⟩;rw[al,a2,(bZ a' U).1,(bZ a' U).2];unfold g8;split
  ·split<;>simp only[aa.cH,ox _ cs ab.plain]
  ·simp only[aa.cH]
 |.fF _ _ _,q,hE,a1,aT,h=>by simp[aL.qj]at a1
 |.fQ x sz fo,q,hE,a1,aT,h=>by
  unfold a0 at aT h⊢;obtain⟨cs,off,lI,U,ab,al,aJ⟩:=h;obtain⟨gD,_,_,k1,bf,_,_⟩:=aT;obtain⟨aK,_⟩:=aR.j9 m.gr bf;obtain⟨aO,bP⟩:=aR.j9 m.Vv bf;have ae:bG cs=true:=by have:=aR.jJ ab;rw[U]at this;simpa only[aa.plain]using this
  refine⟨cs,off,lI.map (aa.cH (F.n0+k7.fw)),by rw[aO,←aK];exact U,bP,al,?_⟩;rw[aJ];simp only[aa.cH,o3,List.map_append];congr 2;rw[←o3,ox _ _ (qJ ae fo)]
 |.ft l fo,q,hE,a1,aT,h=>by
  simp only[aL.qj]at a1;unfold a0 at aT h⊢;obtain⟨aG,U,ab,al⟩:=h;obtain⟨fY,k1,_,_⟩:=aT;have:=mc.nx m a1 k1 U;rw[←o3,ox _ aG ab]at this;refine⟨aG,this,ab,?_⟩;rw[al];simp only[aa.cH,ox _ _ (qJ ab fo)]
 |.fn f l,q,hE,a1,aT,h=>by
  simp only[aL.qj]at a1;unfold a0 at aT h⊢;obtain⟨aG,rfl,ab⟩:=h;obtain⟨fY,_,bf⟩:=aT;exact⟨_,by simp only[aa.cH,o3],mc.nx m a1 bf ab⟩
 |.agg l,q,hE,a1,aT,h=>by
  simp only[aL.qj]at a1;unfold a0 at aT h⊢;obtain⟨aG,rfl,ab⟩:=h;obtain⟨fY,_,bf⟩:=aT;exact⟨_,by simp only[aa.cH,o3],mc.nx m a1 bf ab⟩
 |.bD l,q,hE,a1,aT,h=>by
  simp only[aL.qj]at a1;unfold a0 at aT h⊢;obtain⟨aG,rfl,ab⟩:=h;obtain⟨fY,_,bf⟩:=aT;exact⟨_,by simp only[aa.cH,o3],mc.Cy m a1 bf ab⟩
 |.lit sz len l,q,hE,a1,aT,h=>by
  simp only[aL.qj]at a1;unfold a0 at aT h⊢;obtain⟨aG,rfl,ab,al,aJ⟩:=h;obtain⟨fY,_,bf,_,_⟩:=aT;have:=mc.nx m a1 bf ab;rw[←o3,ox _ aG al]at this;exact⟨aG,by simp only[aa.cH,ox _ aG al],this,al,aJ⟩
theorem mc.nx{nJ E k7:Env}{hn:Nat}(m:mc F nJ E k7 H hn):∀{l:List aL}{aG fY:List aa},rk H hn l=true->cJ F nJ l fY->cJ F E l aG->cJ F k7 l (aG.map (aa.cH (F.n0+k7.fw)))
 |[],aG,fY,a1,aT,h=>by simp only[cJ]at h;subst h;simp[cJ]
 |v::af,aG,fY,a1,aT,h=>by
  simp only[rk,Bool.and_eq_true]at a1;simp only[cJ]at aT h;obtain⟨q,r,rfl,U,ab,al⟩:=h;obtain⟨hE,r0,_,k1,_,bP⟩:=aT;simp only[List.map_cons,cJ];refine⟨_,_,rfl,mc.ow m a1.1 k1 U,?_,mc.nx m a1.2 bP al⟩;rcases ab with ab|ab
  ·exact .inl ab
  ·have xN:=mc.ow m a1.1 k1 U;cases q with
   |ptr i o=>
    simp only[aa.cH]at xN⊢;split at xN
    ·rename_i ah;rw[if_pos ah];exact .inr rfl
    ·exact .inl (RG xN)
   |undef=>simp[aa.one]at ab
   |bad=>simp[aa.one]at ab
   |agg _=>simp[aa.one]at ab
   |bD _=>simp[aa.one]at ab
   |_=>exact .inr rfl
theorem mc.Cy{nJ E k7:Env}{hn:Nat}(m:mc F nJ E k7 H hn):∀{l:List aL}{aG fY:List aa},rk H hn l=true->hk F nJ l fY->hk F E l aG->hk F k7 l (aG.map (aa.cH (F.n0+k7.fw)))
 |[],aG,fY,a1,aT,h=>by simp only[hk]at h;subst h;simp[hk]
 |v::af,aG,fY,a1,aT,h=>by
  simp only[rk,Bool.and_eq_true]at a1;simp only[hk]at aT h;obtain⟨q,r,rfl,U,al⟩:=h;obtain⟨hE,r0,_,k1,bP⟩:=aT;simp only[List.map_cons,hk];exact⟨_,_,rfl,mc.ow m a1.1 k1 U,mc.Cy m a1.2 bP al⟩
end
end
end
section
open Go Go.RowKit
variable[cQ]
theorem QF(ρ:List aa)(l:List aS):ep ρ l=l.map (aS.den ρ):=by
 induction l with
 |nil=>rfl
 |cons x l az=>simp[ep,az]
def zo(S:Sym)(p:Pos)(cu:aS)(fC:Option Nat):Prop:=
 (p.own=none/\(S.at p).cu=some cu/\fC=none) \/
 (∃sz b k a,p.own=some (sz,b)/\S.at p=.own k/\S.arr k=some a/\a.sz=sz/\a.born=b/\b.still=true/\cu=.e a.c/\fC=some k) \/
 (∃sz,p.own=some (sz,.cZ)/\0<sz/\S.at p=.e (.bu .bC)/\cu=.e (.bu (.agg []))/\fC=none)
theorem Nz{S:Sym}:∀{l:List Pos}{ps:List aS}{ck:List (Option Nat)},yU S l=some (ps,ck) ->
  ps.length=l.length/\ck.length=l.length/\(∀(j:Nat) p,l[j]?=some p->∃cu fC,ps[j]?=some cu/\ck[j]?=some fC/\zo S p cu fC)/\(∀(i j:Nat) k,ck[i]?=some (some k)->ck[j]?=some (some k)->i=j)
 |[],ps,ck,h=>by grind [yU]
 |p::l,ps,ck,h=>by
  simp only[yU]at h;split at h
  ·cases h
  ·rename_i iv CC ai;obtain⟨U,ab,al,aJ⟩:=Nz ai;have mk:∀cu fC,zo S p cu fC->(∀k:Nat,fC=some k->CC.contains (some k)=false)->(cu::iv).length=(p::l).length/\(fC::CC).length=(p::l).length/\(∀(j:Nat) q,(p::l)[j]?=some q->∃UW UX,(cu::iv)[j]?=some UW/\(fC::CC)[j]?=some UX/\zo S q UW UX)/\(∀(i j:Nat) k,(fC::CC)[i]?=some (some k)->(fC::CC)[j]?=some (some k)->i=j):=by
    intro cu fC ae aq;refine⟨by simp[U],by simp[ab],λj q aC=>?_,λi j k hi aC=>?_⟩
    ·grind
    grind
   split at h
   ·rename_i ju;split at h
    ·rename_i q aH;injection h with h;injection h with au hb;subst au;subst hb;exact mk _ _ (.inl ⟨ju,aH,rfl⟩) (λk e=>by cases e)
    ·cases h
   ·rename_i sz b k ju dA;split at h
    ·rename_i a ag1;split at h
     ·rename_i ah;injection h with h;injection h with au hb;subst au;subst hb;exact mk _ _ (.inr (.inl ⟨sz,b,k,a,ju,dA,ag1,ah.1,e9.dh ah.2.1,ah.2.2.1,rfl,rfl⟩)) (λbB e=>by grind)
     ·cases h
    ·cases h
   ·rename_i sz ju dA;split at h
    ·rename_i bX;injection h with h;injection h with au hb;subst au;subst hb;exact mk _ _ (.inr (.inr ⟨sz,ju,bX,dA,rfl,rfl⟩)) (λk e=>by cases e)
    ·cases h
   ·cases h
theorem Oq{ba S:Sym}:∀{l:List Nat}{ps:List aS},y0 ba S l=some ps->ps.length=l.length/\∀(j k:Nat),l[j]?=some k->∃h a,ba.arr k=some h/\S.arr k=some a/\ps[j]?=some (.e a.c)/\a.sz=h.sz/\a.born=h.born
 |[],ps,h=>by grind [y0]
 |k::l,ps,h=>by
  simp only[y0]at h;split at h
  ·rename_i x a iv U ab al;split at h
   ·injection h with h;obtain⟨g1,a2⟩:=Oq al;grind [e9.dh]
   ·cases h
  ·cases h
def TB(H:Sym)(n v:Nat)(p:Pos):Prop:=
 (p.own=none/\H.at p=.e (.var v))\/∃sz b K,p.own=some (sz,b)/\H.at p=.own K/\n<=K/\H.arr K=some ⟨sz,b,.var v⟩
theorem Ot{H:Sym}{n:Nat}:∀{l:List Pos}{v:Nat},Bi H n v l=true->∀(j:Nat) p,l[j]?=some p->TB H n (v+j) p
 |[],v,h,j,p,aC=>by simp at aC
 |q::l,v,h,j,p,aC=>by
  simp[Bi]at h;cases j with
  |zero=>
   simp at aC;subst aC;obtain⟨h,_⟩:=h;split at h
   ·rename_i ar;exact .inl ⟨ar,aL.dh h⟩
   ·rename_i sz b ar;split at h
    ·rename_i K a9;simp  at h;obtain⟨U,ab⟩:=h;split at ab
     ·rename_i a au;refine .inr ⟨sz,b,K,ar,a9,U,?_⟩;cases a;grind [e9.dh,aR.dh]
     ·cases ab
    ·cases h
  |succ j=>
   have:=Ot h.2 j p (by grind);grind
theorem NA{H ba:Sym}:∀{l:List Nat}{v:Nat},A8 H ba v l=true->(∀(j k:Nat),l[j]?=some k->∃a,ba.arr k=some a/\H.arr k=some ⟨a.sz,a.born,.var (v+j)⟩)
 |[],v,h,j,k,aC=>by simp at aC
 |q::l,v,h,j,k,aC=>by
  simp[A8]at h;obtain⟨⟨U,ab⟩,al⟩:=h;cases j with
  |zero=>
   simp at aC;subst aC;split at U
   ·rename_i x a aj au;cases x;grind [e9.dh,aR.dh]
   ·cases U
  |succ j=>
   have:=NA al j k (by grind);grind
theorem Dg{H:Sym}:∀{l:List Pos}{j:Nat}{p:Pos},l[j]?=some p->(nS H l)[j]?=some (match p.own,H.at p with|some _,.own K=>some K|_,_=>none)
 |[],j,p,h=>by simp at h
 |q::l,j,p,h=>by
  cases j with
  |zero=>simp at h;subst h;rfl
  |succ j=>simp[nS];exact Dg (by grind)
theorem Mo{H:Sym}(l:List Pos):(nS H l).length=l.length:=by
 induction l with
 |nil=>rfl
 |cons p l az=>simp[nS,az]
theorem GS:∀{l:List (Option Nat)},v9 l=true->∀(i j:Nat) k,l[i]?=some (some k)->l[j]?=some (some k)->i=j
 |[],h,i,j,k,hi,aC=>by simp at hi
 |none::l,h,i,j,k,hi,aC=>by
  simp only[v9]at h;cases i with
  |zero=>simp at hi
  |succ i=>
   cases j with
   |zero=>simp at aC
   |succ j=>exact congrArg (·+1) (GS h i j k (by grind) (by grind))
 |some q::l,h,i,j,k,hi,aC=>by
  simp[v9]at h;cases i with
  |zero=>grind
  |succ i=>
   cases j with
   |zero=>grind
   |succ j=>exact congrArg (·+1) (GS h.2 i j k (by grind) (by grind))
def uY:List (Option Nat)->List (Option Nat)->Nat->Option Nat
 |K::nH,bB::ck,k=>if K=some k then bB else uY nH ck k
 |_,_,_=>none
theorem Ov:∀{nH ck:List (Option Nat)}{j k:Nat}{fC:Option Nat},(∀(i j:Nat) k,nH[i]?=some (some k)->nH[j]?=some (some k)->i=j)->nH[j]?=some (some k)->ck[j]?=some fC->uY nH ck k=fC
 |[],ck,j,k,fC,aV,h,bc=>by simp at h
 |K::nH,[],j,k,fC,aV,h,bc=>by simp at bc
 |K::nH,bB::ck,j,k,fC,aV,h,bc=>by
  simp only[uY];cases j with
  |zero=>simp at h bc;rw[if_pos h];exact bc
  |succ j=>
   have bU:K≠some k:=λe=>by
    have:=aV 0 (j+1) k (by simp[e]) h;omega
   rw[if_neg bU];exact Ov (λi j k hi aC=>by have:=aV (i+1) (j+1) k (by simpa using hi) (by simpa using aC);omega) (by simpa using h) (by simpa using bc)
theorem NC:∀{nH ck:List (Option Nat)}{k bB:Nat},uY nH ck k=some bB->∃j:Nat,nH[j]?=some (some k)/\ck[j]?=some (some bB)
 |[],ck,k,bB,h=>by simp[uY]at h
 |K::nH,[],k,bB,h=>by simp[uY]at h
 |K::nH,q::ck,k,bB,h=>by
  simp only[uY]at h;split at h
  ·rename_i e;exact⟨0,by simp[e],by simp[h]⟩
  ·obtain⟨j,U,ab⟩:=NC h;exact⟨j+1,by simpa using U,by simpa using ab⟩
theorem Ow{l:List Pos}{box:Bool}{i j:Nat}(h:sY l box i j=true):∃(n:Nat)(p:Pos),l[n]?=some p/\p.box=box/\p.i=i/\(box=true->p.j=j):=by
 unfold sY at h;obtain⟨p,ae,ah⟩:=List.any_eq_true.1 h;simp only[Bool.and_eq_true,beq_iff_eq,decide_eq_true_eq,Bool.or_eq_true,Bool.not_eq_true']at ah;obtain⟨n,aI⟩:=List.mem_iff_getElem?.1 ae;exact⟨n,p,aI,ah.1.1,ah.1.2,λhb=>ah.2.resolve_left (by rw[hb];simp)⟩
theorem HH{P:Nat->Bool}{H:Sym}{n:Nat}:∀{ao us af:List aL}{t:Nat},pq P H n t ao us af=true->ao.length=us.length/\ao.length=af.length/\∀(j:Nat) h u v,ao[j]?=some h->us[j]?=some u->af[j]?=some v->P (t+j)=true\/BC H n h u v=true
 |[],[],[],t,_=>by simp
 |h::ao,u::us,v::af,t,bq=>by
  simp only[pq,Bool.and_eq_true,Bool.or_eq_true]at bq;obtain⟨g1,a2,bZ⟩:=HH bq.2;refine⟨by simp[g1],by simp[a2],λj a b c au hb ah=>?_⟩;cases j with
  |zero=>simp at au hb ah;subst au;subst hb;subst ah;exact bq.1
  |succ j=>
   have:=bZ j a b c (by simpa using au) (by simpa using hb) (by simpa using ah);rwa[show t+1+j=t+(j+1)by omega]at this
 |[],[],_::_,t,h=>by simp[pq]at h
 |[],_::_,_,t,h=>by simp[pq]at h
 |_::_,[],_,t,h=>by simp[pq]at h
 |_::_,_::_,[],t,h=>by simp[pq]at h
theorem NB{H:Sym}{n:Nat}{h u v:aL}(bq:BC H n h u v=true):h=.bT\/(h=u/\h=v/\h.qj H n=true):=by
 unfold BC at bq;split at bq
 ·exact .inl rfl
 ·simp only[Bool.and_eq_true]at bq;exact .inr ⟨aL.dh bq.1.1,aL.dh bq.1.2,bq.2⟩
def Fc(l:List Pos)(H:Sym)(n i:Nat):ga->ga->ga->Prop
 |.cells ao,.cells us,.cells af=>pq (sY l true i) H n 0 ao us af=true
 |.c8,.c8,.c8=>True
 |.gone,_,_=>True
 |_,_,_=>False
theorem Ou{l:List Pos}{H:Sym}{n:Nat}:∀{a b c:List ga}{i:Nat},jR l H n i a b c=true->a.length=b.length/\a.length<=c.length/\∀(j:Nat) x y z,a[j]?=some x->b[j]?=some y->c[j]?=some z->Fc l H n (i+j) x y z
 |[],[],c,i,h=>by simp
 |[],_::_,c,i,h=>by simp[jR]at h
 |x::a,[],c,i,h=>by cases x<;>simp[jR]at h
 |x::a,y::b,[],i,h=>by cases x<;>cases y<;>simp[jR]at h
 |x::a,y::b,z::c,i,h=>by
  have key:Fc l H n i x y z/\jR l H n (i+1) a b c=true:=by
   cases x with
   |cells ao=>cases y with
    |cells us=>cases z with
     |cells af=>simpa[jR,Fc]using h
     |c8=>simp[jR]at h
     |gone=>simp[jR]at h
    |c8=>simp[jR]at h
    |gone=>simp[jR]at h
   |c8=>cases y with
    |c8=>cases z with
     |c8=>simpa[jR,Fc]using h
     |cells _=>simp[jR]at h
     |gone=>simp[jR]at h
    |cells _=>simp[jR]at h
    |gone=>simp[jR]at h
   |gone=>exact⟨trivial,by simpa[jR]using h⟩
  obtain⟨g1,a2,bZ⟩:=Ou key.2;refine⟨by simp[g1],by simp;omega,λj p q r ae aH ad=>?_⟩;cases j with
  |zero=>simp at ae aH ad;subst ae;subst aH;subst ad;exact key.1
  |succ j=>
   have:=bZ j p q r (by simpa using ae) (by simpa using aH) (by simpa using ad);rwa[show i+1+j=i+(j+1)by omega]at this
end
section
open Go Go.RowKit
variable[cQ]
structure js(S H:Sym):Prop where
 base:H.base=S.base
 dO:H.dO=S.dO
 site:H.site=S.site
 cU:H.cU=S.cU
 ys:H.ys=S.ys
theorem js.refl(S:Sym):js S S:=⟨rfl,rfl,rfl,rfl,rfl⟩
theorem js.trans{S ba ji:Sym}(h:js S ba)(k:js ba ji):js S ji:=⟨k.base.trans h.base,k.dO.trans h.dO,k.site.trans h.site,k.cU.trans h.cU,k.ys.trans h.ys⟩
theorem Nx:∀(l:List Nat)(S:Sym),js S (S.xj l)
 |[],S=>js.refl S
 |k::l,S=>by
  have h:js S { S.dD (aL.fs k true)with bd:=S.bd.set k none }:=⟨rfl,rfl,rfl,rfl,rfl⟩;exact h.trans (Nx l _)
theorem MX(S:Sym)(p:Pos)(v:aL):js S (S.setAt p v):=by
 unfold Sym.setAt;split
 ·split
  ·exact⟨rfl,rfl,rfl,rfl,rfl⟩
  ·exact js.refl S
 ·exact⟨rfl,rfl,rfl,rfl,rfl⟩
theorem G5:∀(l:List Pos)(S:Sym),js S (S.fresh l)
 |[],S=>js.refl S
 |p::l,S=>by
  simp only[Sym.fresh];split
  ·have h:=MX S p (.e (.var S.cd));have bc:js S { S.setAt p (.e (.var S.cd))with cd:=S.cd+1 }:=⟨h.base,h.dO,h.site,h.cU,h.ys⟩;exact bc.trans (G5 l _)
  ·rename_i sz b _;have h:=MX S p (.own S.bd.length);have bc:js S { S.setAt p (.own S.bd.length)with bd:=S.bd++[some ⟨sz,b,.var S.cd⟩],cd:=S.cd+1 }:=⟨h.base,h.dO,h.site,h.cU,h.ys⟩;exact bc.trans (G5 l _)
theorem GY:∀(l:List Nat)(S:Sym),js S (S.A7 l)
 |[],S=>js.refl S
 |k::l,S=>by
  simp only[Sym.A7];split
  ·rename_i a _;have bc:js S { S with bd:=S.bd.set k (some { a with c:=.var S.cd }),cd:=S.cd+1 }:=⟨rfl,rfl,rfl,rfl,rfl⟩;exact bc.trans (GY l _)
  ·have bc:js S { S with cd:=S.cd+1 }:=⟨rfl,rfl,rfl,rfl,rfl⟩;exact bc.trans (GY l _)
theorem MD(b4:mz)(S:Sym):js S (oC b4 S):=by
 unfold oC;have U:=Nx (ve S b4.pos) S;have ab:js (S.xj (ve S b4.pos)) ((S.xj (ve S b4.pos)).eP b4.live):=⟨rfl,rfl,rfl,rfl,rfl⟩;have al:=G5 b4.pos ((S.xj (ve S b4.pos)).eP b4.live);have aJ:=GY b4.iI (Sym.fresh ((S.xj (ve S b4.pos)).eP b4.live) b4.pos);have h:=((U.trans ab).trans al).trans aJ;exact⟨h.base,h.dO,h.site,h.cU,h.ys⟩
structure TA(b4:mz)(ba H S:Sym)(ps bz:List aS)(ck:List (Option Nat)):Prop where
 v:yU S b4.pos=some (ps,ck)
 a:y0 ba S b4.iI=some bz
 cd:H.cd=ba.cd+b4.pos.length+b4.iI.length
 pos:Bi H ba.bd.length ba.cd b4.pos=true
 iI:A8 H ba (ba.cd+b4.pos.length) b4.iI=true
 agA:v9 (nS H b4.pos)=true
 fresh:IP (nS H b4.pos) ba.bd.length H.bd.length=true
 le:ba.bd.length<=H.bd.length
 g:pq (λt=>sY b4.pos false t 0) H ba.bd.length 0 H.g ba.g S.g=true
 b:jR b4.pos H ba.bd.length 0 H.bx ba.bx S.bx=true
 sa:JP ck b4.iI H ba S ba.bd.length=true
 amN:∀k∈b4.iI,k<ba.bd.length
 y:Bj H.ys S.ys=true
 e:b4.bb=true\/S.bb=false/\Jn H ba S ck b4.iI=true
theorem Ny{b4:mz}{ba H S:Sym}{af:List aS}(h:Em b4 ba H S=some af):∃ps bz ck,af=ps++bz/\TA b4 ba H S ps bz ck:=by
 unfold Em at h;split at h
 ·rename_i ps ck ai;split at h
  ·rename_i bz au;split at h
   ·rename_i ah;injection h with h;simp only[Bool.and_eq_true,decide_eq_true_eq,Bool.or_eq_true,Bool.not_eq_true',List.all_eq_true]at ah;obtain⟨⟨⟨⟨⟨⟨⟨⟨⟨⟨⟨U,ab⟩,al⟩,aJ⟩,bm⟩,bI⟩,cS⟩,et⟩,gp⟩,h7⟩,mF⟩,nv⟩:=ah;exact⟨ps,bz,ck,h.symm,ai,au,U,ab,al,aJ,bm,bI,cS,et,gp,h7,mF,nv⟩
   ·cases h
  ·cases h
 ·cases h
section
variable{F:cP}{S ba H:Sym}{ρ bY:List aa}{ids kP:Nat->Option Nat}{s s1:aA}{ps bz:List aS}{ck:List (Option Nat)}{b4:mz}{ρH:List aa}{idsH:Nat->Option Nat}
theorem QE{p:Pos}{cu:aS}{fC:Option Nat}{v sz:Nat}{b:e9}{K:Nat}(h:Rel F S ρ ids s)(ju:p.own=some (sz,b))(ew:zo S p cu fC)(rA:ρH.getD v .bad=cu.den ρ)(cr:idsH K=fC.bind ids):
  ∃cs,c6.rel (H.env ρH idsH) K ⟨sz,b,.var v⟩ cs/\∀q,a0 F (S.env ρ ids) (S.at p) q->q=g8 b (idsH K) sz cs/\bG cs=true:=by
 rcases ew with⟨U,_⟩|⟨iL,a6,k,a,U,ab,al,aJ,bm,bI,rfl,rfl⟩|⟨iL,U,ab,al,rfl,rfl⟩
 ·rw[ju]at U;cases U
 ·rw[ju]at U;injection U with U;injection U with aK aO;subst aK;subst aO;obtain⟨cs,ad⟩:=h.arr k a al;obtain⟨eh,r2,nF,x4,nG,LV⟩:=ad;have mb:(S.env ρ ids).ρ=ρ:=rfl;rw[mb]at eh r2 nG;have ae:bG cs=true:=by have:=aR.jJ eh;rw[r2]at this;simpa only[aa.plain]using this
  have h2:ρH.getD v .bad=.agg cs:=by rw[rA];simp only[aS.den,r2]
  have fK:∀b1,isNil b1 a.born cs=isNil ρ a.born cs:=λb1=>by
   cases hb:a.born with
   |dyn x=>rw[←bm,hb]at bI;cases bI
   |map=>rw[←bm,hb]at bI;cases bI
   |it=>rw[←bm,hb]at bI;cases bI
   |real=>rfl
   |cZ=>rfl
  refine⟨cs,⟨?_,h2,by rw[←aJ];exact nF,by rw[←aJ];exact x4,?_,λx e=>?_⟩,λq aH=>⟨?_,ae⟩⟩
  ·show(ρH.getD v .bad).plain=true;rw[h2];simpa only[aa.plain]using ae
  ·show isNil ρH b cs=some (idsH K).isNone;rw[cr,←bm,fK ρH,nG];rfl
  ·simp only at e;rw[←bm]at bI;rw[bm,e]at bI;cases bI
  ·rw[ab]at aH;unfold a0 at aH;obtain⟨a',cs',g1,a2,bZ⟩:=aH;have:S.arr k=some a':=g1;rw[al]at this;injection this with this;subst this;have:=c6.EK a2 ⟨eh,r2,nF,x4,nG,LV⟩;subst this;rw[bZ,cr,←aJ,←bm];rfl
 ·rw[ju]at U;injection U with U;injection U with aK aO;subst aK;subst aO;refine⟨[],⟨?_,?_,ab,by simp,?_,λx e=>by cases e⟩,λq aH=>⟨?_,rfl⟩⟩
  ·show(ρH.getD v .bad).plain=true;rw[rA];rfl
  ·show ρH.getD v .bad=.agg [];rw[rA];rfl
  ·show isNil ρH .cZ []=some (idsH K).isNone;rw[cr];rfl
  ·rw[al]at aH;unfold a0 at aH;rw[cr,aH.1];rfl
theorem adV{p:Pos}{cu:aS}{fC:Option Nat}{v hn N:Nat}(h:Rel F S ρ ids s)(ub:TB H hn v p)(ew:zo S p cu fC)(rA:ρH.getD v .bad=cu.den ρ)(cr:∀K,H.at p=.own K->idsH K=fC.bind ids){q:aa}(aH:a0 F (S.env ρ ids) (S.at p) q):
  a0 F (H.env ρH idsH) (H.at p) (q.cH N)/\(q.one=true->(q.cH N).one=true):=by
 rcases ub with⟨U,ab⟩|⟨sz,b,K,U,ab,al,aJ⟩
 ·rcases ew with⟨g1,a2,bZ⟩|⟨iL,a6,k,a,g1,_⟩|⟨iL,g1,_⟩
  ·obtain⟨aK,aO⟩:=wJ a2 aH;have Ga:q=cu.den ρ:=aK;rw[Df _ q aO,ab];refine⟨?_,λh=>h⟩;unfold a0;have ai:aR.den (H.env ρH idsH).ρ (.var v)=q:=by show ρH.getD v .bad=q;rw[rA,Ga]
   exact⟨ai.symm,by show(ρH.getD v .bad).plain=true;rw[rA,←Ga];exact aO⟩
  ·rw[U]at g1;cases g1
  ·rw[U]at g1;cases g1
 ·obtain⟨cs,ad,iX⟩:=QE (H:=H) (K:=K) h U ew rA (cr K ab);obtain⟨e,ae⟩:=iX q aH;have ah:q.cH N=q:=by
   rw[e];exact Zf ae
  rw[ah,ab];refine⟨?_,λh=>h⟩;unfold a0;exact⟨_,cs,aJ,ad,e⟩
end
end
section
open Go Go.RowKit
variable[cQ]
theorem Pu:∀{a b:List cj},Bj a b=true->a.map cj.core=b.map cj.core->a=b
 |[],[],_,_=>rfl
 |[],_::_,h,_=>by grind
 |_::_,[],h,_=>by grind
 |a::l,b::m,h,k=>by
  simp[Bj]at h;simp  at k;have e:a=b:=by
   obtain⟨g,f,ps,kV,body,p,pend,busy⟩:=a;simp_all[cj.core]
  rw[e,Pu h.2 k.2]
section
variable{F:cP}{S ba H:Sym}{ρ bY:List aa}{ids kP:Nat->Option Nat}{s s1:aA}{ps bz:List aS}{ck:List (Option Nat)}{b4:mz}
theorem acw{q:aa}{N:Nat}(h:q.one=true):(q.cH N).one=true\/q.cH N=.bad:=by
 cases q with
 |ptr i o=>grind [aa.cH]
 |undef=>trivial
 |bad=>trivial
 |agg _=>trivial
 |bD _=>trivial
 |_=>exact .inl rfl
def zp(hn:Nat)(nH ck:List (Option Nat))(ids:Nat->Option Nat)(k:Nat):Option Nat:=
 if k<hn then(if ck.contains (some k)=true then none else ids k)else(uY nH ck k).bind ids
theorem RB(U:Rel F ba bY kP s1)(h:Rel F S ρ ids s)(aj:Ext ba bY S ρ)(e4:js ba H)(rB:H.bb=b4.bb)(aQ:TA b4 ba H S ps bz ck):
  dW s (s.trim (F.n0+ba.bx.length))/\Rel F H (bY++ep ρ (ps++bz)) (zp ba.bd.length (nS H b4.pos) ck ids) (s.trim (F.n0+ba.bx.length))/\Ext ba bY H (bY++ep ρ (ps++bz)):=by
 obtain⟨v1,v2,mO,v4⟩:=Nz aQ.v;obtain⟨eD,fA⟩:=Oq aQ.a;have eb:=Ot aQ.pos;have afb:=NA aQ.iI;have akL:=GS aQ.agA;obtain⟨g1,a2,bZ⟩:=HH aQ.g;obtain⟨fj,gB,k2⟩:=Ou aQ.b;have SQ:bY.length=ba.cd:=U.len;generalize Lp:bY++ep ρ (ps++bz)=ρH;generalize E0:zp ba.bd.length (nS H b4.pos) ck ids=idsH;have rA:∀(j:Nat) cu,(ps++bz)[j]?=some cu->ρH.getD (ba.cd+j) .bad=cu.den ρ:=λj cu aC=>by
  rw[←Lp,QF,List.getD_eq_getElem?_getD,List.getElem?_append_right (by omega),SQ];grind
 have xz:∀(j:Nat) cu,ps[j]?=some cu->ρH.getD (ba.cd+j) .bad=cu.den ρ:=λj cu aC=>rA j cu (by grind);have aiF:∀(j:Nat) cu,bz[j]?=some cu->ρH.getD (ba.cd+b4.pos.length+j) .bad=cu.den ρ:=λj cu aC=>by
  have:=rA (ps.length+j) cu (by grind);grind
 have vA:bY<+:ρH:=by grind
 have se:H.bx.length=ba.bx.length:=fj;have adW:∀(j:Nat) p fC K,b4.pos[j]?=some p->ck[j]?=some fC->p.own.isSome=true->H.at p=.own K->ba.bd.length<=K->idsH K=fC.bind ids:=λj p fC K ae aq ar dA hle=>by
  have rL:=Dg (H:=H) ae;have:(nS H b4.pos)[j]?=some (some K):=by
   rw[rL,dA];cases ju:p.own with
   |none=>grind
   |some _=>rfl
  rw[←E0];grind [zp,Ov]
 have RD:∀(j:Nat) p,b4.pos[j]?=some p->∀q,a0 F (S.env ρ ids) (S.at p) q->a0 F (H.env ρH idsH) (H.at p) (q.cH (F.n0+ba.bx.length))/\(q.one=true->(q.cH (F.n0+ba.bx.length)).one=true):=λj p aC q aH=>by
  obtain⟨cu,fC,aK,aO,ew⟩:=mO j p aC;have ub:=eb j p aC;refine adV h ub ew (xz j cu aK) (λK a9=>?_) aH;rcases ub with⟨_,ab⟩|⟨sz,b,fy,al,aJ,bm,bI⟩;all_goals grind
 have RE:∀k a,k<ba.bd.length->H.arr k=some a->idsH k=ids k/\∃a',S.arr k=some a'/\(a'.sz=a.sz/\a'.born=a.born)/\∀cs,a'.rel (S.env ρ ids) k cs->a.rel (H.env ρH idsH) k cs:=λk a aq au=>by
  have ao:=aQ.sa;unfold JP at ao;have ao:=List.all_eq_true.1 ao k (List.mem_range.2 aq);simp only[au,Bool.and_eq_true,Bool.not_eq_true',Bool.or_eq_true]at ao;obtain⟨aI,ao⟩:=ao;have cr:idsH k=ids k:=by rw[←E0];grind [zp]
  refine⟨cr,?_⟩;rcases ao with ao|⟨kQ,Lq⟩
  ·have hm:k∈b4.iI:=by simpa[List.contains_iff_mem]using ao
   obtain⟨j,aC⟩:=List.mem_iff_getElem?.1 hm;obtain⟨bg,aK,aO⟩:=afb j k aC;obtain⟨x,a',bS,b8,en,l9,ue⟩:=fA j k aC;rw[aK]at bS;injection bS with bS;subst bS;rw[au]at aO;injection aO with aO;refine⟨a',b8,by rw[aO];exact⟨l9,ue⟩,λcs ad=>?_⟩;obtain⟨eh,r2,nF,x4,nG,LV⟩:=ad;have mb:(S.env ρ ids).ρ=ρ:=rfl;have hi:(S.env ρ ids).ids=ids:=rfl;rw[mb]at eh r2 nG;rw[hi]at nG;obtain⟨gD,cy,dM,gC,jF,kB,kC⟩:=U.arr k bg aK;have xM:∀x,bg.born=.dyn x->x.ok bY:=kC;have ai:=aiF j _ en;have h2:ρH.getD (ba.cd+b4.pos.length+j) .bad=.agg cs:=by rw[ai];exact r2
   have ae:bG cs=true:=by have:=aR.jJ eh;rw[r2]at this;simpa only[aa.plain]using this
   subst aO;refine⟨?_,h2,by show 0<bg.sz;rw[←l9];exact nF,by show cs.length=cs.length/bg.sz*bg.sz;rw[←l9];exact x4,?_,λx hc=>?_⟩
   ·show(ρH.getD _ .bad).plain=true;rw[h2];simpa only[aa.plain]using ae
   ·show isNil ρH bg.born cs=some (idsH k).isNone;rw[yd vA xM,cr,←nG,ue,yd aj.pre xM]
   ·exact(aR.j9 vA (xM x hc)).2
  ·have aK:=Jo kQ;have aO:=Jo Lq;refine⟨a,aO.symm,⟨rfl,rfl⟩,λcs ad=>?_⟩;obtain⟨eh,r2,nF,x4,nG,LV⟩:=ad;have mb:(S.env ρ ids).ρ=ρ:=rfl;have hi:(S.env ρ ids).ids=ids:=rfl;rw[mb]at eh r2 nG;rw[hi]at nG;obtain⟨gD,cy,dM,gC,jF,kB,kC⟩:=U.arr k a aK.symm;have FY:a.c.ok bY:=cy;have xM:∀x,a.born=.dyn x->x.ok bY:=kC;obtain⟨d1,d2⟩:=aR.j9 vA FY;obtain⟨d3,_⟩:=aR.j9 aj.pre FY;refine⟨d2,?_,nF,x4,?_,λx hc=>(aR.j9 vA (xM x hc)).2⟩
   ·show a.c.den ρH=.agg cs;rw[d1,←d3];exact r2
   ·show isNil ρH a.born cs=some (idsH k).isNone;rw[yd vA xM,cr,←nG,yd aj.pre xM]
 have Gb:mc F (ba.env bY kP) (S.env ρ ids) (H.env ρH idsH) H ba.bd.length:=by
  refine⟨aj.pre,vA,se.symm,rfl,λk cs a aq au ⟨a',ab,al⟩=>?_⟩;obtain⟨aK,ame,aO,bS,b8⟩:=RE k a aq au;have:S.arr k=some a':=ab;rw[aO]at this;injection this with this;subst this;exact⟨b8 cs al,aK,λjD aJ=>by
   have:S.arr k=some jD:=aJ;rw[aO]at this;injection this with this;subst this;exact bS⟩
 have kr:(H.env ρH idsH).fw=ba.bx.length:=se;have RF:∀ai u v q hE,BC H ba.bd.length ai u v=true->a0 F (ba.env bY kP) u hE->a0 F (S.env ρ ids) v q->a0 F (H.env ρH idsH) ai (q.cH (F.n0+ba.bx.length)):=λai u v q hE fU hu aH=>by
  rcases NB fU with rfl|⟨rfl,e,a1⟩
  ·simp only[a0]
  ·rw[←e]at aH;have:=Gb.ow a1 hu aH;rwa[kr]at this
 have fb:lW F H.ys ρH s.m.rc:=by
  have e:H.ys=S.ys:=Pu aQ.y (by rw[e4.ys];exact aj.ys.symm);rw[e];exact⟨U.rc.pre.trans vA,h.rc.len,h.rc.rc,h.rc.y,h.rc.ne,h.rc.zK⟩
 have nf:F.n0+ba.bx.length<=s.m.n:=by rw[h.dt];have:=aj.bx;omega
 have aiG:F.cV.n<=F.n0+ba.bx.length:=by rw[U.dO];have:=U.mS;omega
 refine⟨WW s nf (by rw[h.bg];exact aiG) (by rw[h.bg];exact h.an) (λe he=>(h.kY e he).2),?_,vA,e4.base,e4.dO,e4.site,e4.site,by rw[e4.ys],by omega,g1⟩;have ly:∀k,ba.bd.length<=k->k<H.bd.length->∃j p fC cu sz b,b4.pos[j]?=some p/\ck[j]?=some fC/\ps[j]?=some cu/\zo S p cu fC/\p.own=some (sz,b)/\H.at p=.own k/\H.arr k=some ⟨sz,b,.var (ba.cd+j)⟩:=λk rQ mG=>by
  have vB:=aQ.fresh;unfold IP at vB;have vB:=List.all_eq_true.1 vB k (List.mem_range.2 mG);simp only[Bool.or_eq_true,decide_eq_true_eq]at vB;have hm:some k∈nS H b4.pos:=by
   rcases vB with vB|vB
   ·omega
   ·simpa[List.contains_iff_mem]using vB
  obtain⟨j,aC⟩:=List.mem_iff_getElem?.1 hm;have tl:j<b4.pos.length:=by
   have:=(List.getElem?_eq_some_iff.1 aC).1;rwa[Mo]at this
  have ae:b4.pos[j]?=some b4.pos[j]:=by simp[tl]
  rw[Dg ae]at aC;injection aC with aC;obtain⟨cu,fC,aK,aO,ew⟩:=mO j _ ae;split at aC
  ·rename_i x K ju dA;injection aC with aC;subst aC;rcases eb j _ ae with⟨ab,_⟩|⟨sz,b,fy,al,aJ,bm,bI⟩
   ·rw[ju]at ab;cases ab
   ·rw[dA]at aJ;injection aJ with aJ;subst aJ;exact⟨j,_,fC,cu,sz,b,ae,aO,aK,ew,al,dA,bI⟩
  ·cases aC
 have Fz:∀k id,idsH k=some id->∃bB,ids bB=some id/\k<H.bd.length/\((k<ba.bd.length/\bB=k/\ck.contains (some k)=false)\/(ba.bd.length<=k/\∃j:Nat,(nS H b4.pos)[j]?=some (some k)/\ck[j]?=some (some bB))):=λk id aq=>by
  rw[←E0]at aq;unfold zp at aq;split at aq
  ·rename_i aU;split at aq
   ·cases aq
   ·rename_i ah;have:=aQ.le;exact⟨k,aq,by omega,.inl ⟨aU,rfl,by simpa using ah⟩⟩
  ·rename_i aU;obtain⟨bB,aK,aO⟩:=Option.bind_eq_some_iff.1 aq;obtain⟨j,bS,b8⟩:=NC aK;refine⟨bB,aO,?_,.inr ⟨by omega,j,bS,b8⟩⟩;have tl:j<b4.pos.length:=by
    have:=(List.getElem?_eq_some_iff.1 bS).1;rwa[Mo]at this
   have ae:b4.pos[j]?=some b4.pos[j]:=by simp[tl]
   rw[Dg ae]at bS;injection bS with bS;split at bS
   ·rename_i x K ju dA;injection bS with bS;subst bS;rcases eb j _ ae with⟨ab,_⟩|⟨sz,b,fy,al,aJ,bm,bI⟩
    ·rw[ju]at ab;cases ab
    ·rw[dA]at aJ;injection aJ with aJ;subst aJ;unfold Sym.arr at bI;rw[List.getD_eq_getElem?_getD]at bI;rcases Nat.lt_or_ge K H.bd.length with ak|ak
     ·exact ak
     ·rw[List.getElem?_eq_none ak]at bI;cases bI
   ·cases bS
 have afc:∀(i j:Nat) k,ck[i]?=some (some k)->ck[j]?=some (some k)->i=j:=v4;have JQ:H.bb=false->S.bb=false/\∀k,k<H.base->H.arr k=S.arr k/\ck.contains (some k)=false:=λhe=>by
  rcases aQ.e with ab|⟨ab,al⟩
  ·rw[rB,ab]at he;cases he
  ·refine⟨ab,λk aq=>?_⟩;unfold Jn at al;have al:=List.all_eq_true.1 al k (List.mem_range.2 aq);simp only[Bool.and_eq_true,Bool.not_eq_true']at al;exact⟨Jo al.1.1.2,al.1.2⟩
 refine⟨?_,λi hi=>?_,λt=>?_,?_,λi hi=>?_,λi b hb=>?_,λk id aq=>?_,λk j id aq aC=>?_,λk a au=>?_,h.bg,h.cV,h.kY,λhe=>h.bb (he.imp_left λhe=>(JQ he).1),λhe k id aq hle=>?_,λhe k aq=>?_,by rw[e4.dO];exact U.dO,by rw[e4.base];exact Nat.le_trans U.lG aQ.le,by rw[e4.dO,se];exact U.mS,h.an,h.kZ,fb⟩
 ·rw[←Lp,List.length_append,QF,List.length_map,List.length_append,SQ,v1,eD,aQ.cd];omega
 ·rw[e4.cU]at hi;have rQ:=U.cU i hi;have aU:i<bY.length:=by
   rcases Nat.lt_or_ge i bY.length with ab|ab
   ·exact ab
   ·simp[List.getD_eq_getElem?_getD,List.getElem?_eq_none ab,aa.one]at rQ
  rw[←Lp];simpa[List.getD_eq_getElem?_getD,List.getElem?_append_left aU]using rQ
 ·rw[aA.ade];rcases Nat.lt_or_ge t H.g.length with ak|ak
  ·have aK:H.g[t]?=some H.g[t]:=by simp[ak]
   have aO:ba.g[t]?=some (ba.get t):=by
    have:t<ba.g.length:=by omega
    simp[Sym.get,List.getD_eq_getElem?_getD,this]
   have bS:S.g[t]?=some (S.get t):=by
    have:t<S.g.length:=by omega
    simp[Sym.get,List.getD_eq_getElem?_getD,this]
   have b8:H.get t=H.g[t]:=by simp[Sym.get,List.getD_eq_getElem?_getD,ak]
   rcases bZ t _ _ _ aK aO bS with ae|ae
   ·rw[Nat.zero_add]at ae;obtain⟨j,p,aC,nt,hi,_⟩:=Ow ae;have Gc:S.at p=S.get t:=by unfold Sym.at;rw[nt,hi];simp
    have Lr:H.at p=H.get t:=by unfold Sym.at;rw[nt,hi];simp
    have:=(RD j p aC (s.g t) (by rw[Gc];exact h.slot t)).1;rwa[Lr]at this
   ·rw[b8];exact RF _ _ _ _ _ ae (U.slot t) (h.slot t)
  ·have:H.get t=.bT:=by simp[Sym.get,List.getD_eq_getElem?_getD,List.getElem?_eq_none ak]
   rw[this];simp only[a0]
 ·rw[aA.adf,se]
 ·rw[aA.AY,h.old i hi];cases hb:F.lH i with
  |cells l=>
   have:(di.cells l).cH (F.n0+ba.bx.length)=.cells (iR (F.n0+ba.bx.length) l):=by simp[di.cH,o3]
   rw[this,vY (by omega:F.n0<=F.n0+ba.bx.length) l (h.kZ i l hi hb)]
  |inv I=>rfl
  |hole=>rfl
 ·rw[aA.AY];have hi:i<H.bx.length:=(List.getElem?_eq_some_iff.1 hb).1;have F5:i<ba.bx.length:=by omega
  have rJ:i<S.bx.length:=by omega
  have aO:ba.bx[i]?=some ba.bx[i]:=by simp[F5]
  have bS:S.bx[i]?=some S.bx[i]:=by simp[rJ]
  have fU:=k2 i _ _ _ hb aO bS;rw[Nat.zero_add]at fU;have vz:=U.box i _ aO;have ad:=h.box i _ bS;cases dB:b with
  |cells ao=>
   cases hu:ba.bx[i]with
   |cells us=>
    cases ai:S.bx[i]with
    |cells af=>
     rw[dB,hu,ai]at fU;rw[hu]at vz;rw[ai]at ad;obtain⟨fI,f1,f2⟩:=vz;obtain⟨aG,f3,f4⟩:=ad;have agB:pq (sY b4.pos true i) H ba.bd.length 0 ao us af=true:=fU;obtain⟨dS,c2,c3⟩:=HH agB;refine⟨iR (F.n0+ba.bx.length) aG,by rw[f3];simp[di.cH,o3],?_⟩;rw[o3];have er:=mi f4;have gk:=mi f2;refine jL.2 ⟨by simp;omega,λj aiH q aC aH=>?_⟩;rw[List.getElem?_map]at aH;obtain⟨hE,nc,rfl⟩:=Option.map_eq_some_iff.1 aH;have tl:j<ao.length:=(List.getElem?_eq_some_iff.1 aC).1;have fN:us[j]?=some us[j]:=by simp[show j<us.length by omega]
     have LW:af[j]?=some af[j]:=by simp[show j<af.length by omega]
     have aiI:fI[j]?=some fI[j]:=by simp[show j<fI.length by omega]
     obtain⟨eh,r2⟩:=(jL.1 f4).2 j _ hE LW nc;obtain⟨nF,x4⟩:=(jL.1 f2).2 j _ _ fN aiI;rcases c3 j _ _ _ aC fN LW with ae|ae
     ·rw[Nat.zero_add]at ae;obtain⟨Vl,p,UC,nt,Gd,UD⟩:=Ow ae;have Gc:S.at p=af[j]:=by
       unfold Sym.at;rw[nt,Gd,UD rfl];simp only[if_true,List.getD_eq_getElem?_getD,bS,Option.getD_some,ai,LW]
      have Lr:H.at p=aiH:=by
       unfold Sym.at;rw[nt,Gd,UD rfl];simp only[if_true,List.getD_eq_getElem?_getD,hb,Option.getD_some,dB,aC]
      have:=RD Vl p UC hE (by rw[Gc];exact eh);rw[Lr]at this;refine⟨this.1,?_⟩;rcases r2 with r2|r2
      ·obtain⟨cu,fC,_,_,ew⟩:=mO Vl p UC;rw[←Gc]at r2;rcases ew with⟨_,g,_⟩|⟨_,_,_,_,_,g,_⟩|⟨_,_,_,g,_⟩
       ·rw[r2]at g;simp[aL.cu]at g
       ·rw[r2]at g;cases g
       ·rw[r2]at g;cases g
      ·exact .inr (this.2 r2)
     ·have aq:=RF _ _ _ _ _ ae nF eh;refine⟨aq,?_⟩;rcases NB ae with e|⟨e,e',_⟩
      ·exact .inl e
      ·rcases r2 with r2|r2
       ·exact .inl (by rw[e',r2])
       ·rcases acw (N:=F.n0+ba.bx.length) r2 with nG|nG
        ·exact .inr nG
        ·rw[nG]at aq;exact .inl (RG aq)
    |c8=>rw[dB,hu,ai]at fU;exact fU.elim
    |gone=>rw[dB,hu,ai]at fU;exact fU.elim
   |c8=>rw[dB,hu]at fU;cases ai:S.bx[i]<;>rw[ai]at fU<;>exact fU.elim
   |gone=>rw[dB,hu]at fU;cases ai:S.bx[i]<;>rw[ai]at fU<;>exact fU.elim
  |c8=>
   cases ai:S.bx[i]with
   |c8=>
    rw[ai]at ad;have:s.m.β (F.n0+i)=.inv F.DI:=ad;show(s.m.β (F.n0+i)).cH _=.inv F.DI;rw[this];rfl
   |cells _=>rw[dB,ai]at fU;cases hu:ba.bx[i]<;>rw[hu]at fU<;>exact fU.elim
   |gone=>rw[dB,ai]at fU;cases hu:ba.bx[i]<;>rw[hu]at fU<;>exact fU.elim
  |gone=>trivial
 ·obtain⟨bB,aK,aO,_⟩:=Fz k id aq;exact⟨(h.hO bB id aK).1,(h.hO bB id aK).2.1,aO⟩
 ·obtain⟨bB,aK,_,dS⟩:=Fz k id aq;obtain⟨j5,bS,_,c2⟩:=Fz j id aC;have aiJ:=h.mv bB j5 id aK bS;subst aiJ;rcases dS with⟨_,rfl,dS⟩|⟨_,i,c3,c4⟩
  ·rcases c2 with⟨_,c2,_⟩|⟨_,i,ot,CJ⟩
   ·exact c2
   ·have:=List.mem_of_getElem? CJ;simp[List.contains_iff_mem,this]at dS
  ·rcases c2 with⟨_,rfl,c2⟩|⟨_,cm,ot,CJ⟩
   ·have:=List.mem_of_getElem? c4;simp[List.contains_iff_mem,this]at c2
   ·have:=afc i cm _ c4 CJ;subst this;rw[c3]at ot;injection ot with ot;injection ot
 ·rcases Nat.lt_or_ge k ba.bd.length with aq|aq
  ·obtain⟨_,a',aO,_,b8⟩:=RE k a aq au;obtain⟨cs,ad⟩:=h.arr k a' aO;exact⟨cs,b8 cs ad⟩
  ·have vl:k<H.bd.length:=by
    rw[List.getD_eq_getElem?_getD]at au;rcases Nat.lt_or_ge k H.bd.length with ak|ak
    ·exact ak
    ·rw[List.getElem?_eq_none ak]at au;cases au
   obtain⟨j,p,fC,cu,sz,b,aK,aO,bS,ew,b8,en,l9⟩:=ly k aq vl;have kR:H.arr k=some a:=au;rw[l9]at kR;injection kR with kR;subst kR;obtain⟨cs,ad,_⟩:=QE (H:=H) (K:=k) (ρH:=ρH) (idsH:=idsH) h b8 ew (xz j cu bS) (adW j p fC k aK aO (by rw[b8];rfl) en aq);exact⟨cs,ad⟩
 ·obtain⟨bB,aK,_,dS⟩:=Fz k id aq;obtain⟨oO,hb⟩:=JQ he;have K8:H.base=S.base:=by rw[e4.base,aj.base]
  rcases dS with⟨_,rfl,_⟩|⟨_,i,_,c4⟩
  ·exact h.new oO bB id aK (by omega)
  ·refine h.new oO bB id aK ?_;rcases Nat.lt_or_ge bB S.base with aU|h3
   ·have:=(hb bB (by omega)).2;have hm:=List.mem_of_getElem? c4;simp[List.contains_iff_mem,hm]at this
   ·exact h3
 ·obtain⟨oO,hb⟩:=JQ he;have K8:H.base=S.base:=by rw[e4.base,aj.base]
  obtain⟨LI,ajv⟩:=hb k aq;obtain⟨k1,bf⟩:=h.eP oO k (by omega);refine⟨?_,?_⟩
  ·have:H.arr k=S.arr k:=LI;unfold Sym.arr at this;rw[this,k1]
  ·have rQ:k<ba.bd.length:=Nat.lt_of_lt_of_le (by rw[←e4.base];exact aq) U.lG;rw[←E0];unfold zp;rw[if_pos rQ,ajv];simpa using bf
end
end
end Go.Proofs.YtlminnpaeaganaaGreat
