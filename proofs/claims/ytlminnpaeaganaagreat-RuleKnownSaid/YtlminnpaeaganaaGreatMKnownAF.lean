/- Part of the proof of RuleKnown. No condition. -/
import Derived.RangeFuncIn
import Derived.RangeFuncRecord
import Derived.Test.YtlminnpaeaganaaGreatMKnownAE
namespace Go.Proofs.YtlminnpaeaganaaGreat
set_option maxRecDepth 100000
set_option linter.all false
section
open Go Go.RowKit
variable[cQ]
def hN(ops:Array Oper)(res:Nat->hg)(j:Nat):s6->Option vG:=match ops[j]? with
 |some o=>(res j).out o.dst
 |none=>λ_=>none
def ph(s:aA)(eu:Nat):aA:={ s with m:=⟨λi=>if s.m.n<=i/\i<eu then .hole else s.m.β i,eu,s.m.an,s.m.rc⟩ }
section
variable{P:Program}{T:l0}{ops:Array Oper}{M:List Nat}{cp:Nat}{L cL:Nat->Prop}{i j k:Nat}{o o':Oper}{cc s s':aA}{res km:Nat->hg}{K:aA->Prop}
theorem yp(ar:ops[j]?=some o):hN ops res j=(res j).out o.dst:=by simp[hN,ar]
theorem Oa{t:Nat}(ar:ops[j]?=some o)(h:(hN ops res j (.slot t)).isSome):o.dst=some t:=by simp_all[yp,hg.out]
theorem H8(ar:ops[j]?=some o)(h:(hN ops res j .cnt).isSome):(res j).an.isSome:=by simp_all[yp,hg.out]
theorem DV{id:Nat}(ar:ops[j]?=some o)(h:(hN ops res j (.box id)).isSome):∃cs,(res j).bx=some (id,cs):=by
 rw[yp ar]at h;grind [hg.out]
theorem HA(ae:ra ops M cp)(aX:ops[i]?=some o)(c1:i<cp)(ah:Closed ops cL)(hb:∀e∈o.after,oz e=true->cL e.on)(vp:¬cL i)(jw:∀j,cL j->j<cp)
  {mL U3:s6->vG} {l:s6} (bc:lC cL (hN ops res) U3 s'.loc) (h:lC (·<i) (hN ops km) mL s.loc) (he:∀j,cL j->km j=res j)
  (iu:∀j o',ops[j]?=some o'->j≠i->(cL j/\(hN ops res j l).isSome)\/(j<i/\(hN ops km j l).isSome)->clash ops o o'=true)
  (aT:mL l=U3 l\/∃j,cL j/\(hN ops res j l).isSome):s.loc l=s'.loc l:=by
 have s7:∀j,j<cp->∃o',ops[j]?=some o':=λj aC=>⟨ops[j]'(by have:=ae.le;omega),by simp⟩;refine O1 h bc (λj aC ao=>?_) (λj aC ao=>?_) (λj aC dg=>?_) aT
 ·obtain⟨o',eC⟩:=s7 j (by omega);have:=ae.pair i o j o' aX eC c1 (by omega) (by omega) (iu j o' eC (by omega) (.inr ⟨aC,ao⟩));grind [ord,A1]
 ·have bU:j≠i:=λe=>vp (e▸aC);obtain⟨o',eC⟩:=s7 j (jw j aC);have:=ae.pair i o j o' aX eC c1 (jw j aC) (Ne.symm bU) (iu j o' eC bU (.inl ⟨aC,ao⟩));grind [ord,Hd]
 simp_all[hN]
theorem Nl{t:Nat}(h:t∈reads ops o\/o.dst=some t)(aV:o'.dst=some t):clash ops o o'=true:=by grind [clash]
theorem Nm(h:oB o=true)(bc:oB o'=true):clash ops o o'=true:=by grind [clash]
theorem C7(h:mU o=true)(bc:mU o'=true\/j6 o'=true):clash ops o o'=true:=by grind [clash]
theorem O6(h:j6 o=true)(bc:mU o'=true):clash ops o o'=true:=by grind [clash]
theorem Ob(ae:ra ops M cp)(aX:ops[i]?=some o)(c1:i<cp)(ah:Closed ops cL)(hb:∀e∈o.after,oz e=true->cL e.on)(vp:¬cL i)(jw:∀j,cL j->j<cp){eu:Nat}
  (bc:lC cL (hN ops res) (ph cc eu).loc s'.loc) (h:lC (·<i) (hN ops km) cc.loc s.loc) (he:∀j,cL j->km j=res j)
  (gx:∀j o,cL j->ops[j]?=some o->Kind cc.m (eO cc.m.n ops j) o (res j)/\(j6 o=true->∃cs,(res j).bx=some (eO cc.m.n ops j,cs)))
  (aq:∀j o,j<i->ops[j]?=some o->Kind cc.m (eO cc.m.n ops j) o (km j)):
  (∀t∈reads ops o,s.g t=s'.g t)/\(oB o=true->s.m.an=s'.m.an)/\(mU o=true->∀id,cc.m.n<=id->id<eO cc.m.n ops i->s.m.β id=s'.m.β id):=by
 refine⟨λt a1=>?_,λBd=>?_,λbh id U ab=>?_⟩
 ·have:=HA (l:=.slot t) ae aX c1 ah hb vp jw bc h he (λj o' eC _ ao=>Nl (.inl a1) (by grind [Oa])) (.inl rfl);grind [aA.loc]
 ·have:=HA (l:=.cnt) ae aX c1 ah hb vp jw bc h he (λj o' eC _ ao=>Nm Bd (by
   rcases ao with⟨dg,ao⟩|⟨dg,ao⟩
   ·exact(gx j o' dg eC).1.2 (H8 eC ao)
   ·exact(aq j o' dg eC).2 (H8 eC ao))) (.inl rfl)
  grind [aA.loc]
 ·have ak3:∀j o' (r:hg),Kind cc.m (eO cc.m.n ops j) o' r->(∃cs,r.bx=some (id,cs))->mU o'=true\/j6 o'=true:=λj o' r aq ⟨cs,hcs⟩=>by
   rcases aq.1 id cs hcs with h|h;all_goals grind
  have:=HA (l:=.box id) ae aX c1 ah hb vp jw bc h he (λj o' eC _ ao=>C7 bh (by grind [DV])) (.inr ?_)
  ·grind [aA.loc]
  ·obtain⟨j,fX,aC,fS,hm,cr⟩:=Hz U i ab;have xb:=ae.pair i o j fX aX fS c1 (by omega) (by omega) (C7 bh (.inr hm));simp[ord]at xb;have dg:cL j:=by grind [A1]
   obtain⟨cs,hcs⟩:=(gx j fX dg fS).2 hm;refine⟨j,dg,?_⟩;simp_all[yp,hg.out]
def Fh(P:Program)(T:l0)(ops:Array Oper)(cc:aA)(eu:Nat)(L:Nat->Prop)(res:Nat->hg)(j:Nat):Prop:=
 ∃o,ops[j]?=some o/\∃(cL:Nat->Prop)(s':aA),(∀k,cL k->L k)/\Closed ops cL/\(∀e∈o.after,oz e=true->cL e.on)/\¬cL j/\lC cL (hN ops res) (ph cc eu).loc s'.loc/\Valid P cc.m T ops s' (eO cc.m.n ops j) o (res j)
def Rb(P:Program)(T:l0)(ops:Array Oper)(cp:Nat)(cc:aA)(L:Nat->Prop)(res:Nat->hg)(K:aA->Prop)(k:Nat)(km:Nat->hg)(s:aA):Prop:=
 (∀j,L j->km j=res j)/\lC (·<k) (hN ops km) cc.loc s.loc/\s.m.n=eO cc.m.n ops k/\s.a0=cc.a0/\s.bb=cc.bb/\s.m.rc=cc.m.rc/\kO P cc.m T ops ((ops.toList.take cp).drop k) s K /\
  ∀j o,j<k->ops[j]?=some o->Kind cc.m (eO cc.m.n ops j) o (km j)/\(j6 o=true->∃cs,(km j).bx=some (eO cc.m.n ops j,cs))
theorem An(ae:ra ops M cp){eu:Nat}(c1:j<cp)(h:Fh P T ops cc eu L res j)(ar:ops[j]?=some o):
  Kind cc.m (eO cc.m.n ops j) o (res j)/\(j6 o=true->∃cs,(res j).bx=some (eO cc.m.n ops j,cs)):=by
 obtain⟨o',eC,cL,s',_,_,_,_,_,ai⟩:=h;have e:o'=o:=by grind
 subst e;exact⟨He ai,λhm=>H6 (ae.guard j o' ar c1 (.inl hm)) hm ai⟩
theorem aek{out:Nat->s6->Option vG}{mL σ:s6->vG}{f:s6->Option vG}{rn:Nat->s6->Option vG}(h:lC (·<k) out mL σ)(he:∀j,j<k->rn j=out j)(aq:rn k=f):lC (·<k+1) rn mL (app f σ):=by
 have:=Q7 (o:=f) h (i:=k) (Nat.lt_irrefl k) (λj aC aU=>by omega);grind [we]
theorem path(ae:ra ops M cp){eu:Nat}(jw:∀j,L j->j<cp)(bq:∀j,L j->Fh P T ops cc eu L res j)(hw:kO P cc.m T ops (ops.toList.take cp) cc K):
  ∀k,k<=cp->∃km s,Rb P T ops cp cc L res K k km s:=by
 intro k;induction k with
 |zero=>exact λ_=>⟨res,cc,λ_ _=>rfl,we (O0 (out:=hN ops res)) (λj=>⟨λh=>h.elim,λh=>absurd h (Nat.not_lt_zero j)⟩) (λj h=>False.elim h),rfl,rfl,rfl,rfl,hw,λj o h=>by omega⟩
 |succ k az=>
  intro aq;obtain⟨km,s,U,ab,al,aJ,bm,fb,bI,cS⟩:=az (by omega);have bX:k<ops.size:=by have:=ae.le;omega
  have ar:ops[k]?=some ops[k]:=by simp[bX]
  generalize ops[k]=o at ar;have wQ:(ops.toList.take cp).drop k=o::(ops.toList.take cp).drop (k+1):=by grind [List.drop_eq_getElem_cons]
  rw[wQ]at bI;have mD:eO cc.m.n ops (k+1)=eO cc.m.n ops k+oa o:=by grind [eO]
  have akQ:j6 o=true->o.guard=none:=λhm=>ae.guard k o ar (by omega) (.inl hm);have step:∀r,Valid P cc.m T ops s (eO cc.m.n ops k) o r->(L k->r=res k)->∃km s,Rb P T ops cp cc L res K (k+1) km s:=by
   intro r ai ad;have dg:kO P cc.m T ops ((ops.toList.take cp).drop (k+1)) (s.res o.dst r (eO cc.m.n ops (k+1))) K:=by
    rcases Nk bI ai with⟨fz,ew⟩|⟨fA,rfl⟩
    ·have:=(IA fz).2 r (by grind);grind
    ·have gZ:oa o=0:=by grind [oa,H6]
     have e:=yD s o.dst .undef;grind
   refine⟨λj=>if j=k then r else km j,_,λj aC=>?_,?_,?_,?_,?_,?_,dg,λj o' aC eC=>?_⟩
   ·grind
   ·rw[P7];refine aek ab (λj aC=>?_) (by grind [yp]);grind [hN]
   ·rfl
   ·simp[aA.res,aJ]
   ·simp[aA.res,bm]
   all_goals grind [aA.res,He,H6]
  by_cases KN:L k
  ·obtain⟨o',eC,cL,s',g1,g2,g3,g4,g5,g6⟩:=bq k KN;have e:o'=o:=by grind
   subst e;obtain⟨eD,a2,_⟩:=Ob ae ar (by omega) g2 g3 g4 (λj aC=>jw j (g1 j aC)) g5 ab (λj aC=>U j (g1 j aC)) (λj o aC fS=>An ae (jw j (g1 j aC)) (bq j (g1 j aC)) fS) (λj o aC fS=>(cS j o aC fS).1);grind [WL]
  ·rw[kO,oy]at bI;rcases bI with⟨aN,fz⟩|⟨aN,fA⟩
   ·obtain⟨r,ad⟩:=abz (IA fz).1;exact step r (oy.2 (.inl ⟨aN,by grind⟩)) (λh=>absurd h KN)
   ·exact step ⟨.undef,none,none⟩ (oy.2 (.inr ⟨aN,rfl⟩)) (λh=>absurd h KN)
end
section
variable{P:Program}{T:l0}{ops:Array Oper}{M:List Nat}{cp:Nat}{cc:aA}{K:aA->Prop}{φ:bo}{w:World}{A:Anchor}{N n:Nat}{a:Act}{Q:Exit->Act->World->Prop}{cE:Option Nat}
theorem YF{cE:Option Nat}(o:Oper)(ao:∀cs b,o.op≠.select cs b)(aV:∀c,o.op≠.defer c)(a:Act)(dst:Option Tmp)(v:Value)(h:∀d,dst=some d->d∉o.looksAt ops):
  o.semAt cE (a.put dst v).eval=o.semAt cE a.eval:=by
 rw[Oper.semAt_eq _ _ _ aV,Oper.semAt_eq _ _ _ aV];exact execOp_put o ao a dst v h
theorem Xt{j:Nat}{jE fX:Oper}{v:Value}(aC:ops[j]?=some fX)(ahd:jE.apart ops fX=true)
  (ahe:∀cs b,jE.op≠.select cs b) (ahf:∀cs b,fX.op≠.select cs b) (ahg:∀c,fX.op≠.defer c)
  {K:Act->World->Prop} {a:Act} {w:World}
  (aF:Yields P ops jE v a) (h:mr cE P ops Q j K (a.put jE.dst v) w):
  mr cE P ops Q j (λa' w'=>Yields P ops jE v a'/\K (a'.put jE.dst v) w') a w:=by
 obtain⟨U,ab,al⟩:=Oper.apart_spec ahd;have keep:∀(a:Act),Yields P ops jE v a->∀u,Yields P ops jE v (a.put fX.dst u):=λa aF u=>
  aF.of_same (execOp_put jE ahe a fX.dst u al) (wanted_put jE a fX.dst u al)
 unfold mr at *;simp only[aC]at *;rw[wanted_put fX a jE.dst v U]at h;split
 ·rename_i hw;rw[if_pos hw]at h;intro τ d;have h:=h τ d;unfold Oper.dE at *;rw[YF fX ahf ahg a jE.dst v U]at h;generalize(fX.semAt cE a.eval).run P (a8 w τ d)=r at *;cases r with
  |ok x w'=>
   cases x<;>simp only[Oper.wP]at h⊢;all_goals grind [Act.put_comm]
  |halt x w'=>assumption
 grind [Act.put_comm]
theorem VN{i:Nat}{jE:Oper}{v:Value}(aX:ops[i]?=some jE)(Bv:∀(j:Nat) (o:Oper),ops[j]?=some o->(∀cs b,o.op≠.select cs b)/\∀c,o.op≠.defer c)
  (KO:∀a w τ d,Q .normal a w->Q .normal a (a8 w τ d)) (nh:∀c,jE.op≠.defer c):
  ∀(fuel:Nat)(listed:Array Bool)(a:Act)(w:World),
   (∀j fX,ops[j]?=some fX->j≠i->listed.getD j true=false->(∀e∈fX.after,Region.binds .any e=true->e.on≠i)->jE.apart ops fX=true) ->
   i∈Region.ready .any ops listed->Yields P ops jE v a ->
   nR cE P ops Q fuel (listed.setIfInBounds i true) (a.put jE.dst v) w->nR cE P ops Q (fuel+1) listed a w:=by
 have now:∀{a:Act}{w:World}{fuel:Nat}{l:Array Bool},Yields P ops jE v a->nR cE P ops Q fuel l (a.put jE.dst v) w->mr cE P ops Q i (nR cE P ops Q fuel l) a w:=by
  intro a w fuel l aF h;unfold mr;simp only[aX];rcases aF with⟨hw,ai⟩|⟨hw,rfl⟩
  ·rw[if_pos hw];intro τ d;unfold Oper.dE;rw[Oper.semAt_eq _ _ _ nh,ai (a8 w τ d)];exact Oc KO _ _ _ _ τ d h
  grind
 intro fuel;induction fuel with
 |zero=>
  intro listed a w _ ad aF H;refine⟨λh=>(by grind),λj aC=>?_⟩;by_cases kT:j=i
  ·grind
  ·have:=ready_mono aC kT;rw[H.1]at this;cases this
 |succ fuel az=>
  intro listed a w ER ad aF H;refine⟨λh=>(by grind),λj aC=>?_⟩;by_cases kT:j=i
  ·grind
  ·have U:=H.2 j (ready_mono aC kT);obtain⟨afy,fX,fS,lh⟩:=mem_ready.1 aC;have afz:∀e∈fX.after,Region.binds .any e=true->e.on≠i:=λe he hb heq=>by grind [mem_ready]
   have ab:=Xt fS (ER j fX fS kT afy afz) (Bv i jE aX).1 (Bv j fX fS).1 (Bv j fX fS).2 aF U;have adh:∀k ok,ops[k]?=some ok->k≠i->(listed.setIfInBounds j true).getD k true=false ->
     (∀e∈ok.after,Region.binds .any e=true->e.on≠i)->jE.apart ops ok=true:=λk ok aq tt KP fu=>by
    refine ER k ok aq tt ?_ fu;by_cases ev:j=k
    ·grind
    ·rw[getD_set_ne true ev]at KP;exact KP
   refine Nn (λa' w' al=>az (listed.setIfInBounds j true) a' w' adh (ready_mono ad (Ne.symm kT)) al.1 ?_) ab;grind [Array.setIfInBounds_comm]
theorem Qc(ae:ra ops M cp)(aV:ops.toList.all (nT N)=true){D:List Deferred}(hw:kO P cc.m T ops (ops.toList.take cp) cc λs=>h1 P ops (ops.toList.drop cp) s K)(aW:Old A cc)
  (gI:∀a' w' s',s'.a0=cc.a0->Good A N D (λu=>u=s'/\K u) a' w'->Q .normal a' w') (fuel:Nat) (listed:Array Bool) (a:Act) (w:World) (φ:bo) (res:Nat->hg) (s:aA) (bX:listed.size=ops.size) (aQ:left listed<=fuel)
  (jw:∀i,gd listed i->i<cp) (lh:∀i,i<cp->gd listed i) (bq:∀j,gd listed j->Fh P T ops cc (eO cc.m.n ops cp) (gd listed) res j) (nj:lC (gd listed) (hN ops res) (ph cc (eO cc.m.n ops cp)).loc s.loc)
  (aI:s.m.n=eO cc.m.n ops cp) (aT:s.a0=cc.a0) (he:s.bb=cc.bb) (fb:s.m.rc=cc.m.rc) (ao:cW φ w N s a) (au:cY A φ w cc.bb) (dQ:a.defers=D):nR cE P ops Q fuel listed a w:=by
 obtain⟨km,ajf,gr,p2,p3,p4,CI,TY,vH,LJ⟩:=path ae jw bq hw cp (Nat.le_refl _);have hle:=ae.le;have Tb:∀i,gd listed i↔i<cp:=λi=>⟨jw i,lh i⟩;have e:s=ajf:=by
  refine adg (funext λl=>?_) (aI.trans p3.symm) (aT.trans p4.symm) (he.trans CI.symm) (fb.trans TY.symm);have afA:lC (·<cp) (hN ops km) (ph cc (eO cc.m.n ops cp)).loc s.loc:=we nj Tb (λj aC=>by grind [hN]);refine O1 afA p2 (λj aC _=>aC) (λj aC _=>aC) (λj _ _=>rfl) ?_;cases l with
  |slot t=>exact .inl rfl
  |cnt=>exact .inl rfl
  |box id=>
   by_cases cr:cc.m.n<=id/\id<eO cc.m.n ops cp
   ·obtain⟨j,fX,aC,fS,hm,akR⟩:=Hz cr.1 cp cr.2;obtain⟨cs,hcs⟩:=(LJ j fX aC fS).2 hm;refine .inr ⟨j,aC,?_⟩;simp_all[yp,hg.out]
   grind [aA.loc,ph]
 have eP:h1 P ops (ops.toList.drop cp) s K:=by
  rw[List.drop_of_length_le (by simp;omega)]at vH;rw[e];exact vH
 refine Z8 ae fuel listed a w φ s cp bX aQ Tb (Nat.le_refl _) hle ?_ ao (by grind) (by grind [Old]) dQ eP (λa' w' s' e' h=>gI a' w' s' (e'.trans aT) h);grind
theorem abB(ae:ra ops M cp)(aV:ops.toList.all (nT N)=true){D:List Deferred}(hw:kO P cc.m T ops (ops.toList.take cp) cc λs=>h1 P ops (ops.toList.drop cp) s K)(aW:Old A cc)
  (gI:∀a' w' s',s'.a0=cc.a0->Good A N D (λu=>u=s'/\K u) a' w'->Q .normal a' w') (KO:∀a w τ d,Q .normal a w->Q .normal a (a8 w τ d)):∀(fuel:Nat)(listed:Array Bool)(a:Act)(w:World)(φ:bo)(res:Nat->hg)(s:aA),listed.size=ops.size->left listed<=fuel ->
  (∀i,gd listed i->i<cp)->Closed ops (gd listed)->(∀j,gd listed j->Fh P T ops cc (eO cc.m.n ops cp) (gd listed) res j)->lC (gd listed) (hN ops res) (ph cc (eO cc.m.n ops cp)).loc s.loc ->
  s.m.n=eO cc.m.n ops cp->s.a0=cc.a0->s.bb=cc.bb->s.m.rc=cc.m.rc->cW φ w N s a->cY A φ w cc.bb->a.defers=D ->
  nR cE P ops Q fuel listed a w:=by
 intro fuel;induction fuel with
 |zero=>
  intro listed a w φ res s bX aQ jw ah bq nj aI aT he fb ao au dQ;have lh:∀i,i<cp->gd listed i:=λi aX=>Classical.byContradiction λh=>by
   have:=O5 (listed:=listed) (i:=i) (by have:=ae.le;omega) h;omega
  exact Qc ae aV hw aW gI 0 listed a w φ res s bX aQ jw lh bq nj aI aT he fb ao au dQ
 |succ fuel az=>
  intro listed a w φ res s bX aQ jw ah bq nj aI aT he fb ao au dQ;by_cases lh:∀i,i<cp->gd listed i
  ·exact Qc ae aV hw aW gI (fuel+1) listed a w φ res s bX aQ jw lh bq nj aI aT he fb ao au dQ
  ·have hex:∃i,i<cp/\¬gd listed i:=by grind
   obtain⟨i0,⟨jX,J7⟩,afB⟩:=exists_least hex;have hle:=ae.le;have step:∀i o,ops[i]?=some o->i<cp->¬gd listed i->(∀e∈o.after,oz e=true->gd listed e.on)->∀r bn a' w',Valid P cc.m T ops s (eO cc.m.n ops i) o r->cW bn w' N (s.res o.dst r s.m.n) a'->cY A bn w' cc.bb->a'.defers=D->nR cE P ops Q fuel (listed.setIfInBounds i true) a' w':=by
    intro i o ar c1 U ab r bn a' w' ai g1 g2 g3;have aX:=(Array.getElem?_eq_some_iff.1 ar).1;have mB:∀j,gd (listed.setIfInBounds i true) j↔(gd listed j\/j=i):=λj=>Qb (by omega);refine az _ a' w' bn (λj=>if j=i then r else res j) (s.res o.dst r s.m.n) (by grind) ?_ (λj aC=>?_) (λj fX aC dg e he hb=>?_) (λj aC=>?_) ?_ (by assumption) (by simp[aA.res,aT]) (by simp[aA.res,he]) (by assumption) g1 g2 g3
    ·grind [H7]
    ·grind
    ·rcases(mB j).1 dg with h|rfl
     ·exact(mB _).2 (.inl (ah j fX aC h e he hb))
     grind
    ·rcases(mB j).1 aC with h|rfl
     ·have bU:j≠i:=λe=>U (e▸h);obtain⟨o',eC,cL,s',dS,c2,c3,c4,ot,CJ⟩:=bq j h;refine⟨o',eC,cL,s',λk aq=>(mB k).2 (.inl (dS k aq)),c2,c3,c4,we ot (λ_=>Iff.rfl) (λk aq=>?_),by simp only[bU,if_false];exact CJ⟩;have:k≠i:=λe=>U (e▸dS k aq);simp only[hN,this,if_false]
     ·refine⟨o,ar,gd listed,s,λk aq=>(mB k).2 (.inl aq),ah,λe he hb=>ab e he hb,U,we nj (λ_=>Iff.rfl) (λk aq=>?_),by simp only[if_true];exact ai⟩;have:k≠j:=λe=>U (e▸aq);simp only[hN,this,if_false]
    ·rw[P7];have:=Q7 (o:=r.out o.dst) nj U (λj aC aU l ak=>?_)
     ·refine we this (λj=>((mB j)).symm) (λj aC=>?_);by_cases e:j=i
      ·subst e;simp[hN,ar]
      ·simp only[hN,e,if_false]
     ·cases aj:hN ops res j l with
      |none=>rfl
      |some v=>
       exfalso;have tx:=jw j aC;have fS:ops[j]?=some (ops[j]'(by omega)):=by simp
       generalize ops[j]'(by omega)=fX at fS;have KQ:(hN ops res j l).isSome:=by rw[aj];rfl
       obtain⟨hU,ak4⟩:=An ae tx (bq j aC) fS;have tV:=He ai;have I9:clash ops o fX=true\/False:=by
        cases l with
        |slot t=>
         have gE:=Oa fS KQ;have jY:o.dst=some t:=by
          simp only[hg.out]at ak;split at ak
          ·assumption
          ·cases ak
         exact .inl (Nl (.inr jY) gE)
        |cnt=>exact .inl (Nm (tV.2 (by simpa[hg.out]using ak)) (hU.2 (H8 fS KQ)))
        |box id=>
         obtain⟨cs,hcs⟩:=DV fS KQ;have ad:∃cs,r.bx=some (id,cs):=by
          simp only[hg.out]at ak;split at ak
          ·rename_i eG cs' hb;split at ak
           ·rename_i e;subst e;exact⟨cs',hb⟩
           ·cases ak
          ·cases ak
         obtain⟨cs',ad⟩:=ad;rcases tV.1 id cs' ad with⟨_,k1,_⟩|⟨k1,k2⟩<;>rcases hU.1 id cs hcs with⟨_,bP,_⟩|⟨bP,cX⟩
         ·exact .inl (C7 k1 (.inl bP))
         ·exact .inl (C7 k1 (.inr bP))
         ·exact .inl (O6 k1 bP)
         ·have:=Eh (n0:=cc.m.n) ar k1 aU;exact .inr (by omega)
       rcases I9 with I9|h
       ·have xb:=ae.pair i o j fX ar fS c1 tx (by omega) I9;simp only[ord,Bool.or_eq_true,Bool.and_eq_true,decide_eq_true_eq]at xb;rcases xb with⟨h,_⟩|⟨_,h⟩
        ·omega
        ·exact U (Hd ae ah fS aC h)
       ·exact h
   by_cases Rc:∃i,i<cp/\EC ops i=true/\¬gd listed i
   ·obtain⟨i,c1,ej,U⟩:=Rc;unfold EC at ej;split at ej
    ·rename_i o ar;simp only[Bool.and_eq_true,Option.isNone_iff_eq_none,List.all_eq_true,Bool.not_eq_true']at ej;obtain⟨⟨⟨⟨aK,aO⟩,bS⟩,b8⟩,en⟩:=ej;split at aK
     ·rename_i x aE;have aX:=(Array.getElem?_eq_some_iff.1 ar).1;have ab:∀e∈o.after,oz e=true->gd listed e.on:=λe he hb=>by
       have:=bS e (by simpa using he);rw[this]at hb;cases hb
      have Bv:∀(j:Nat)(o:Oper),ops[j]?=some o->(∀cs b,o.op≠.select cs b)/\∀c,o.op≠.defer c:=λj fX aC=>by
       unfold O2 at en;have:=List.all_eq_true.1 en fX (by have:=(Array.getElem?_eq_some_iff.1 aC).2;rw[←this];simp);refine⟨λcs b e=>?_,λc e=>?_⟩<;>rw[e]at this<;>cases this
      have nh:∀t,o.dst=some t->t<N:=λt e=>by
       have:=List.all_eq_true.1 aV o (by have:=(Array.getElem?_eq_some_iff.1 ar).2;rw[←this];simp);simp only[nT,e,decide_eq_true_eq]at this;exact this
      refine VN (v:=a.eval x) ar Bv KO (λc e=>by rw[aE]at e;cases e) fuel listed a w (λj fX aC bU KP fu=>Region.free_spec ar b8 j fX aC bU (by
        have:=(Array.getElem?_eq_some_iff.1 aC).1;simp[this]) fu) (mem_ready.2 ⟨(yo (by omega)).2 U,o,ar,λe he hb=>ab e he hb⟩)
       (.inl ⟨by simp[Region.wanted,aO],λw=>by simp[execOp,aE]⟩) ?_
      refine step i o ar c1 U ab ⟨s.ay x,none,none⟩ φ _ w (oy.2 (.inl ⟨by simp[sK,aO],?_⟩)) (by rw[yD];exact ao.put nh (ao.ay x)) au (by rw[put_defers];exact dQ);simp only[iS,aE];exact⟨_,by simp[bV,aE],rfl⟩
     ·cases aK
    ·cases ej
   have Qd:i0∈Region.ready .any ops listed:=by
    refine mem_ready.2 ⟨(yo (by omega)).2 J7,ops[i0]'(by omega),by simp,λe he hb=>?_⟩;have aU:=ae.back i0 _ (by simp) e he hb;exact Classical.byContradiction λfu=>by
     have:=afB e.on ⟨by omega,fu⟩;omega
   refine⟨λad=>(by rw[ad]at Qd;cases Qd),λi hm=>?_⟩;obtain⟨U,o,ar,ab⟩:=mem_ready.1 hm;have aX:=(Array.getElem?_eq_some_iff.1 ar).1;rw[yo (by omega)]at U;have c1:i<cp:=by
    refine Nat.lt_of_not_le λh3=>J7 ?_;exact A1 ae ah i o ar (λe he hb=>ab e he hb) i0 ((ae.tail i o ar h3 i0 (by omega)).resolve_right λh=>Rc ⟨i0,h.1,h.2,J7⟩)
   obtain⟨km,amz,gr,p2,p3,p4,CI,TY,vH,LJ⟩:=path ae jw bq hw i (by omega);have wQ:(ops.toList.take cp).drop i=o::(ops.toList.take cp).drop (i+1):=by
    have aj:i<(ops.toList.take cp).length:=by simp;omega
    rw[List.drop_eq_getElem_cons aj];congr 1;have:=(Array.getElem?_eq_some_iff.1 ar).2;simpa using this
   rw[wQ,kO]at vH;obtain⟨fj,gB,dI⟩:=Ob ae ar c1 ah (λe he hb=>ab e he hb) U jw nj p2 (λj aC=>gr j aC) (λj o aC fS=>An ae (jw j aC) (bq j aC) fS) (λj o aC fS=>(LJ j o aC fS).1);have aN:=guard_congr fj vH;have nh:∀t,o.dst=some t->t<N:=λt e=>by
    have:=List.all_eq_true.1 aV o (by have:=(Array.getElem?_eq_some_iff.1 ar).2;rw[←this];simp);simp only[nT,e,decide_eq_true_eq]at this;exact this
   simp only[mr,ar];rcases yc ao aN with⟨BU,fz⟩|⟨BU,fA⟩
   ·rw[if_pos BU];have KR:sK ops s o=some true:=by
     rcases oy.1 aN with⟨h,_⟩|⟨h,_⟩
     ·exact h
     ·exfalso;rcases yc (X:=False) (Y:=True) ao (oy.2 (.inr ⟨h,trivial⟩))with⟨_,h⟩|⟨h,_⟩
      ·exact h
      ·rw[BU]at h;cases h
    have nY:=(IA fz).1;rw[p3]at nY;have ael:=WI (O4 fj) dI gB nY;have aem:pw cc.m s.m:=by
     refine⟨by rw[aI];exact Eg cp,λid cr=>?_⟩;rcases nj (.box id)with⟨j,v,dS,c2,c3,c4⟩|⟨dS,c2⟩
     ·exfalso;have tx:=jw j dS;have fS:ops[j]?=some (ops[j]'(by omega)):=by simp
      generalize ops[j]'(by omega)=fX at fS;obtain⟨hU,_⟩:=An ae tx (bq j dS) fS;obtain⟨cs,hcs⟩:=DV fS (by rw[c2];rfl);have:=Eg (n0:=cc.m.n) (ops:=ops) j;rcases hU.1 id cs hcs with⟨k,_⟩|⟨_,k⟩<;>omega
     ·have:¬(cc.m.n<=id/\id<eO cc.m.n ops cp):=by omega
      simpa[aA.loc,ph,this]using c2
    have gZ:j6 o=true->eO cc.m.n ops i<s.m.n/\s.m.β (eO cc.m.n ops i)=.hole:=by
     intro hm;have aU:=Eh (n0:=cc.m.n) ar hm c1;refine⟨by rw[aI];exact aU,?_⟩;rcases nj (.box (eO cc.m.n ops i))with⟨j,v,dS,c2,c3,c4⟩|⟨dS,c2⟩
     ·exfalso;have tx:=jw j dS;have kT:j≠i:=λe=>U (e▸dS);have fS:ops[j]?=some (ops[j]'(by omega)):=by simp
      generalize ops[j]'(by omega)=fX at fS;obtain⟨hU,_⟩:=An ae tx (bq j dS) fS;obtain⟨cs,hcs⟩:=DV fS (by rw[c2];rfl);rcases hU.1 _ cs hcs with⟨_,k1,k2⟩|⟨k1,k2⟩
      ·have xb:=ae.pair i o j fX ar fS c1 tx (Ne.symm kT) (O6 hm k1);simp only[ord,Bool.or_eq_true,Bool.and_eq_true,decide_eq_true_eq]at xb;rcases xb with⟨h,_⟩|⟨_,h⟩
       ·have:=Dw (n0:=cc.m.n) (ops:=ops) (Nat.le_of_lt h);omega
       ·exact U (Hd ae ah fS dS h)
      ·rcases Nat.lt_or_gt_of_ne kT with h|h
       ·have:=Eh (n0:=cc.m.n) fS k1 h;omega
       ·have:=Eh (n0:=cc.m.n) ar hm h;omega
     ·have:=Eg (n0:=cc.m.n) (ops:=ops) i;have bc:cc.m.n<=eO cc.m.n ops i/\eO cc.m.n ops i<eO cc.m.n ops cp:=⟨this,aU⟩;simpa[aA.loc,ph,bc]using c2
    intro τ d;refine Oper.k8 ?_ (abA (A:=A) (ao.a8 τ d) (cY.tu (by rw[he];exact au) τ d) nh (by rw[aT];exact aW.1) (by rw[aT];exact aW.2.2) aem ael gZ (by rw[aI];exact Dw (by omega)));rintro a' w' ⟨r,bn,g1,g2,g3,g4⟩;exact step i o ar c1 U (λe he hb=>ab e he hb) r bn a' w' (oy.2 (.inl ⟨KR,g1⟩)) g2 (by rw[←he];exact g3) (g4.trans dQ)
   ·rw[if_neg (by simp[BU])];have KR:sK ops s o=some false:=by
     rcases oy.1 aN with⟨h,_⟩|⟨h,_⟩
     ·exfalso;rcases yc (X:=True) (Y:=False) ao (oy.2 (.inl ⟨h,trivial⟩))with⟨h,_⟩|⟨_,h⟩
      ·rw[BU]at h;cases h
      ·exact h
     ·exact h
    exact step i o ar c1 U (λe he hb=>ab e he hb) ⟨.undef,none,none⟩ φ _ w (oy.2 (.inr ⟨KR,rfl⟩)) (by rw[yD];exact ao.put nh rfl) au (by rw[put_defers];exact dQ)
theorem H9{id:Nat}{s:aA}{Q:eJ->aA->Prop}(hm:P.follows .mixedOrders=true)(cp:Nat)(dH:Ra ops cp=true)(T:l0)
  (h:kO P s.m T ops (ops.toList.take cp) s λs'=>h1 P ops (ops.toList.drop cp) s' (Q .normal)):ff P (.region id ops true) s Q:=by
 intro A φ w N n r a aV ao au aW e3;have jv:ops.toList.all (nT N)=true:=DR aV;have ae:=Z7 dH;refine Mj hm ?_;have n9:∀i,¬gd (Array.replicate ops.size false) i:=λi h=>by
  simp[gd]at h;grind
 refine abB (A:=⟨A.gg,A.c9,φ,w⟩) ae jv h aW (D:=a.defers) ?_ (λa w τ d ⟨ex,s',bn,he,k1,k2,bP,kA,h⟩=>⟨ex,s',bn,he,k1.a8 τ d,k2.tu τ d,bP.rest (sD bn w τ d).toRest,kA,h⟩) ops.size _ a _ φ (λ_=>⟨.undef,none,none⟩) (ph s (eO s.m.n ops cp)) (by simp) (by simp[left]) (λi h=>absurd h (n9 i))
  (λi o _ h=>absurd h (n9 i)) (λj h=>absurd h (n9 j)) (we (O0 (out:=λ_ _=>none)) (λj=>⟨λh=>False.elim h,λh=>n9 j h⟩) (λj h=>False.elim h)) rfl rfl rfl rfl ?_ ⟨au.st,Rest.refl _ _⟩ rfl
 ·rintro a' w' s' e ⟨s2,bn,g1,g2,g3,rfl,g5⟩;exact⟨.normal,s2,bn,rfl,g1,⟨g2.st,au.a8.trans g2.a8⟩,by rw[g3];exact e3.rest g2.a8,by grind [Old],g5⟩
 ·refine⟨ao.tmp,ao.size,λi aX=>?_,λi aX=>?_,ao.mem.arr,ao.mem.jo,ao.mem.hp,ao.mem.sep,ao.mem.gw⟩
  ·by_cases c1:s.m.n<=i
   ·refine .inl ⟨?_,ao.mem.dt i c1⟩;grind [ph]
   ·rcases ao.mem.box i (by omega)with h|⟨b,cs,e,U,ab,al⟩;all_goals grind [ph]
  ·exact ao.mem.dt i (by grind [Eg,ph])
def ze(P:Program)(ops:Array Oper):Nat->Array Bool->aA->(aA->Prop)->Prop
 |0,l,s,K=>Region.ready .any ops l=[]/\K s
 |n+1,l,s,K=>(Region.ready .any ops l=[]->K s)/\∀i∈Region.ready .any ops l,∀o,ops[i]?=some o->h1 P ops [o] s λs'=>ze P ops n (l.setIfInBounds i true) s' K
theorem YG{r:Option Nat}{K:aA->Prop}{D:List Deferred}(aV:ops.toList.all (nT N)=true):∀(fuel:Nat)(listed:Array Bool)(a:Act)(w:World)(φ:bo)(s:aA),
  cW φ w N s a->cY A φ w s.bb->Old A s->a.defers=D->ze P ops fuel listed s K->(∀a' w' s',s'.a0=s.a0->Good A N D (λu=>u=s'/\K u) a' w'->Q .normal a' w') ->
  nR r P ops Q fuel listed a w:=by
 intro fuel;induction fuel with
 |zero=>
  intro listed a w φ s ao au aW dQ eP gI;exact⟨eP.1,gI a w s rfl ⟨s,φ,ao,au,dQ,rfl,eP.2⟩⟩
 |succ fuel az=>
  intro listed a w φ s ao au aW dQ eP gI;refine⟨λad=>gI a w s rfl ⟨s,φ,ao,au,dQ,rfl,eP.1 ad⟩,λi hm=>?_⟩;obtain⟨U,o,ar,ab⟩:=mem_ready.1 hm;have eP:=eP.2 i hm o ar;have nh:∀t,o.dst=some t->t<N:=λt e=>by grind [nT]
  simp only[h1]at eP;simp only[mr,ar];rcases yc ao eP with⟨hw,fz⟩|⟨hw,fA⟩
  ·rw[if_pos hw];intro τ d;obtain⟨s1,⟨aK,Bu⟩,fz⟩:=fz;obtain⟨ny,kQ,pC⟩:=Bu φ w N a A ao au aW;replace kQ:=kQ.a8 τ d;replace pC:=pC.tu τ d;have qm:Old A s1:=by grind [Old]
   refine Oper.k8 ?_ (yn (A:=A) kQ pC nh qm.1 qm.2.2 (uC (λs' e h=>(⟨e,h⟩:s'.a0=s1.a0/\_)) fz));rintro a' w' ⟨s',bn,g1,g2,g3,g4,g5⟩;grind [Old]
  ·have g1:cW φ w N (s.put o.dst .undef) (a.put o.dst undef):=ao.put nh rfl;grind [aA.uA,Old,aA.EA,put_defers]
theorem abC{id:Nat}{s:aA}{Q:eJ->aA->Prop}(hm:P.follows .mixedOrders=true)(h:ze P ops ops.size (Array.replicate ops.size false) s (Q .normal)):ff P (.region id ops true) s Q:=by
 intro A φ w N n r a aV ao au aW e3;have jv:ops.toList.all (nT N)=true:=DR aV;refine Mj hm ?_;refine YG (A:=⟨A.gg,A.c9,φ,w⟩) (D:=a.defers) jv ops.size _ a _ φ s ao ⟨au.st,Rest.refl _ _⟩ aW rfl h ?_;rintro a' w' s' e ⟨s2,bn,g1,g2,g3,rfl,g5⟩;exact⟨.normal,s2,bn,rfl,g1,⟨g2.st,au.a8.trans g2.a8⟩,by rw[g3];exact e3.rest g2.a8,by grind [Old],g5⟩
end
end
section
open Go Go.RowKit
variable[cQ]
section
variable{P:Program}{φ bn:bo}{w:World}{A:Anchor}{N n:Nat}{s:aA}{a:Act}{m:Mem}{l:Nat}{o o':Loop}
theorem step_loop(h:w.heap[l]?=some (.loop o)):Step φ w φ (w.putObj l (.loop o')) []:=
 ⟨λq c aH=>aY.shut (Mx h) _ _ aH,rfl,rfl,by simp_all,
  λb hb ar ak=>⟨World.putObj_heap_other (λe=>ak o (by grind)),ar⟩⟩
theorem Od(h:w.heap[l]?=some (.loop o)):Rest φ w φ (w.putObj l (.loop o')):=(step_loop h).toRest
theorem HB{E:List b9}(k:cY A φ w E)(h:w.heap[l]?=some (.loop o)):cY A φ (w.putObj l (.loop o')) E:=by
 have:=k.trans (step_loop (o':=o') h);grind
theorem Oe{rc:List (Nat×Loop)}(hm:c0 φ m w)(h:w.heap[l]?=some (.loop o))(fb:∀p∈rc,p∈m.rc)(bU:∀p∈rc,p.1≠l):c0 φ { m with rc:=rc } (w.putObj l (.loop o')):=
 N9 (m:={ m with rc:=rc }) (Mx h) (λaG o ak=>bU _ ak) ⟨hm.box,hm.dt,hm.arr,hm.jo,hm.hp,hm.sep,λl o ak=>hm.gw l o (fb _ ak)⟩
theorem Of{rc1 rc2:List (Nat×Loop)}(hm:c0 φ m w)(fb:m.rc=rc1++(l,o)::rc2)(bU:∀p∈rc1++rc2,p.1≠l):c0 φ { m with rc:=rc1++(l,o')::rc2 } (w.putObj l (.loop o')):=by
 have h:w.heap[l]?=some (.loop o):=hm.gw l o (by grind);have aV:=Oe (o':=o') (rc:=rc1++rc2) hm h (λp ae=>by grind) bU;refine⟨aV.box,aV.dt,aV.arr,aV.jo,aV.hp,aV.sep,λaG tb ak=>?_⟩;simp  at ak;rcases ak with ak|ak|ak
 ·exact aV.gw aG tb (by simp[ak])
 ·grind [World.putObj_heap_same]
 ·exact aV.gw aG tb (by simp[ak])
theorem Z9{m':Mem}{w':World}(h:cW φ w N s a)(ao:Step φ w φ w' [])(hm:c0 φ m' w'):cW φ w' N { s with m:=m' } a:=
 ⟨λt=>ao.tr _ _ (h.tmp t),h.size,hm⟩
def iH:eJ->Option Code
 |.normal=>none
 |.ret=>some .ret
 |.exit i=>some (.exit i)
def uR(g:Nat->aa):List Nat->List aa->Nat->aa
 |p::a7,v::af=>uR (λt=>if t=p then v else g t) a7 af
 |_,_=>g
def ED(ys:List eN)(g:Nat->aa)(a7:List Nat)(args:List aa)(m:Mem):aA:=⟨uR g a7 args,m,⟨m.an,m.n,ys⟩,[]⟩
theorem Og:∀(a7:List Nat)(args:List aa)(af:List Value)(g:Nat->aa)(tmps:Array Value),(∀p∈a7,p<tmps.size)->a7.length=args.length->bl φ w args af->(∀t,aY φ w (g t) (tmps.getD t undef)) ->
  (∀t,aY φ w (uR g a7 args t) (((a7.zip af).foldl (λtmps (t,a)=>tmps.setIfInBounds t a) tmps).getD t undef))/\((a7.zip af).foldl (λtmps (t,a)=>tmps.setIfInBounds t a) tmps).size=tmps.size
 |[],args,af,g,tmps,_,_,_,h=>by simp_all[uR]
 |p::a7,[],af,g,tmps,_,ak,_,h=>by simp at ak
 |p::a7,v::args,af,g,tmps,ae,ak,ai,h=>by
  obtain⟨u,us,rfl,U,ab⟩:=ai;simp only[uR,List.zip_cons_cons,List.foldl_cons];obtain⟨k1,k2⟩:=Og a7 args us (λt=>if t=p then v else g t) (tmps.setIfInBounds p u) (λq aH=>by grind) (by grind) ab (λt=>by
   simp ;grind [Array.getD_eq_getD_getElem?])
  grind
theorem VO{ys:List eN}{y:eN}{args:List aa}{Q:aa->List b9->Mem->Prop}(aF:y∈ys)(gy:∀p∈y.o.params.toList,p<y.o.tmps.size)(hlen:y.o.params.toList.length=args.length)
  (ahh:hr y.o.tmps.size y.o.assign=true) (ahi:hr y.o.tmps.size y.o.body=true) (TZ:mm y.o.assign=true) (kr:mm y.o.body=true)
  (h:ff P y.o.assign (ED ys y.g y.o.params.toList args m) λe s1=>e=.normal/\∃rc1 rc2 mJ,s1.m.rc=rc1++(y.l,{ y.o with state:=.ready,pending:=mJ })::rc2/\(∀p∈rc1++rc2,p.1≠y.l) /\
   ff P y.o.body { s1 with m:={ s1.m with rc:=rc1++(y.l,{ y.o with state:=.busy,pending:=mJ })::rc2 } } λe s2=>∃nZ n1 st KS,s2.m.rc=nZ++(y.l,{ y.o with state:=st,pending:=KS })::n1/\(∀p∈nZ++n1,p.1≠y.l) /\
    Q (.bool (iH e).isNone) s2.bb { s2.m with rc:=nZ++(y.l,{ y.o with state:=if(iH e).isNone then .ready else .done,pending:=iH e })::n1 }):wD P ys y.o y.l args m Q:=by
 intro φ af w n hm ai tw;refine VP ?_;have aen:(y.o.params.zip af.toArray).foldl (λtmps (t,a)=>tmps.setIfInBounds t a) y.o.tmps=(y.o.params.toList.zip af).foldl (λtmps (t,a)=>tmps.setIfInBounds t a) y.o.tmps:=by grind [Array.toList_zip]
 rw[aen];obtain⟨g1,g2⟩:=Og y.o.params.toList args af y.g y.o.tmps gy hlen ai (tw y aF);have ao:cW φ w y.o.tmps.size (ED ys y.g y.o.params.toList args m) { tmps:=(y.o.params.toList.zip af).foldl (λtmps (t,a)=>tmps.setIfInBounds t a) y.o.tmps,defers:=[] }:=⟨g1,g2,hm⟩;have aW:Old ⟨φ,w,φ,w⟩ (ED ys y.g y.o.params.toList args m):=⟨λi b aX=>(hm.arr i b aX).1,λi b aX=>Nat.lt_of_not_le λhle=>(by rw[hm.dt i hle]at aX;cases aX),tw⟩;refine k8 (h ⟨φ,w,φ,w⟩ φ w y.o.tmps.size n (some y.l) _ (OX ahh TZ) ao ⟨Step.refl φ w,Rest.refl φ w⟩ aW trivial) ?_;rintro e eD w1 ⟨ex,s1,ny,he,k1,k2,bP,kA,rfl,rc1,rc2,mJ,fb,bU,hb⟩;cases e<;>simp[eJ.of]at he<;>try (done)
 intro τ d;replace k1:=k1.a8 τ d;replace k2:=k2.tu τ d;replace bP:=bP.rest (sD ny w1 τ d).toRest;generalize a8 w1 τ d=w1 at *;have ak:w1.heap[y.l]?=some (.loop { y.o with state:=.ready,pending:=mJ }):=k1.mem.gw _ _ (by grind);refine⟨_,run_beginRound ak rfl,?_⟩;have kU:=Of (o':={ y.o with state:=.busy,pending:=mJ }) k1.mem fb bU;refine k8 (hb ⟨φ,w,φ,w⟩ ny _ y.o.tmps.size n (some y.l) eD (OX ahi kr) (Z9 k1 (step_loop ak) kU) (HB k2 ak) kA (bP.rest (Od ak))) ?_;rintro e a2 w2 ⟨ex,s2,xS,he,Gv,LK,amA,amB,nZ,n1,st,KS,Fi,J8,aH⟩;have fin:∀τ d,∃v w',(Instr.endRound y.l (iH ex)).run P (a8 w2 τ d)=.ok v w'/\∃bg pv E m' bn,Ending.returned v=.returned bg/\aY bn w' pv bg/\c0 bn m' w'/\Step φ w bn w' E/\Q pv E m':=by
  intro τ d;replace Gv:=Gv.a8 τ d;replace LK:=LK.tu τ d;have bQ:w2.heap[y.l]?=some (.loop { y.o with state:=st,pending:=KS }):=Gv.mem.gw _ _ (by grind);refine⟨_,_,run_endRound (iH ex) bQ,_,.bool (iH ex).isNone,s2.bb,_,xS,rfl,rfl,Of Gv.mem Fi J8,?_,aH⟩;have:=(HB (o':={ y.o with state:=if(iH ex).isNone then .ready else .done,pending:=iH ex }) LK bQ).st;exact this
 cases e<;>simp[eJ.of]at he<;>try (done)
 all_goals subst he;exact fin
theorem VQ{h:Operand}{a7:Array Tmp}{kV body:Code}{g:FuncId}{bf:List aa}{Q:eJ->aA->Prop}{rc1 rc2:List (Nat×Loop)}
  (aQ:s.ay h=.fn g bf) (aN:∃fn,P.funcs[g]?=some fn/\fn.name ≠ "runtime.NumGoroutine" /\ fn.body.isSome) (fb:s.m.rc=rc1++rc2)
  (H:∀(l:Nat)(o:Loop),o.params=a7->o.assign=kV->o.body=body->o.state=.ready->o.pending=none->(∀p∈a7.toList,p<o.tmps.size)->hr o.tmps.size kV=true->hr o.tmps.size body=true->(∀p∈s.m.rc,p.1≠l) ->
   qR P (s.c7++[⟨l,o,s.g⟩]) g (.cq l::bf) { s.m with rc:=rc1++(l,o)::rc2 } λv E m'=>∃st ex nZ n1,m'.rc=nZ++(l,{ o with state:=st,pending:=iH ex })::n1/\st≠.busy/\(∀p∈nZ++n1,p.1≠l)/\Q ex (s.after E { m' with rc:=nZ++n1 })):
  ff P (.rangeFunc h a7 kV body) s Q:=by
 intro A φ w N n r a aV ao au aW hm;have ad:r=none:=by
  cases r with
  |none=>rfl
  |some l=>grind [mC,mm]
 subst ad;have jv:=DR aV;simp only[hr,Bool.and_eq_true,List.all_eq_true,decide_eq_true_eq]at jv;refine VR λfn τ e=>?_;replace ao:=ao.a8 τ e;replace au:=au.tu τ e;replace hm:=hm.rest (sD φ w τ e).toRest;generalize a8 w τ e=w at *;have eH:=ao.ay h;rw[aQ]at eH;obtain⟨af,ai,e0⟩:=eH;obtain⟨ak5,afC,hs,JC⟩:=aN;obtain⟨code,JD⟩:=Option.isSome_iff_exists.1 JC;let o:Loop:={ state:=.ready,pending:=none,fn,tmps:=a.tmps,params:=a7,assign:=kV,body,defers:=w.heap.size };let w1:World:=(w.alloc (.deferred (some []))).alloc (.loop o);have bX:a.tmps.size=N:=ao.size;have wR:∀b,b<w.heap.size->w1.heap[b]?=w.heap[b]?:=λb hb=>by
  show((w.heap.push _).push _)[b]?=_;grind
 have kQ:(w.alloc (.deferred (some []))).heap.size=w.heap.size+1:=by simp
 have dg:w1.heap[w.heap.size+1]?=some (.loop o):=by grind [World.alloc_heap_new]
 have dQ:w1.heap[w.heap.size]?=some (.deferred (some [])):=by
  have U:=World.alloc_heap_new w (.deferred (some []));show((w.alloc (.deferred (some []))).heap.push _)[w.heap.size]?=_;grind
 have fg:w1.heap.size=w.heap.size+2:=by show((w.heap.push _).push _).size=_;simp
 have ju:∀b,φ.own b->b<w.heap.size:=by
  rintro b (⟨i,aX⟩|⟨i,aX⟩)
  ·obtain⟨cs,e,U,_⟩:=ao.mem.has aX;grind
  ·exact(ao.mem.arr i b aX).2.lt
 have q7:kk φ w φ w1:=⟨λ_ _ h=>h,λ_ _ h=>h,λ_ _ h=>h,by omega,λi b aX=>wR b (ju b (.inr ⟨i,aX⟩)),λb hb _=>wR b hb⟩;have eo:Step φ w φ w1 []:=⟨λq c aH=>aY.keeps q7 q c aH,rfl,rfl,by omega,λb hb ar _=>⟨wR b hb,ar⟩⟩;have gM:∀p∈s.m.rc,p.1<w.heap.size:=λp ae=>(Array.getElem?_eq_some_iff.1 (ao.mem.gw p.1 p.2 ae)).1;have xu:c0 φ { s.m with rc:=rc1++(w.heap.size+1,o)::rc2 } w1:=by
  refine⟨λi aX=>?_,ao.mem.dt,λi b aX=>?_,ao.mem.jo,ao.mem.hp,ao.mem.sep,λl tb ak=>?_⟩
  ·rcases ao.mem.box i aX with U|⟨b,cs,e,U,ab,al⟩
   ·grind
   ·refine .inr ⟨b,cs,e,U,(wR b (ju b (.inl ⟨i,U⟩))).trans ab,?_⟩;show m3 φ w1 (s.m.β i) cs.toList;cases ah:s.m.β i with
    |cells l=>rw[ah]at al;exact bl.keeps q7 l _ al
    |inv I=>
     rw[ah]at al;obtain⟨l,cy,dM,gC,jF⟩:=al;exact⟨l,cy,dM,gC,bl.keeps q7 l _ jF⟩
    |hole=>rw[ah]at al;exact al.elim
  ·obtain⟨U,ab⟩:=ao.mem.arr i b aX;exact⟨U,ab.of_eq (wR b (ju b (.inr ⟨i,aX⟩)))⟩
  ·simp only[List.mem_append,List.mem_cons]at ak;have old:(l,tb)∈s.m.rc->w1.heap[l]?=some (.loop tb):=λak=>(wR l (gM _ ak)).trans (ao.mem.gw l tb ak);rcases ak with ak|ak|ak
   ·exact old (by rw[fb];simp[ak])
   ·injection ak with U ab;subst U;subst ab;exact dg
   ·exact old (by rw[fb];simp[ak])
 have ahj:aY φ w1 (.cq (w.heap.size+1)) (.func (.yield (w.heap.size+1)) #[] #[]):=by simp only[aY]
 have mE:p9 (s.c7++[⟨w.heap.size+1,o,s.g⟩]) φ w1:=by
  intro y aF t;simp only[List.mem_append,List.mem_singleton]at aF;rcases aF with aF|rfl
  ·exact aY.keeps q7 _ _ (Hx au aW.2.2 y aF t)
  ·exact aY.keeps q7 _ _ (ao.tmp t)
 have afD:cY A φ w1 s.bb:=by
  have:=au.trans eo;rwa[List.append_nil]at this
 have Bd:=H (w.heap.size+1) o rfl rfl rfl rfl rfl (λp ae=>by show p<a.tmps.size;rw[bX];exact jv.1.1 p ae) (by show hr a.tmps.size kV=true;rw[bX];exact jv.1.2) (by show hr a.tmps.size body=true;rw[bX];exact jv.2) (λp ae=>by have:=gM p ae;omega)
  φ (.func (.yield (w.heap.size+1)) #[] #[]::af) w1 xu ⟨_,_,rfl,ahj,bl.keeps q7 _ _ e0⟩ mE
 refine⟨w.heap.size+1,[{ target:=.collected w.heap.size,args:=#[] }],w1,{ target:=.fn (.func g) af.toArray,args:=#[]++#[.func (.yield (w.heap.size+1)) #[] #[]] },w1,g,(.func (.yield (w.heap.size+1)) #[] #[]::af).toArray,w1,run_enterLoop_outer _ _ _ _ _,?_,?_,?_⟩
 ·have hcs:a.eval (.const (.func (.yield (w.heap.size+1)) #[] #[]))=.func (.yield (w.heap.size+1)) #[] #[]:=rfl;simp[resolve,ai,Deferred.ofValue,hcs]
 ·simp[invoke,callFunc,afC,hs,JD]
 ·refine Bd.mono ?_;rintro e w3 ⟨v,pv,E,m',bn,rfl,eW,eX,A2,st,ex,nZ,n1,Fi,JF,J8,aH⟩;intro τ d;replace eX:=eX.a8 τ d;replace A2:Step φ w1 bn (a8 w3 τ d) E:=by
   have:=A2.trans (sD bn w3 τ d);rwa[List.append_nil]at this
  clear eW;generalize a8 w3 τ d=w3 at *;have dC:w3.heap[w.heap.size+1]?=some (.loop { o with state:=st,pending:=iH ex }):=eX.gw _ _ (by rw[Fi];simp);refine⟨iH ex,_,run_endLoop dC JF,?_⟩;have ahk:c0 bn { m' with rc:=nZ++n1 } (w3.putObj (w.heap.size+1) (.loop { state:=.exhausted,pending:=iH ex,fn:=o.fn,tmps:=o.tmps,params:=o.params,assign:=o.assign,body:=o.body,defers:=o.defers })):=
   Oe eX dC (λp ae=>by rw[Fi];simp only[List.mem_append,List.mem_cons]at ae⊢;rcases ae with ae|ae<;>simp[ae]) J8
  have vq:cY A bn w3 (gV s.a0.a s.bb E):=cY.add aW.1 (afD.trans A2);have ahl:cW bn (w3.putObj (w.heap.size+1) (.loop { state:=.exhausted,pending:=iH ex,fn:=o.fn,tmps:=o.tmps,params:=o.params,assign:=o.assign,body:=o.body,defers:=o.defers })) N (s.after E { m' with rc:=nZ++n1 }) { a with defers:=[{ target:=.collected w.heap.size,args:=#[] }]++a.defers }:=
   ⟨λt=>(step_loop dC).tr _ _ (A2.tr _ _ (eo.tr _ _ (ao.tmp t))),ao.size,ahk⟩
  have gZ:Marks bn (w3.putObj (w.heap.size+1) (.loop { state:=.exhausted,pending:=iH ex,fn:=o.fn,tmps:=o.tmps,params:=o.params,assign:=o.assign,body:=o.body,defers:=o.defers })) A.c9 ([{ target:=.collected w.heap.size,args:=#[] }]++a.defers):=by
   have cn:Rest φ w1 bn (w3.putObj (w.heap.size+1) (.loop { state:=.exhausted,pending:=iH ex,fn:=o.fn,tmps:=o.tmps,params:=o.params,assign:=o.assign,body:=o.body,defers:=o.defers })):=A2.toRest.trans (Od dC);have fu:¬φ.own w.heap.size:=λh=>by have:=ju _ h;omega
   refine Marks.rest cn ⟨⟨w.heap.size,rfl,au.st.size,dQ,fu,λdq jv=>?_⟩,hm.rest eo.toRest⟩;intro e;subst e;have:∀{l:List Deferred},Marks φ w A.c9 l->∀D,{ target:=.collected D,args:=#[] }∈l->D<w.heap.size:=by
    intro l;induction l with
    |nil=>intro _ D h;cases h
    |cons d l az=>
     rintro⟨⟨D,U,_,ab,_⟩,ak⟩ D' h;rcases List.mem_cons.1 h with h|h
     ·rw[U]at h;injection h with h _;injection h with h;subst h;exact(Array.getElem?_eq_some_iff.1 ab).1
     ·exact az ak D' h
   have:=this hm _ jv;omega
  have J9:EP A N Q (match ex with | .normal=>.normal | .ret=>.ret | .exit i=>.exit i) { a with defers:=[{ target:=.collected w.heap.size,args:=#[] }]++a.defers } (w3.putObj (w.heap.size+1) (.loop { state:=.exhausted,pending:=iH ex,fn:=o.fn,tmps:=o.tmps,params:=o.params,assign:=o.assign,body:=o.body,defers:=o.defers })):=
   ⟨ex,_,bn,by cases ex<;>rfl,ahl,HB vq dC,gZ,aW,aH⟩
  cases ex with
  |normal=>exact J9
  |ret=>exact P5 J9
  |exit i=>exact OZ J9
end
end
section
open Go Go.RowKit
variable[cQ]
mutual
def aa.bK(id:Nat):aa->aa
 |.sl (some i) sz off len cs=>.sl (if i=id then none else some i) sz off len (iW id cs)
 |.sl none sz off len cs=>.sl none sz off len (iW id cs)
 |.bJ (some i) off cs=>.bJ (if i=id then none else some i) off (iW id cs)
 |.bJ none off cs=>.bJ none off (iW id cs)
 |.fn f cs=>.fn f (iW id cs)
 |.agg cs=>.agg (iW id cs)
 |.bD cs=>.bD (iW id cs)
 |.ptr i o=>.ptr i o
 |.aV i o z=>.aV i o z
 |.int k m=>.int k m
 |.bool b=>.bool b
 |.str s=>.str s
 |.undef=>.undef
 |.bad=>.bad
 |.ca=>.ca
 |.eL=>.eL
 |.bC=>.bC
 |.dead k=>.dead k
 |.cq k=>.cq k
 |.mp it none sz cs=>.mp it none sz cs
 |.mp it (some i) sz cs=>.mp it (if i=id then none else some i) sz cs
def iW(id:Nat):List aa->List aa
 |[]=>[]
 |p::a7=>p.bK id::iW id a7
end
theorem sF(id:Nat)(l:List aa):iW id l=l.map (aa.bK id):=by
 induction l with
 |nil=>rfl
 |cons p a7 az=>simp[iW,az]
def bo.drop(φ:bo)(id:Nat):bo:={ box:=φ.box,arr:=λi=>if i=id then none else φ.arr i }
section
variable{φ:bo}{w:World}{m:Mem}{id:Nat}
theorem Ms:sB id φ w (φ.drop id) w:=
 ⟨λ_ _ h=>h,λi b aX h=>by simp[bo.drop,aX,h],λb _ ar k=>ar (by
  rcases k with⟨i,h⟩|⟨i,h⟩
  ·exact .inl ⟨i,h⟩
  ·simp only[bo.drop]at h;split at h
   ·cases h
   ·exact .inr ⟨i,h⟩),Nat.le_refl _,λ_ _ _ _=>rfl,λ_ _ _=>rfl⟩
theorem AJ{b:Nat}(h:(φ.drop id).own b):φ.own b:=by
 rcases h with⟨i,h⟩|⟨i,h⟩
 ·exact .inl ⟨i,h⟩
 ·simp only[bo.drop]at h;split at h
  ·cases h
  ·exact .inr ⟨i,h⟩
theorem Me{b sz off cap:Nat}(h:place φ w none b sz off cap):place (φ.drop id) w none b sz off cap:=⟨λk=>h.1 (AJ k),h.2⟩
theorem NH(hm:c0 φ m w){i b sz off cap:Nat}(h:place φ w (some i) b sz off cap):place (φ.drop id) w (if i=id then none else some i) b sz off cap:=by
 by_cases aX:i=id
 ·rw[if_pos aX];refine⟨λar=>?_,jN hm h.1⟩;rcases ar with⟨j,aC⟩|⟨j,aC⟩
  ·exact hm.sep j i b aC h.1
  ·simp only[bo.drop]at aC;split at aC
   ·cases aC
   ·rename_i bU;exact bU ((hm.hp j i b aC h.1).trans aX)
 ·rw[if_neg aX];exact⟨by simp[bo.drop,aX,h.1],h.2⟩
mutual
theorem aY.bK(hm:c0 φ m w):∀(q:aa)(c:Value),aY φ w q c->aY (φ.drop id) w (q.bK id) c
 |.int _ _,c,h | .bool _,c,h | .str _,c,h | .undef,c,h | .bad,c,h | .ca,c,h | .eL,c,h | .bC,c,h | .dead _,c,h | .cq _,c,h=>by simp only[aY,aa.bK]at h⊢<;>exact h
 |.ptr i o,c,h=>by
  simp only[aY,aa.bK]at h⊢;exact h
 |.aV i o z,c,h=>by
  simp only[aY,aa.bK]at h⊢;exact h
 |.sl none sz off len cs,c,h=>by
  simp only[aY,aa.bK]at h⊢;obtain⟨ak,a,cap,ai,ah,h⟩:=h;refine⟨by rw[sF,List.length_map];exact ak,a,cap,ai,ah,?_⟩;rcases h with h|⟨b,bL,ae,ad⟩
  ·exact .inl h
  ·exact .inr ⟨b,bL,Me ae,b7.bK hm b cs off ad⟩
 |.sl (some i) sz off len cs,c,h=>by
  simp only[aY,aa.bK]at h⊢;obtain⟨ak,a,cap,ai,ah,h⟩:=h;refine⟨by rw[sF,List.length_map];exact ak,a,cap,ai,ah,?_⟩;rcases h with h|⟨b,bL,ae,ad⟩
  ·exact absurd h.1 (by simp)
  ·exact .inr ⟨b,bL,NH hm ae,b7.bK hm b cs off ad⟩
 |.bJ none off cs,c,h=>by
  simp only[aY,aa.bK]at h⊢;obtain⟨b,bL,ae,ad⟩:=h;exact⟨b,bL,Me ae,b7.bK hm b cs off ad⟩
 |.bJ (some i) off cs,c,h=>by
  simp only[aY,aa.bK]at h⊢;obtain⟨b,bL,ae,ad⟩:=h;exact⟨b,bL,NH hm ae,b7.bK hm b cs off ad⟩
 |.fn f cs,c,h=>by
  simp only[aY,aa.bK]at h⊢;obtain⟨af,U,ab⟩:=h;exact⟨af,U,bl.bK hm cs af ab⟩
 |.agg cs,c,h=>by
  simp only[aY,aa.bK]at h⊢;obtain⟨af,U,ab⟩:=h;exact⟨af,U,bl.bK hm cs af ab⟩
 |.bD cs,c,h=>by
  simp only[aY,aa.bK]at h⊢;obtain⟨af,U,ab⟩:=h;exact⟨af,U,bl.bK hm cs af ab⟩
 |.mp it none sz cs,c,h=>by
  simp only[aY,aa.bK]at h⊢;exact h.move (λb o ae bq _ _ _=>⟨λk=>ae (AJ k),bq⟩) λb o ae bq _ _ _=>⟨λk=>ae (AJ k),bq⟩
 |.mp it (some i) sz cs,c,h=>by
  simp only[aY,aa.bK]at h⊢;refine h.move (λb o ae bq _ _ _=>⟨?_,bq⟩) λb o ae bq _ _ _=>⟨λk=>ae (AJ k),bq⟩;simp only[o9]at ae;by_cases aX:i=id
  ·simp only[aX,if_true,o9];rintro(⟨j,aC⟩|⟨j,aC⟩)
   ·exact hm.sep j i b aC ae
   ·simp only[bo.drop]at aC;split at aC
    ·cases aC
    ·rename_i bU;exact bU ((hm.hp j i b aC ae).trans aX)
  ·simp[aX,o9,bo.drop,ae]
theorem bl.bK(hm:c0 φ m w):∀(l:List aa)(af:List Value),bl φ w l af->bl (φ.drop id) w (iW id l) af
 |[],af,h=>by simp only[bl,iW]at h⊢;exact h
 |p::a7,af,h=>by
  simp only[bl,iW]at h⊢;obtain⟨v,cB,e,aT,U⟩:=h;exact⟨v,cB,e,aY.bK hm p v aT,bl.bK hm a7 cB U⟩
theorem b7.bK(hm:c0 φ m w)(b:Nat):∀(l:List aa)(off:Nat),b7 φ w b l off->b7 (φ.drop id) w b (iW id l) off
 |[],_,_=>by simp only[b7,iW]
 |p::a7,off,h=>by
  simp only[b7,iW]at h⊢;obtain⟨⟨c,ah,aT⟩,U⟩:=h;exact⟨⟨c,ah,aY.bK hm p c aT⟩,b7.bK hm b a7 (off+1) U⟩
end
end
def di.bK(id:Nat):di->di
 |.cells l=>.cells (l.map (aa.bK id))
 |.inv I=>.inv I
 |.hole=>.hole
def aA.freeze(s:aA)(id:Nat):aA:={ s with g:=λt=>(s.g t).bK id,m:={ s.m with β:=λi=>(s.m.β i).bK id },bb:=gV s.a0.a s.bb [.kill id] }
theorem V5(s:aA)(id:Nat):dW s (s.freeze id):=by
 refine⟨rfl,λφ w N a A ao au aW=>⟨φ.drop id,⟨λt=>aY.bK ao.mem _ _ (ao.tmp t),ao.size,?_⟩,?_⟩⟩
 ·have hm:=ao.mem;refine⟨λi aX=>?_,hm.dt,λi b h=>?_,hm.jo,λi j b U ab=>?_,λi j b U ab=>?_,hm.gw⟩
  ·rcases hm.box i aX with⟨g1,g2⟩|⟨b,cs,e,hb,bq,ad⟩
   ·exact .inl ⟨by simp[aA.freeze,di.bK,g1],g2⟩
   ·refine .inr ⟨b,cs,e,hb,bq,?_⟩;cases ah:s.m.β i with
    |cells l=>
     rw[ah]at ad;simp only[aA.freeze,ah,di.bK,m3];rw[←sF];exact bl.bK hm l _ ad
    |inv I=>
     rw[ah]at ad;simp only[aA.freeze,ah,di.bK];obtain⟨l,U,ab,al,aJ⟩:=ad;refine⟨l,U,ab,al,?_⟩;have:=bl.kill (Ms (φ:=φ) (w:=w) (id:=id)) l _ aJ;rwa[ab]at this
    |hole=>rw[ah]at ad;exact ad.elim
  ·simp only[bo.drop]at h;split at h
   ·cases h
   ·exact hm.arr i b h
  ·simp only[bo.drop]at U ab;split at U<;>first|(cases U;done)|skip
   split at ab<;>first|(cases ab;done)|skip
   exact hm.hp i j b U ab
  ·simp only[bo.drop]at ab;split at ab<;>first|(cases ab;done)|skip
   exact hm.sep i j b U ab
 ·have bh:Step φ w (φ.drop id) w [.kill id]:=⟨λq c h=>aY.kill Ms q c h,rfl,rfl,Nat.le_refl _,λb _ ar _=>⟨rfl,λk=>ar (AJ k)⟩⟩;exact cY.add aW.1 (au.trans bh)
def aA.akX(s:aA)(i:Nat)(I:List aa->Prop):aA:={ s with m:={ s.m with β:=ea s.m.β i (.inv I) } }
end
section
open Go Go.RowKit
variable[cQ]
mutual
def aa.plain:aa->Bool
 |.int _ _ | .bool _ | .str _ | .ca | .eL | .bC=>true
 |.sl none _ _ _ cs=>bG cs
 |.bJ none _ cs=>bG cs
 |.fn _ cs=>bG cs
 |.agg cs=>bG cs
 |.bD cs=>jO cs
 |.mp _ none _ _=>true
 |_=>false
def bG:List aa->Bool
 |[]=>true
 |p::a7=>p.plain&&p.one&&bG a7
def jO:List aa->Bool
 |[]=>true
 |p::a7=>p.plain&&jO a7
end
inductive aR where
 |var (i:Nat)
 |proj (e:aR) (j:Nat)
 |bu (v:aa)
 deriving Inhabited
def cM(v:aa)(j:Nat):aa:=match v with
 |.agg cs=>cs.getD j .bad
 |_=>.bad
def aR.den(ρ:List aa):aR->aa
 |.var i=>ρ.getD i .bad
 |.proj e j=>cM (e.den ρ) j
 |.bu v=>v
inductive e9 where
 |real
 |cZ
 |dyn (x:aR)
 |map
 |it
 deriving Inhabited
inductive aS where
 |e (x:aR)
 |agg (l:List aS)
 |bD (l:List aS)
 |lit (sz len:Nat) (l:List aS)
 |fn (f:FuncId) (l:List aS)
 |ref (l:List aS)
 deriving Inhabited
mutual
def aS.den(ρ:List aa):aS->aa
 |.e x=>x.den ρ
 |.agg l=>.agg (ep ρ l)
 |.bD l=>.bD (ep ρ l)
 |.lit sz len l=>.sl none sz 0 len (ep ρ l)
 |.fn f l=>.fn f (ep ρ l)
 |.ref l=>.bJ none 0 (ep ρ l)
def ep(ρ:List aa):List aS->List aa
 |[]=>[]
 |x::l=>x.den ρ::ep ρ l
end
inductive Prim where
 |bin (op:BinOp) (t:TypeId) (x y:aS)
 |un (op:UnOp) (x:aS)
 |conv (src dst:TypeId) (x:aS)
 |ext (x:aS) (i:Nat)
 |agg (n:Nat) (x:aS)
 |one (x:aS)
 |row (sz:Nat) (x i:aS)
 |idx (t:TypeId) (x i:aS)
 |len (t:TypeId) (x:aS)
 |slice (t:TypeId) (x:aS) (cw aX:Option aS)
 |iz (max:Bool) (l:List aS)
 |j2 (l:List aS)
 |mk (z:List aa) (bytes:Nat) (n:aS)
 |kX (sz:Nat) (c:aR) (i:aS)
 |get (sz fo n:Nat) (c i:aR)
 |put (sz fo:Nat) (c i:aR) (l:List aS)
 |push (sz bytes:Nat) (c:aR) (y:aS)
 |oG (sz:Nat) (c:aR)
 |bK (sz:Nat) (born:e9) (c:aR)
 |deref (n:Nat) (x:aS)
 |cont (real:Bool) (sz:Nat) (x:aS)
 |wZ (x:aS)
 |ints (x:aS)
 |ins (cR:TypeId) (sz:Nat) (c:aR) (l:List aS)
 |keys (sz:Nat) (x:aS)
 |mI (sz:Nat) (c:aR)
 |lI (c:aR)
 |qz (c:aR)
 |qA (b:e9) (c:aR)
 deriving Inhabited
def ll(x:aa)(i:Nat):Option aa:=match x with
 |.bD af=>af[i]?
 |_=>none
def vc(n:Nat)(x:aa):Option aa:=match x with
 |.agg cs=>if cs.length=n then some x else none
 |_=>none
def na(x:aa):Option aa:=if x.one=true then some x else none
def kp(sz:Nat)(x i:aa):Option aa:=match x,i with
 |.sl none iL _ len cs,.int _ n=>if 0<=n/\n<(len:Int)/\iL=sz/\((cs.drop (n.toNat*sz)).take sz).length=sz then some (.agg ((cs.drop (n.toNat*sz)).take sz))else none
 |_,_=>none
def xK(qC:Bool)(l:List aa):Option aa:=if qC=true then u3 l else s4 l
def tL(z:List aa)(bytes:Nat)(n:aa):Option aa:=match n with
 |.int .i64 k=>if 0<=k/\k*bytes<=140737488355328/\k<=9223372036854775807 then some (.agg (e8 z k.toNat))else none
 |_=>none
def zj(sz:Nat)(c i:aa):Option aa:=match c,i with
 |.agg cs,.int k n=>if 0<=n/\n.toNat<cs.length/sz then some (.int k n)else none
 |_,_=>none
def zk(sz fo n:Nat)(c i:aa):Option aa:=match c,i with
 |.agg cs,.int _ k=>if n=((cs.drop (k.toNat*sz+fo)).take n).length then some (.agg ((cs.drop (k.toNat*sz+fo)).take n))else none
 |_,_=>none
def vd(sz fo:Nat)(c i:aa)(l:List aa):Option aa:=match c,i with
 |.agg cs,.int _ k=>if k.toNat*sz+fo+l.length<=cs.length then some (.agg (fa cs (k.toNat*sz+fo) l))else none
 |_,_=>none
def uW(sz bytes:Nat)(c y:aa):Option aa:=match c,wO sz y with
 |.agg cs,some (m,news)=>if news.length=m*sz/\(cs.length/sz+m)*bytes<=140737488355328/\cs.length/sz+m<=9223372036854775807 then some (.agg (cs++news))else none
 |_,_=>none
def Bg(sz:Nat)(c:aa):Option aa:=match c with
 |.agg cs=>some (.int .i64 (cs.length/sz:Nat))
 |_=>none
def isNil(ρ:List aa)(b:e9)(cs:List aa):Option Bool:=match b with
 |.real=>some false
 |.cZ=>some (match cs with | []=>true|_=>false)
 |.dyn x=>match x.den ρ with
  |.bool true=>match cs with
   |[]=>some true
   |_=>none
  |.bool false=>some false
  |_=>none
 |.map=>some false
 |.it=>some false
def Ku(P:Program)(cR:TypeId)(sz:Nat)(c:aa)(l:List aa):Option aa:=match c with
 |.agg cs=>if 0<sz/\l.length=sz/\AR P cR sz cs=true/\uL P cR l=true then some (.agg (m4 sz cs l))else none
 |_=>none
def JZ(sz:Nat)(x:aa):Option aa:=match x with
 |.mp false none iL cs=>if iL=sz/\0<sz/\bG cs=true/\cs.length=cs.length/sz*sz then some (.agg (e8 [.ca] sz++cs))else none
 |_=>none
def Lz(sz:Nat)(c:aa):Option aa:=match c with
 |.agg cs=>if 0<sz/\(jM (cs.take sz)).isSome=true/\(cs.take sz).length=sz then some (.agg (cs.take sz))else none
 |_=>none
def LA(c:aa):Option aa:=match c with
 |.agg (_::cs)=>some (.agg cs)
 |_=>none
def w6(sz:Nat)(cs:List aa):Nat:=(cs.drop sz).length/sz
def y8(sz:Nat)(cs:List aa)(i:Nat):aa:=
 if w6 sz cs=0 then .agg [.bool false]else .agg (.bool true::(chunk sz (cs.drop sz) (i%w6 sz cs)++hL sz (cs.drop sz) (i%w6 sz cs)))
def iU(ρ:List aa)(sz:Nat)(b:e9)(c:aa):Option aa:=match c with
 |.agg cs=>match isNil ρ b cs with
  |some true=>some .bC
  |some false=>match b with
   |.map=>some (.mp false none sz cs)
   |.it=>none
   |_=>some (.sl none sz 0 (cs.length/sz) cs)
  |none=>none
 |_=>none
def EI(x:aa):Option aa:=match x with
 |.bC=>some (.bool true)
 |.sl none _ _ _ _=>some (.bool false)
 |_=>none
def zh(c:aa):Bool:=match c with
 |.int .i64 _=>true
 |_=>false
def wY(x:aa):Bool:=match x with
 |.bC=>true
 |.sl none 1 _ len cs=>decide (cs.length=len)&&cs.all zh
 |_=>false
def EX(x:aa):Option aa:=if wY x=true then some x else none
def UT:aa->Int
 |.int _ n=>n
 |_=>0
def lP(cs:List aa):List aa:=((cs.map UT).mergeSort λx y=>decide (x<=y)).map (aa.int .i64)
def J0(p:Int):List Int->List Int
 |[]=>[]
 |y::ys=>if y=p then J0 p ys else y::J0 y ys
def agM:List Int->List Int
 |[]=>[]
 |x::xs=>x::J0 x xs
def E4(cs:List aa):List aa:=(agM (cs.map UT)).map (aa.int .i64)
def Kv(c:aa):Option aa:=match c with
 |.agg cs=>if cs.all zh=true/\cs.length<1099511627776 then some (.agg (lP cs))else none
 |_=>none
def Kw(ρ:List aa)(b:e9)(c:aa):Option aa:=match c with
 |.agg cs=>if cs.all zh=true/\cs.length<1099511627776 then(match isNil ρ b cs with
  |some true=>some .bC
  |some false=>some (.sl none 1 0 (E4 cs).length (E4 cs))
  |none=>none)else none
 |_=>none
def po(real:Bool)(sz:Nat)(x:aa):Option aa:=match x with
 |.bC=>if real=true then none else some (.agg [])
 |.sl none iL 0 len cs=>if iL=sz/\cs.length=len*sz then some (.agg cs)else none
 |_=>none
def A5(n:Nat)(x:aa):Option aa:=match x with
 |.bJ none _ cs=>if n=(cs.take n).length then some (.agg (cs.take n))else none
 |_=>none
def Prim.run(P:Program)(ρ:List aa):Prim->Option aa
 |.bin op t x y=>eB P op t (x.den ρ) (y.den ρ)
 |.un op x=>rH op (x.den ρ)
 |.conv s d x=>q5 P s d (x.den ρ)
 |.ext x i=>ll (x.den ρ) i
 |.agg n x=>vc n (x.den ρ)
 |.one x=>na (x.den ρ)
 |.row sz x i=>kp sz (x.den ρ) (i.den ρ)
 |.idx t x i=>uJ P t (x.den ρ) (i.den ρ)
 |.len t x=>ht P t (x.den ρ)
 |.slice t x cw aX=>p1 P t (x.den ρ) (cw.map (aS.den ρ)) (aX.map (aS.den ρ))
 |.iz qC l=>xK qC (ep ρ l)
 |.j2 l=>some (.agg (ep ρ l))
 |.mk z b n=>tL z b (n.den ρ)
 |.kX sz c i=>zj sz (c.den ρ) (i.den ρ)
 |.get sz fo n c i=>zk sz fo n (c.den ρ) (i.den ρ)
 |.put sz fo c i l=>vd sz fo (c.den ρ) (i.den ρ) (ep ρ l)
 |.push sz b c y=>uW sz b (c.den ρ) (y.den ρ)
 |.oG sz c=>Bg sz (c.den ρ)
 |.bK sz b c=>iU ρ sz b (c.den ρ)
 |.deref n x=>A5 n (x.den ρ)
 |.cont r sz x=>po r sz (x.den ρ)
 |.wZ x=>EI (x.den ρ)
 |.ints x=>EX (x.den ρ)
 |.ins cR sz c l=>Ku P cR sz (c.den ρ) (ep ρ l)
 |.keys sz x=>JZ sz (x.den ρ)
 |.mI sz c=>Lz sz (c.den ρ)
 |.lI c=>LA (c.den ρ)
 |.qz c=>Kv (c.den ρ)
 |.qA b c=>Kw ρ b (c.den ρ)
inductive Tree where
 |ret (v:aS)
 |jump (L:Nat) (l:List aS)
 |av (p:Prim) (t:Tree)
 |ite (c:aR) (a b:Tree)
 |call (g:FuncId) (args:List aS) (t:Tree)
 |kL (f:aR) (args:List aS) (t:Tree)
 |pick (sz:Nat) (c:aR) (t:Tree)
 |loop (L:Nat) (init:List aS) (body:Tree)
 |join (L:Nat) (body k:Tree)
 |die
 deriving Inhabited
inductive Out where
 |val (v:aa)
 |jump (L:Nat) (l:List aa)
abbrev b2:=List Bool->Nat
def b2.l(ω:b2):b2:=λp=>ω (false::p)
def b2.r(ω:b2):b2:=λp=>ω (true::p)
def b2.mk(a b:b2):b2:=λp=>match p with
 |false::p=>a p
 |true::p=>b p
 |[]=>0
@[simp]theorem b2.tf(a b:b2):(b2.mk a b).l=a:=rfl
@[simp]theorem b2.BD(a b:b2):(b2.mk a b).r=b:=rfl
def iter(step:b2->List aa->Option Out)(L:Nat):Nat->b2->List aa->Option Out
 |0,_,_=>none
 |k+1,ω,af=>match step ω.l af with
  |some (.jump cL cB)=>if cL=L then iter step L k ω.r cB else some (.jump cL cB)
  |o=>o
def eval(P:Program)(C:b2->FuncId->List aa->Option aa)(n:Nat):Tree->b2->List aa->Option Out
 |.ret v,_,ρ=>some (.val (v.den ρ))
 |.jump L l,_,ρ=>some (.jump L (ep ρ l))
 |.av p t,ω,ρ=>match p.run P ρ with
  |some v=>eval P C n t ω (ρ++[v])
  |none=>none
 |.ite c a b,ω,ρ=>match c.den ρ with
  |.bool true=>eval P C n a ω ρ
  |.bool false=>eval P C n b ω ρ
  |_=>none
 |.call g args t,ω,ρ=>match C ω.l g (ep ρ args)with
  |some v=>eval P C n t ω.r (ρ++[v])
  |none=>none
 |.kL f args t,ω,ρ=>match f.den ρ with
  |.fn g bf=>match C ω.l g (ep ρ args++bf)with
   |some v=>eval P C n t ω.r (ρ++[v])
   |none=>none
  |_=>none
 |.pick sz c t,ω,ρ=>match c.den ρ with
  |.agg cs=>eval P C n t ω.r (ρ++[y8 sz cs (ω.l [])])
  |_=>none
 |.loop L init body,ω,ρ=>iter (λω af=>eval P C n body ω (ρ++af)) L n ω (ep ρ init)
 |.join L body k,ω,ρ=>match eval P C n body ω.l ρ with
  |some (.jump cL af)=>if cL=L then eval P C n k ω.r (ρ++af)else some (.jump cL af)
  |o=>o
 |.die,_,_=>none
inductive aL where
 |e (x:aR)
 |undef
 |bT
 |ptr (i off:Nat)
 |aV (i sz len:Nat)
 |c8
 |cq (y:Nat)
 |own (k:Nat)
 |fF (k:Nat) (x:aR) (fo:Nat)
 |fQ (x:aR) (sz fo:Nat)
 |ft (l:List aL) (fo:Nat)
 |fn (f:FuncId) (bf:List aL)
 |agg (l:List aL)
 |bD (l:List aL)
 |lit (sz len:Nat) (l:List aL)
 deriving Inhabited
inductive ga where
 |cells (l:List aL)
 |c8
 |gone
 deriving Inhabited
structure c6 where
 sz:Nat
 born:e9
 c:aR
 deriving Inhabited
def cF:List (Nat×aL)->Nat->aL
 |[],_=>.bT
 |(d,v)::l,t=>if Nat.beq d t then v else cF l t
def mapA(f:aL->aL)(l:List (Nat×aL)):List (Nat×aL):=l.map λp=>(p.1,f p.2)
structure cj where
 g:List (Nat×aL)
 f:FuncId
 a7:List Nat
 kV:Code
 body:Code
 p:Nat
 pend:Option (Option Nat)
 busy:Bool
 deriving Inhabited
structure Sym where
 g:List (Nat×aL)
 bx:List ga
 bd:List (Option c6)
 ys:List cj
 cd:Nat
 cU:List Nat
 ey:Nat
 site:Nat
 base:Nat
 dO:Nat
 bb:Bool
 deriving Inhabited
end
end Go.Proofs.YtlminnpaeaganaaGreat
