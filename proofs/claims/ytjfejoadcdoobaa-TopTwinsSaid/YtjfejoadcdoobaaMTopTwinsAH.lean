/- Part of the proof of TopTwins. No condition. -/
import Derived.RangeFuncIn
import Derived.RangeFuncRecord
import Derived.Test.YtjfejoadcdoobaaMTopTwinsAG
namespace Go.Proofs.Ytjfejoadcdoobaa
set_option maxRecDepth 100000
set_option linter.all false
section
open Go Go.RowKit
variable[Sp]
def left(listed:Array Bool):Nat:=listed.toList.count false
def Lst(listed:Array Bool)(i:Nat):Prop:=listed.getD i false=true
theorem lst_false{listed:Array Bool}{i:Nat}(hi:i<listed.size):listed.getD i true=false↔¬Lst listed i:=by
 simp only[Lst,Array.getD_eq_getD_getElem?,Array.getElem?_eq_getElem hi,Option.getD_some];cases listed[i]<;>simp
theorem left_set{listed:Array Bool}{i:Nat}(hi:i<listed.size)(h:¬Lst listed i):left (listed.setIfInBounds i true)+1=left listed:=by
 have h0:listed.toList[i]'(by simpa using hi)=false:=by
  simp only[Lst,Array.getD_eq_getD_getElem?,Array.getElem?_eq_getElem hi,Option.getD_some]at h;simpa using h
 have hpos:0<listed.toList.count false:=List.count_pos_iff.2 (by rw[←h0];exact List.getElem_mem _);unfold left;rw[Array.toList_setIfInBounds,List.count_set (by simpa using hi),h0];have e1:((false==false)=true):=rfl;have e2:¬((true==false)=true):=by decide
 rw[if_pos e1,if_neg e2];omega
theorem lst_set{listed:Array Bool}{i j:Nat}(hi:i<listed.size):Lst (listed.setIfInBounds i true) j↔(Lst listed j\/j=i):=by
 unfold Lst;by_cases h:i=j
 ·subst h;simp[hi]
 ·rw[getD_set_ne false h];constructor
  ·exact .inl
  ·rintro(h'|h')
   ·exact h'
   ·exact absurd h'.symm h
theorem left_pos{listed:Array Bool}{i:Nat}(hi:i<listed.size)(h:¬Lst listed i):0<left listed:=by
 have:=left_set hi h;omega
section
variable{P:Program}{φ:Phi}{w:World}{A:Anchor}{N n:Nat}{s:St}{a:Act}{Q:Exit->Act->World->Prop}{r:Option Nat}{ops:Array Oper}{M:List Nat}{np:Nat}
theorem any_tail(hp:DrawP ops M np){K:St->Prop}{D:List Deferred}:∀(fuel:Nat)(listed:Array Bool)(a:Act)(w:World)(φ:Phi)(s:St)(k:Nat),listed.size=ops.size->left listed<=fuel->(∀i,Lst listed i↔i<k)->np<=k->k<=ops.size ->
  (ops.toList.drop k).all (dstOk N)=true->SRel φ w N s a->Anch A φ w s.eff->Old A s->a.defers=D->opsW P ops (ops.toList.drop k) s K->(∀a' w' s',s'.a0=s.a0->Good A N D (λu=>u=s'/\K u) a' w'->Q .normal a' w') ->
  wpAnyX r P ops Q fuel listed a w:=by
 intro fuel;induction fuel with
 |zero=>
  intro listed a w φ s k hsz hf hl hnp hk hd hs ha hA hD hK hQ;have hend:k=ops.size:=by
   refine Nat.le_antisymm hk (Nat.le_of_not_lt λhlt=>?_);have:=left_pos (listed:=listed) (i:=k) (by omega) (λh=>by rw[hl]at h;omega);omega
  subst hend;have hnil:Region.ready .any ops listed=[]:=by
   cases hr:Region.ready .any ops listed with
   |nil=>rfl
   |cons i l=>
    have hm:i∈Region.ready .any ops listed:=by rw[hr];simp
    obtain⟨h1,o,ho,_⟩:=mem_ready.1 hm;have hi:=(Array.getElem?_eq_some_iff.1 ho).1;rw[lst_false (by omega),hl]at h1;exact absurd hi h1
  refine⟨hnil,?_⟩;rw[List.drop_of_length_le (by simp)]at hK;exact hQ a w s rfl ⟨s,φ,hs,ha,hD,rfl,hK⟩
 |succ fuel ih=>
  intro listed a w φ s k hsz hf hl hnp hk hd hs ha hA hD hK hQ;have hmem:∀i,i∈Region.ready .any ops listed->i=k:=by
   intro i hm;obtain⟨h1,o,ho,h2⟩:=mem_ready.1 hm;have hi:=(Array.getElem?_eq_some_iff.1 ho).1;rw[lst_false (by omega),hl]at h1;refine Nat.le_antisymm (Nat.le_of_not_lt λhlt=>?_) (by omega);have hc:Closed ops (Lst listed):=λj o' hj hL e he hb=>(hl _).2 (Nat.lt_trans (hp.back j o' hj e he hb) ((hl j).1 hL));have:=anc_in hp hc i o ho (λe he hb=>h2 e he hb) k ((hp.tail i o ho (by omega) k hlt).resolve_right λh=>by omega);rw[hl]at this;omega
  refine⟨λhr=>?_,λi hm=>?_⟩
  ·have hend:k=ops.size:=by
    refine Nat.le_antisymm hk (Nat.le_of_not_lt λhlt=>?_);have:k∈Region.ready .any ops listed:=by refine mem_ready.2 ⟨(lst_false (by omega)).2 (λh=>by rw[hl]at h;omega),ops[k],by simp[hlt],λe he hb=>(hl _).2 (hp.back k _ (by simp[hlt]) e he hb)⟩
    rw[hr]at this;cases this
   subst hend;rw[List.drop_of_length_le (by simp)]at hK;exact hQ a w s rfl ⟨s,φ,hs,ha,hD,rfl,hK⟩
  ·have:=hmem i hm;subst this;obtain⟨h1,o,ho,h2⟩:=mem_ready.1 hm;have hi:=(Array.getElem?_eq_some_iff.1 ho).1;have hdrop:ops.toList.drop i=o::ops.toList.drop (i+1):=by
    have hx:i<ops.toList.length:=by simpa using hi
    rw[List.drop_eq_getElem_cons hx];congr 1;have:=(Array.getElem?_eq_some_iff.1 ho).2;simpa using this
   rw[hdrop]at hK hd;simp only[List.all_cons,Bool.and_eq_true]at hd;have hdo:∀t,o.dst=some t->t<N:=λt e=>by
    have:=hd.1;simp only[dstOk,e,decide_eq_true_eq]at this;exact this
   have hnl:¬Lst listed i:=λh=>by rw[hl]at h;omega
   have hl':∀j,Lst (listed.setIfInBounds i true) j↔j<i+1:=λj=>by rw[lst_set (by omega),hl];omega
   have hlf:left (listed.setIfInBounds i true)<=fuel:=by
    have:=left_set (listed:=listed) (i:=i) (by omega) hnl;omega
   simp only[wpOpX,ho];rcases guard_wanted hs hK with⟨hw,hX⟩|⟨hw,hY⟩
   ·rw[if_pos hw];intro τ d;obtain⟨s1,⟨e1,hsil⟩,hX⟩:=hX;obtain⟨φ1,hs1,ha1⟩:=hsil φ w N a A hs ha hA;replace hs1:=hs1.re τ d;replace ha1:=ha1.rew τ d;have hA1:Old A s1:=by unfold Old at hA⊢;rw[e1];exact hA
    refine Oper.wpX_mono ?_ (opW_sound (A:=A) hs1 ha1 hdo hA1.1 hA1.2.2 (opW_imp (λs' e h=>(⟨e,h⟩:s'.a0=s1.a0/\_)) hX));rintro a' w' ⟨s',φ',g1,g2,g3,g4,g5⟩;replace g4:=g4.trans e1;exact ih _ a' w' φ' s' (i+1) (by simpa using hsz) hlf hl' (by omega) hi hd.2 g1 g2 (by unfold Old;rw[g4];exact hA) (g3.trans hD) g5 (λa2 w2 s2 e2 h=>hQ a2 w2 s2 (e2.trans g4) h)
   ·rw[if_neg (by simp[hw])];have g1:SRel φ w N (s.put o.dst .undef) (a.put o.dst undef):=hs.put hdo rfl;exact ih _ _ w φ _ (i+1) (by simpa using hsz) hlf hl' (by omega) hi hd.2 g1 (by rw[St.put_eff];exact ha) (by unfold Old;rw[St.put_a0];exact hA) (by rw[put_defers];exact hD) hY
     (λa2 w2 s2 e2 h=>hQ a2 w2 s2 (by rw[e2,St.put_a0]) h)
end
section
variable{ops:Array Oper}{n0:Nat}
theorem nmOf_mono{j k:Nat}(h:j<=k):nmOf n0 ops j<=nmOf n0 ops k:=by
 induction k with
 |zero=>
  have:j=0:=by omega
  subst this;exact Nat.le_refl _
 |succ k ih=>
  by_cases e:j=k+1
  ·subst e;exact Nat.le_refl _
  ·have:=ih (by omega);simp only[nmOf];omega
theorem nmOf_ge(k:Nat):n0<=nmOf n0 ops k:=nmOf_mono (j:=0) (Nat.zero_le k)
theorem nmOf_lt{j k:Nat}{o:Oper}(hj:ops[j]?=some o)(hm:isMk o=true)(h:j<k):nmOf n0 ops j<nmOf n0 ops k:=by
 have:=nmOf_mono (n0:=n0) (ops:=ops) (j:=j+1) (k:=k) h;simp only[nmOf,hj,mkN,hm,if_true]at this;omega
theorem nmOf_find{id:Nat}(h0:n0<=id):∀k,id<nmOf n0 ops k->∃j o,j<k/\ops[j]?=some o/\isMk o=true/\nmOf n0 ops j=id
 |0,h=>by simp only[nmOf]at h;omega
 |k+1,h=>by
  by_cases hk:id<nmOf n0 ops k
  ·obtain⟨j,o,h1,h2⟩:=nmOf_find h0 k hk;exact⟨j,o,by omega,h2⟩
  ·simp only[nmOf]at h;split at h
   ·rename_i o ho;unfold mkN at h;split at h
    ·rename_i hm;exact⟨k,o,by omega,ho,hm,by omega⟩
    ·omega
   ·omega
end
end
section
open Go Go.RowKit
variable[Sp]
def outF(ops:Array Oper)(res:Nat->Res)(j:Nat):LocA->Option LV:=match ops[j]? with
 |some o=>(res j).out o.dst
 |none=>λ_=>none
def holed(s:St)(n':Nat):St:={ s with m:=⟨λi=>if s.m.n<=i/\i<n' then .hole else s.m.β i,n',s.m.an,s.m.rc⟩ }
section
variable{P:Program}{T:Tab}{ops:Array Oper}{M:List Nat}{np:Nat}{L L':Nat->Prop}{i j k:Nat}{o o':Oper}{s0 s s':St}{res res':Nat->Res}{K:St->Prop}
theorem outF_some(ho:ops[j]?=some o):outF ops res j=(res j).out o.dst:=by simp[outF,ho]
theorem outF_slot{t:Nat}(ho:ops[j]?=some o)(h:(outF ops res j (.slot t)).isSome):o.dst=some t:=by
 rw[outF_some ho]at h;simp only[Res.out]at h;split at h
 ·assumption
 ·cases h
theorem outF_cnt(ho:ops[j]?=some o)(h:(outF ops res j .cnt).isSome):(res j).an.isSome:=by
 rw[outF_some ho]at h;simpa[Res.out]using h
theorem outF_box{id:Nat}(ho:ops[j]?=some o)(h:(outF ops res j (.box id)).isSome):∃cs,(res j).bx=some (id,cs):=by
 rw[outF_some ho]at h;simp only[Res.out]at h;split at h
 ·rename_i id' cs hb;split at h
  ·rename_i e;subst e;exact⟨cs,hb⟩
  ·cases h
 ·cases h
theorem agree_loc(hp:DrawP ops M np)(hi:ops[i]?=some o)(hin:i<np)(hc:Closed ops L')(hb:∀e∈o.after,bindsAny e=true->L' e.on)(hni:¬L' i)(hLn:∀j,L' j->j<np)
  {σ0 σ1:LocA->LV} {l:LocA} (h':Ov L' (outF ops res) σ1 s'.loc) (h:Ov (·<i) (outF ops res') σ0 s.loc) (he:∀j,L' j->res' j=res j)
  (hcl:∀j o',ops[j]?=some o'->j≠i->(L' j/\(outF ops res j l).isSome)\/(j<i/\(outF ops res' j l).isSome)->clash ops o o'=true)
  (h0:σ0 l=σ1 l\/∃j,L' j/\(outF ops res j l).isSome):s.loc l=s'.loc l:=by
 have hget:∀j,j<np->∃o',ops[j]?=some o':=λj hj=>⟨ops[j]'(by have:=hp.le;omega),by simp⟩;refine ov_agree h h' (λj hj hs=>?_) (λj hj hs=>?_) (λj hj hL=>?_) h0
 ·obtain⟨o',ho'⟩:=hget j (by omega);have:=hp.pair i o j o' hi ho' hin (by omega) (by omega) (hcl j o' ho' (by omega) (.inr ⟨hj,hs⟩));simp only[ord,Bool.or_eq_true,Bool.and_eq_true,decide_eq_true_eq]at this;rcases this with⟨_,h⟩|⟨h,_⟩
  ·exact anc_in hp hc i o hi hb j h
  ·omega
 ·have hne:j≠i:=λe=>hni (e▸hj);obtain⟨o',ho'⟩:=hget j (hLn j hj);have:=hp.pair i o j o' hi ho' hin (hLn j hj) (Ne.symm hne) (hcl j o' ho' hne (.inl ⟨hj,hs⟩));simp only[ord,Bool.or_eq_true,Bool.and_eq_true,decide_eq_true_eq]at this;rcases this with⟨h,_⟩|⟨_,h⟩
  ·exact h
  ·exact absurd (anc_closed hp hc ho' hj h) hni
 ·simp only[outF,he j hL]
theorem clash_slot{t:Nat}(h:t∈reads ops o\/o.dst=some t)(hd:o'.dst=some t):clash ops o o'=true:=by
 unfold clash;rw[hd];rcases h with h|h
 ·simp[h]
 ·simp[h]
theorem clash_call(h:isCall o=true)(h':isCall o'=true):clash ops o o'=true:=by simp[clash,h,h']
theorem clash_store(h:isStore o=true)(h':isStore o'=true\/isMk o'=true):clash ops o o'=true:=by rcases h' with h'|h'<;>simp[clash,h,h']
theorem clash_mk(h:isMk o=true)(h':isStore o'=true):clash ops o o'=true:=by simp[clash,h,h']
theorem agree_all(hp:DrawP ops M np)(hi:ops[i]?=some o)(hin:i<np)(hc:Closed ops L')(hb:∀e∈o.after,bindsAny e=true->L' e.on)(hni:¬L' i)(hLn:∀j,L' j->j<np){n':Nat}
  (h':Ov L' (outF ops res) (holed s0 n').loc s'.loc) (h:Ov (·<i) (outF ops res') s0.loc s.loc) (he:∀j,L' j->res' j=res j)
  (hk':∀j o,L' j->ops[j]?=some o->Kind s0.m (nmOf s0.m.n ops j) o (res j)/\(isMk o=true->∃cs,(res j).bx=some (nmOf s0.m.n ops j,cs)))
  (hk:∀j o,j<i->ops[j]?=some o->Kind s0.m (nmOf s0.m.n ops j) o (res' j)):
  (∀t∈reads ops o,s.g t=s'.g t)/\(isCall o=true->s.m.an=s'.m.an)/\(isStore o=true->∀id,s0.m.n<=id->id<nmOf s0.m.n ops i->s.m.β id=s'.m.β id):=by
 refine⟨λt ht=>?_,λhcall=>?_,λhst id h1 h2=>?_⟩
 ·have:=agree_loc (l:=.slot t) hp hi hin hc hb hni hLn h' h he (λj o' ho' _ hs=>clash_slot (.inl ht) (by rcases hs with⟨_,hs⟩|⟨_,hs⟩<;>exact outF_slot ho' hs)) (.inl rfl);simpa[St.loc]using this
 ·have:=agree_loc (l:=.cnt) hp hi hin hc hb hni hLn h' h he (λj o' ho' _ hs=>clash_call hcall (by
   rcases hs with⟨hL,hs⟩|⟨hL,hs⟩
   ·exact(hk' j o' hL ho').1.2 (outF_cnt ho' hs)
   ·exact(hk j o' hL ho').2 (outF_cnt ho' hs))) (.inl rfl)
  simpa[St.loc]using this
 ·have kst:∀j o' (r:Res),Kind s0.m (nmOf s0.m.n ops j) o' r->(∃cs,r.bx=some (id,cs))->isStore o'=true\/isMk o'=true:=λj o' r hk ⟨cs,hcs⟩=>by
   rcases hk.1 id cs hcs with h|h
   ·exact .inl h.2.1
   ·exact .inr h.1
  have:=agree_loc (l:=.box id) hp hi hin hc hb hni hLn h' h he (λj o' ho' _ hs=>clash_store hst (by
   rcases hs with⟨hL,hs⟩|⟨hL,hs⟩
   ·exact kst j o' _ (hk' j o' hL ho').1 (outF_box ho' hs)
   ·exact kst j o' _ (hk j o' hL ho') (outF_box ho' hs))) (.inr ?_)
  ·simpa[St.loc]using this
  ·obtain⟨j,oj,hj,hoj,hm,hid⟩:=nmOf_find h1 i h2;have hord:=hp.pair i o j oj hi hoj hin (by omega) (by omega) (clash_store hst (.inr hm));simp only[ord,Bool.or_eq_true,Bool.and_eq_true,decide_eq_true_eq]at hord;have hL:L' j:=by
    rcases hord with⟨_,h⟩|⟨h,_⟩
    ·exact anc_in hp hc i o hi hb j h
    ·omega
   obtain⟨cs,hcs⟩:=(hk' j oj hL hoj).2 hm;refine⟨j,hL,?_⟩;rw[outF_some hoj];simp[Res.out,hcs,hid]
def Hist(P:Program)(T:Tab)(ops:Array Oper)(s0:St)(n':Nat)(L:Nat->Prop)(res:Nat->Res)(j:Nat):Prop:=
 ∃o,ops[j]?=some o/\∃(L':Nat->Prop)(s':St),(∀k,L' k->L k)/\Closed ops L'/\(∀e∈o.after,bindsAny e=true->L' e.on)/\¬L' j/\Ov L' (outF ops res) (holed s0 n').loc s'.loc/\Valid P s0.m T ops s' (nmOf s0.m.n ops j) o (res j)
def PathAt(P:Program)(T:Tab)(ops:Array Oper)(np:Nat)(s0:St)(L:Nat->Prop)(res:Nat->Res)(K:St->Prop)(k:Nat)(res':Nat->Res)(s:St):Prop:=
 (∀j,L j->res' j=res j)/\Ov (·<k) (outF ops res') s0.loc s.loc/\s.m.n=nmOf s0.m.n ops k/\s.a0=s0.a0/\s.eff=s0.eff/\s.m.rc=s0.m.rc/\lexW P s0.m T ops ((ops.toList.take np).drop k) s K /\
  ∀j o,j<k->ops[j]?=some o->Kind s0.m (nmOf s0.m.n ops j) o (res' j)/\(isMk o=true->∃cs,(res' j).bx=some (nmOf s0.m.n ops j,cs))
theorem hist_kind(hp:DrawP ops M np){n':Nat}(hin:j<np)(h:Hist P T ops s0 n' L res j)(ho:ops[j]?=some o):
  Kind s0.m (nmOf s0.m.n ops j) o (res j)/\(isMk o=true->∃cs,(res j).bx=some (nmOf s0.m.n ops j,cs)):=by
 obtain⟨o',ho',L',s',_,_,_,_,_,hv⟩:=h;have e:o'=o:=by rw[ho]at ho';exact(Option.some.inj ho').symm
 subst e;exact⟨valid_kind hv,λhm=>valid_mk (hp.guard j o' ho hin (.inl hm)) hm hv⟩
theorem ov_lt{out:Nat->LocA->Option LV}{σ0 σ:LocA->LV}{f:LocA->Option LV}{out':Nat->LocA->Option LV}(h:Ov (·<k) out σ0 σ)(he:∀j,j<k->out' j=out j)(hk:out' k=f):Ov (·<k+1) out' σ0 (app f σ):=by
 have:=ov_add (o:=f) h (i:=k) (Nat.lt_irrefl k) (λj hj hlt=>by omega);refine ov_congr this (λj=>by omega) (λj hj=>?_);rcases hj with hj|rfl
 ·simp only[show j≠k by omega,if_false];exact(he j hj).symm
 ·simp only[if_true];exact hk.symm
theorem path(hp:DrawP ops M np){n':Nat}(hLn:∀j,L j->j<np)(hh:∀j,L j->Hist P T ops s0 n' L res j)(hw:lexW P s0.m T ops (ops.toList.take np) s0 K):
  ∀k,k<=np->∃res' s,PathAt P T ops np s0 L res K k res' s:=by
 intro k;induction k with
 |zero=>exact λ_=>⟨res,s0,λ_ _=>rfl,ov_congr (ov_empty (out:=outF ops res)) (λj=>⟨λh=>h.elim,λh=>absurd h (Nat.not_lt_zero j)⟩) (λj h=>False.elim h),rfl,rfl,rfl,rfl,hw,λj o h=>by omega⟩
 |succ k ih=>
  intro hk;obtain⟨res',s,h1,h2,h3,h4,h5,hrc,h6,h7⟩:=ih (by omega);have hsz:k<ops.size:=by have:=hp.le;omega
  have ho:ops[k]?=some ops[k]:=by simp[hsz]
  generalize ops[k]=o at ho;have hdrop:(ops.toList.take np).drop k=o::(ops.toList.take np).drop (k+1):=by
   have hx:k<(ops.toList.take np).length:=by simp;omega
   rw[List.drop_eq_getElem_cons hx];congr 1;have:=(Array.getElem?_eq_some_iff.1 ho).2;simpa using this
  rw[hdrop]at h6;have hnm:nmOf s0.m.n ops (k+1)=nmOf s0.m.n ops k+mkN o:=by simp only[nmOf,ho]
  have hmkg:isMk o=true->o.guard=none:=λhm=>hp.guard k o ho (by omega) (.inl hm);have step:∀r,Valid P s0.m T ops s (nmOf s0.m.n ops k) o r->(L k->r=res k)->∃res' s,PathAt P T ops np s0 L res K (k+1) res' s:=by
   intro r hv hr;have hL:lexW P s0.m T ops ((ops.toList.take np).drop (k+1)) (s.res o.dst r (nmOf s0.m.n ops (k+1))) K:=by
    rcases guard_both h6 hv with⟨hX,hV⟩|⟨hY,rfl⟩
    ·have:=(lex_pre hX).2 r (by rw[h3];exact hV);rw[hnm,←h3];exact this
    ·have hmk:mkN o=0:=by
      unfold mkN;split
      ·rename_i hm;have hg:=hmkg hm;have hv':=valid_mk hg hm hv;obtain⟨cs,hcs⟩:=hv';cases hcs
      ·rfl
     have e:=res_put s o.dst .undef;rw[h3]at e;rw[hnm,hmk];show lexW P s0.m T ops _ (s.res o.dst _ (nmOf s0.m.n ops k)) K;rw[e];exact hY
   refine⟨λj=>if j=k then r else res' j,_,λj hj=>?_,?_,?_,?_,?_,?_,hL,λj o' hj ho'=>?_⟩
   ·by_cases e:j=k
    ·subst e;simp[hr hj]
    ·simp[e,h1 j hj]
   ·rw[res_loc];refine ov_lt h2 (λj hj=>?_) (by rw[outF_some ho];simp);simp only[outF,show j≠k by omega,if_false]
   ·rfl
   ·simp[St.res,h4]
   ·simp[St.res,h5]
   ·simp[St.res,hrc]
   ·by_cases e:j=k
    ·subst e;have:o'=o:=by rw[ho]at ho';exact(Option.some.inj ho').symm
     subst this;simp only[if_true];exact⟨valid_kind hv,λhm=>valid_mk (hmkg hm) hm hv⟩
    ·simp only[e,if_false];exact h7 j o' (by omega) ho'
  by_cases hLk:L k
  ·obtain⟨o',ho',L',s',g1,g2,g3,g4,g5,g6⟩:=hh k hLk;have e:o'=o:=by rw[ho]at ho';exact(Option.some.inj ho').symm
   subst e;obtain⟨a1,a2,_⟩:=agree_all hp ho (by omega) g2 g3 g4 (λj hj=>hLn j (g1 j hj)) g5 h2 (λj hj=>h1 j (g1 j hj)) (λj o hj hoj=>hist_kind hp (hLn j (g1 j hj)) (hh j (g1 j hj)) hoj) (λj o hj hoj=>(h7 j o hj hoj).1);exact step (res k) (valid_congr (λt ht=>(a1 t ht).symm) (λhcl=>(a2 hcl).symm) g6) (λ_=>rfl)
  ·rw[lexW,guardW_iff]at h6;rcases h6 with⟨hg,hX⟩|⟨hg,hY⟩
   ·obtain⟨r,hr⟩:=pre_out (lex_pre hX).1;exact step r (guardW_iff.2 (.inl ⟨hg,by rw[←h3];exact hr⟩)) (λh=>absurd h hLk)
   ·exact step ⟨.undef,none,none⟩ (guardW_iff.2 (.inr ⟨hg,rfl⟩)) (λh=>absurd h hLk)
end
section
variable{P:Program}{T:Tab}{ops:Array Oper}{M:List Nat}{np:Nat}{s0:St}{K:St->Prop}{φ:Phi}{w:World}{A:Anchor}{N n:Nat}{a:Act}{Q:Exit->Act->World->Prop}{rr:Option Nat}
theorem semAt_put{rr:Option Nat}(o:Oper)(hs:∀cs b,o.op≠.select cs b)(hd:∀c,o.op≠.defer c)(a:Act)(dst:Option Tmp)(v:Value)(h:∀d,dst=some d->d∉o.looksAt ops):
  o.semAt rr (a.put dst v).eval=o.semAt rr a.eval:=by
 rw[Oper.semAt_eq _ _ _ hd,Oper.semAt_eq _ _ _ hd];exact execOp_put o hs a dst v h
theorem wpOpX_putR{j:Nat}{oi oj:Oper}{v:Value}(hj:ops[j]?=some oj)(hap:oi.apart ops oj=true)
  (hsi:∀cs b,oi.op≠.select cs b) (hsj:∀cs b,oj.op≠.select cs b) (hdj:∀c,oj.op≠.defer c)
  {K:Act->World->Prop} {a:Act} {w:World}
  (hy:Yields P ops oi v a) (h:wpOpX rr P ops Q j K (a.put oi.dst v) w):
  wpOpX rr P ops Q j (λa' w'=>Yields P ops oi v a'/\K (a'.put oi.dst v) w') a w:=by
 obtain⟨h1,h2,h3⟩:=Oper.apart_spec hap;have keep:∀(a:Act),Yields P ops oi v a->∀u,Yields P ops oi v (a.put oj.dst u):=λa hy u=>
  hy.of_same (execOp_put oi hsi a oj.dst u h3) (wanted_put oi a oj.dst u h3)
 unfold wpOpX at *;simp only[hj]at *;rw[wanted_put oj a oi.dst v h1]at h;split
 ·rename_i hw;rw[if_pos hw]at h;intro τ d;have h:=h τ d;unfold Oper.wpX at *;rw[semAt_put oj hsj hdj a oi.dst v h1]at h;generalize(oj.semAt rr a.eval).run P (re w τ d)=r at *;cases r with
  |ok x w'=>
   cases x<;>simp only[Oper.uponX]at h⊢
   case value u=>exact⟨keep a hy u,by rw[←Act.put_comm a v u h2];exact h⟩
   case skip=>exact⟨keep a hy _,by rw[←Act.put_comm a v undef h2];exact h⟩
   case enter f args=>
    refine h.mono λe w'' he=>?_;cases e with
    |returned u=>exact⟨keep a hy u,by rw[←Act.put_comm a v u h2];exact he⟩
    |panicked c=>exact he
    |outgrown=>exact he
   case round l f tmps assign body=>
    refine h.mono λe w'' he=>?_;cases e with
    |returned u=>exact⟨keep a hy u,by rw[←Act.put_comm a v u h2];exact he⟩
    |panicked c=>exact he
    |outgrown=>exact he
  |halt x w'=>simp only[Oper.uponX]at h
 ·rename_i hw;rw[if_neg hw]at h;exact⟨keep a hy _,by rw[←Act.put_comm a v undef h2];exact h⟩
theorem wpAnyX_firstR{i:Nat}{oi:Oper}{v:Value}(hi:ops[i]?=some oi)(hsel:∀(j:Nat) (o:Oper),ops[j]?=some o->(∀cs b,o.op≠.select cs b)/\∀c,o.op≠.defer c)
  (hQs:∀a w τ d,Q .normal a w->Q .normal a (re w τ d)) (hdo:∀c,oi.op≠.defer c):
  ∀(fuel:Nat)(listed:Array Bool)(a:Act)(w:World),
   (∀j oj,ops[j]?=some oj->j≠i->listed.getD j true=false->(∀e∈oj.after,Region.binds .any e=true->e.on≠i)->oi.apart ops oj=true) ->
   i∈Region.ready .any ops listed->Yields P ops oi v a ->
   wpAnyX rr P ops Q fuel (listed.setIfInBounds i true) (a.put oi.dst v) w->wpAnyX rr P ops Q (fuel+1) listed a w:=by
 have now:∀{a:Act}{w:World}{fuel:Nat}{l:Array Bool},Yields P ops oi v a->wpAnyX rr P ops Q fuel l (a.put oi.dst v) w->wpOpX rr P ops Q i (wpAnyX rr P ops Q fuel l) a w:=by
  intro a w fuel l hy h;unfold wpOpX;simp only[hi];rcases hy with⟨hw,hv⟩|⟨hw,rfl⟩
  ·rw[if_pos hw];intro τ d;unfold Oper.wpX;rw[Oper.semAt_eq _ _ _ hdo,hv (re w τ d)];exact wpAnyX_re hQs _ _ _ _ τ d h
  ·rw[if_neg (by simp[hw])];exact h
 intro fuel;induction fuel with
 |zero=>
  intro listed a w _ hr hy H;refine⟨λh=>(by rw[h]at hr;cases hr),λj hj=>?_⟩;by_cases hji:j=i
  ·subst hji;exact now hy H
  ·have:=ready_mono hj hji;rw[H.1]at this;cases this
 |succ fuel ih=>
  intro listed a w hfree hr hy H;refine⟨λh=>(by rw[h]at hr;cases hr),λj hj=>?_⟩;by_cases hji:j=i
  ·subst hji;exact now hy H
  ·have h1:=H.2 j (ready_mono hj hji);obtain⟨hjun,oj,hoj,hall⟩:=mem_ready.1 hj;have hnot:∀e∈oj.after,Region.binds .any e=true->e.on≠i:=λe he hb heq=>by
    have h1:=hall e he hb;have h0:=(mem_ready.1 hr).1;rw[heq]at h1;rcases Nat.lt_or_ge i listed.size with h'|h'
    ·simp[h']at h0 h1;rw[h0]at h1;cases h1
    ·simp[Array.getElem?_eq_none h']at h1
   have h2:=wpOpX_putR hoj (hfree j oj hoj hji hjun hnot) (hsel i oi hi).1 (hsel j oj hoj).1 (hsel j oj hoj).2 hy h1;have hfree':∀k ok,ops[k]?=some ok->k≠i->(listed.setIfInBounds j true).getD k true=false ->
     (∀e∈ok.after,Region.binds .any e=true->e.on≠i)->oi.apart ops ok=true:=λk ok hk hki hun hno=>by
    refine hfree k ok hk hki ?_ hno;by_cases hjk:j=k
    ·subst hjk;exact hjun
    ·rw[getD_set_ne true hjk]at hun;exact hun
   refine wpOpX_mono (λa' w' h3=>ih (listed.setIfInBounds j true) a' w' hfree' (ready_mono hr (Ne.symm hji)) h3.1 ?_) h2;rw[Array.setIfInBounds_comm _ _ hji];exact h3.2
theorem any_end(hp:DrawP ops M np)(hd:ops.toList.all (dstOk N)=true){D:List Deferred}(hw:lexW P s0.m T ops (ops.toList.take np) s0 λs=>opsW P ops (ops.toList.drop np) s K)(hA:Old A s0)
  (hQ:∀a' w' s',s'.a0=s0.a0->Good A N D (λu=>u=s'/\K u) a' w'->Q .normal a' w') (fuel:Nat) (listed:Array Bool) (a:Act) (w:World) (φ:Phi) (res:Nat->Res) (s:St) (hsz:listed.size=ops.size) (hf:left listed<=fuel)
  (hLn:∀i,Lst listed i->i<np) (hall:∀i,i<np->Lst listed i) (hh:∀j,Lst listed j->Hist P T ops s0 (nmOf s0.m.n ops np) (Lst listed) res j) (hov:Ov (Lst listed) (outF ops res) (holed s0 (nmOf s0.m.n ops np)).loc s.loc)
  (hn:s.m.n=nmOf s0.m.n ops np) (h0:s.a0=s0.a0) (he:s.eff=s0.eff) (hrc:s.m.rc=s0.m.rc) (hs:SRel φ w N s a) (ha:Anch A φ w s0.eff) (hD:a.defers=D):wpAnyX rr P ops Q fuel listed a w:=by
 obtain⟨res',sf,p1,p2,p3,p4,p5,prc,p6,p7⟩:=path hp hLn hh hw np (Nat.le_refl _);have hle:=hp.le;have hiff:∀i,Lst listed i↔i<np:=λi=>⟨hLn i,hall i⟩;have e:s=sf:=by
  refine st_ext (funext λl=>?_) (hn.trans p3.symm) (h0.trans p4.symm) (he.trans p5.symm) (hrc.trans prc.symm);have hov':Ov (·<np) (outF ops res') (holed s0 (nmOf s0.m.n ops np)).loc s.loc:=ov_congr hov hiff (λj hj=>by simp only[outF,p1 j hj]);refine ov_agree hov' p2 (λj hj _=>hj) (λj hj _=>hj) (λj _ _=>rfl) ?_;cases l with
  |slot t=>exact .inl rfl
  |cnt=>exact .inl rfl
  |box id=>
   by_cases hid:s0.m.n<=id/\id<nmOf s0.m.n ops np
   ·obtain⟨j,oj,hj,hoj,hm,hnid⟩:=nmOf_find hid.1 np hid.2;obtain⟨cs,hcs⟩:=(p7 j oj hj hoj).2 hm;refine .inr ⟨j,hj,?_⟩;rw[outF_some hoj];simp[Res.out,hcs,hnid]
   ·exact .inl (by simp[St.loc,holed,hid])
 have hK:opsW P ops (ops.toList.drop np) s K:=by
  rw[List.drop_of_length_le (by simp;omega)]at p6;rw[e];exact p6
 refine any_tail hp fuel listed a w φ s np hsz hf hiff (Nat.le_refl _) hle ?_ hs (by rw[he];exact ha) (by unfold Old;rw[h0];exact hA) hD hK (λa' w' s' e' h=>hQ a' w' s' (e'.trans h0) h);rw[List.all_eq_true]at hd⊢;exact λo ho=>hd o (List.mem_of_mem_drop ho)
theorem any_pre(hp:DrawP ops M np)(hd:ops.toList.all (dstOk N)=true){D:List Deferred}(hw:lexW P s0.m T ops (ops.toList.take np) s0 λs=>opsW P ops (ops.toList.drop np) s K)(hA:Old A s0)
  (hQ:∀a' w' s',s'.a0=s0.a0->Good A N D (λu=>u=s'/\K u) a' w'->Q .normal a' w') (hQs:∀a w τ d,Q .normal a w->Q .normal a (re w τ d)):∀(fuel:Nat)(listed:Array Bool)(a:Act)(w:World)(φ:Phi)(res:Nat->Res)(s:St),listed.size=ops.size->left listed<=fuel ->
  (∀i,Lst listed i->i<np)->Closed ops (Lst listed)->(∀j,Lst listed j->Hist P T ops s0 (nmOf s0.m.n ops np) (Lst listed) res j)->Ov (Lst listed) (outF ops res) (holed s0 (nmOf s0.m.n ops np)).loc s.loc ->
  s.m.n=nmOf s0.m.n ops np->s.a0=s0.a0->s.eff=s0.eff->s.m.rc=s0.m.rc->SRel φ w N s a->Anch A φ w s0.eff->a.defers=D ->
  wpAnyX rr P ops Q fuel listed a w:=by
 intro fuel;induction fuel with
 |zero=>
  intro listed a w φ res s hsz hf hLn hc hh hov hn h0 he hrc hs ha hD;have hall:∀i,i<np->Lst listed i:=λi hi=>Classical.byContradiction λh=>by
   have:=left_pos (listed:=listed) (i:=i) (by have:=hp.le;omega) h;omega
  exact any_end hp hd hw hA hQ 0 listed a w φ res s hsz hf hLn hall hh hov hn h0 he hrc hs ha hD
 |succ fuel ih=>
  intro listed a w φ res s hsz hf hLn hc hh hov hn h0 he hrc hs ha hD;by_cases hall:∀i,i<np->Lst listed i
  ·exact any_end hp hd hw hA hQ (fuel+1) listed a w φ res s hsz hf hLn hall hh hov hn h0 he hrc hs ha hD
  ·have hex:∃i,i<np/\¬Lst listed i:=by refine Classical.byContradiction λh=>hall λi hi=>Classical.byContradiction λhn=>h ⟨i,hi,hn⟩
   obtain⟨i0,⟨hi0,hni0⟩,hmin⟩:=exists_least hex;have hle:=hp.le;have step:∀i o,ops[i]?=some o->i<np->¬Lst listed i->(∀e∈o.after,bindsAny e=true->Lst listed e.on)->∀r φ' a' w',Valid P s0.m T ops s (nmOf s0.m.n ops i) o r->SRel φ' w' N (s.res o.dst r s.m.n) a'->Anch A φ' w' s0.eff->a'.defers=D->wpAnyX rr P ops Q fuel (listed.setIfInBounds i true) a' w':=by
    intro i o ho hin h1 h2 r φ' a' w' hv g1 g2 g3;have hi:=(Array.getElem?_eq_some_iff.1 ho).1;have hnl:∀j,Lst (listed.setIfInBounds i true) j↔(Lst listed j\/j=i):=λj=>lst_set (by omega);refine ih _ a' w' φ' (λj=>if j=i then r else res j) (s.res o.dst r s.m.n) (by simpa using hsz) ?_ (λj hj=>?_) (λj oj hj hL e he hb=>?_) (λj hj=>?_) ?_ (by simp[St.res,hn]) (by simp[St.res,h0]) (by simp[St.res,he]) (by simp[St.res,hrc]) g1 g2 g3
    ·have:=left_set (listed:=listed) (i:=i) (by omega) h1;omega
    ·rcases(hnl j).1 hj with h|rfl
     ·exact hLn j h
     ·exact hin
    ·rcases(hnl j).1 hL with h|rfl
     ·exact(hnl _).2 (.inl (hc j oj hj h e he hb))
     ·have:oj=o:=by rw[ho]at hj;exact(Option.some.inj hj).symm
      subst this;exact(hnl _).2 (.inl (h2 e he hb))
    ·rcases(hnl j).1 hj with h|rfl
     ·have hne:j≠i:=λe=>h1 (e▸h);obtain⟨o',ho',L',s',c1,c2,c3,c4,c5,c6⟩:=hh j h;refine⟨o',ho',L',s',λk hk=>(hnl k).2 (.inl (c1 k hk)),c2,c3,c4,ov_congr c5 (λ_=>Iff.rfl) (λk hk=>?_),by simp only[hne,if_false];exact c6⟩;have:k≠i:=λe=>h1 (e▸c1 k hk);simp only[outF,this,if_false]
     ·refine⟨o,ho,Lst listed,s,λk hk=>(hnl k).2 (.inl hk),hc,λe he hb=>h2 e he hb,h1,ov_congr hov (λ_=>Iff.rfl) (λk hk=>?_),by simp only[if_true];exact hv⟩;have:k≠j:=λe=>h1 (e▸hk);simp only[outF,this,if_false]
    ·rw[res_loc];have:=ov_add (o:=r.out o.dst) hov h1 (λj hj hlt l hl=>?_)
     ·refine ov_congr this (λj=>((hnl j)).symm) (λj hj=>?_);by_cases e:j=i
      ·subst e;simp[outF,ho]
      ·simp only[outF,e,if_false]
     ·cases hx:outF ops res j l with
      |none=>rfl
      |some v=>
       exfalso;have hjn:=hLn j hj;have hoj:ops[j]?=some (ops[j]'(by omega)):=by simp
       generalize ops[j]'(by omega)=oj at hoj;have hxs:(outF ops res j l).isSome:=by rw[hx];rfl
       obtain⟨kj,kmk⟩:=hist_kind hp hjn (hh j hj) hoj;have kr:=valid_kind hv;have hclash:clash ops o oj=true\/False:=by
        cases l with
        |slot t=>
         have hd1:=outF_slot hoj hxs;have hd2:o.dst=some t:=by
          simp only[Res.out]at hl;split at hl
          ·assumption
          ·cases hl
         exact .inl (clash_slot (.inr hd2) hd1)
        |cnt=>exact .inl (clash_call (kr.2 (by simpa[Res.out]using hl)) (kj.2 (outF_cnt hoj hxs)))
        |box id=>
         obtain⟨cs,hcs⟩:=outF_box hoj hxs;have hr:∃cs,r.bx=some (id,cs):=by
          simp only[Res.out]at hl;split at hl
          ·rename_i id' cs' hb;split at hl
           ·rename_i e;subst e;exact⟨cs',hb⟩
           ·cases hl
          ·cases hl
         obtain⟨cs',hr⟩:=hr;rcases kr.1 id cs' hr with⟨_,k1,_⟩|⟨k1,k2⟩<;>rcases kj.1 id cs hcs with⟨_,k3,_⟩|⟨k3,k4⟩
         ·exact .inl (clash_store k1 (.inl k3))
         ·exact .inl (clash_store k1 (.inr k3))
         ·exact .inl (clash_mk k1 k3)
         ·have:=nmOf_lt (n0:=s0.m.n) ho k1 hlt;exact .inr (by omega)
       rcases hclash with hclash|h
       ·have hord:=hp.pair i o j oj ho hoj hin hjn (by omega) hclash;simp only[ord,Bool.or_eq_true,Bool.and_eq_true,decide_eq_true_eq]at hord;rcases hord with⟨h,_⟩|⟨_,h⟩
        ·omega
        ·exact h1 (anc_closed hp hc hoj hj h)
       ·exact h
   by_cases hearly:∃i,i<np/\earlyB ops i=true/\¬Lst listed i
   ·obtain⟨i,hin,hE,h1⟩:=hearly;unfold earlyB at hE;split at hE
    ·rename_i o ho;simp only[Bool.and_eq_true,Option.isNone_iff_eq_none,List.all_eq_true,Bool.not_eq_true']at hE;obtain⟨⟨⟨⟨e1,e2⟩,e3⟩,e4⟩,e5⟩:=hE;split at e1
     ·rename_i x hop;have hi:=(Array.getElem?_eq_some_iff.1 ho).1;have h2:∀e∈o.after,bindsAny e=true->Lst listed e.on:=λe he hb=>by
       have:=e3 e (by simpa using he);rw[this]at hb;cases hb
      have hsel:∀(j:Nat)(o:Oper),ops[j]?=some o->(∀cs b,o.op≠.select cs b)/\∀c,o.op≠.defer c:=λj oj hj=>by
       unfold plainOps at e5;have:=List.all_eq_true.1 e5 oj (by have:=(Array.getElem?_eq_some_iff.1 hj).2;rw[←this];simp);refine⟨λcs b e=>?_,λc e=>?_⟩<;>rw[e]at this<;>cases this
      have hdo:∀t,o.dst=some t->t<N:=λt e=>by
       have:=List.all_eq_true.1 hd o (by have:=(Array.getElem?_eq_some_iff.1 ho).2;rw[←this];simp);simp only[dstOk,e,decide_eq_true_eq]at this;exact this
      refine wpAnyX_firstR (v:=a.eval x) ho hsel hQs (λc e=>by rw[hop]at e;cases e) fuel listed a w (λj oj hj hne hun hno=>Region.free_spec ho e4 j oj hj hne (by
        have:=(Array.getElem?_eq_some_iff.1 hj).1;simp[this]) hno) (mem_ready.2 ⟨(lst_false (by omega)).2 h1,o,ho,λe he hb=>h2 e he hb⟩)
       (.inl ⟨by simp[Region.wanted,e2],λw=>by simp[execOp,hop]⟩) ?_
      refine step i o ho hin h1 h2 ⟨s.ev x,none,none⟩ φ _ w (guardW_iff.2 (.inl ⟨by simp[guardV,e2],?_⟩)) (by rw[res_put];exact hs.put hdo (hs.ev x)) ha (by rw[put_defers];exact hD);simp only[opOut,hop];exact⟨_,by simp[pureV,hop],rfl⟩
     ·cases e1
    ·cases hE
   have hready0:i0∈Region.ready .any ops listed:=by
    refine mem_ready.2 ⟨(lst_false (by omega)).2 hni0,ops[i0]'(by omega),by simp,λe he hb=>?_⟩;have hlt:=hp.back i0 _ (by simp) e he hb;exact Classical.byContradiction λhno=>by
     have:=hmin e.on ⟨by omega,hno⟩;omega
   refine⟨λhr=>(by rw[hr]at hready0;cases hready0),λi hm=>?_⟩;obtain⟨h1,o,ho,h2⟩:=mem_ready.1 hm;have hi:=(Array.getElem?_eq_some_iff.1 ho).1;rw[lst_false (by omega)]at h1;have hin:i<np:=by
    refine Nat.lt_of_not_le λhge=>hni0 ?_;exact anc_in hp hc i o ho (λe he hb=>h2 e he hb) i0 ((hp.tail i o ho hge i0 (by omega)).resolve_right λh=>hearly ⟨i0,h.1,h.2,hni0⟩)
   obtain⟨res',si,p1,p2,p3,p4,p5,prc,p6,p7⟩:=path hp hLn hh hw i (by omega);have hdrop:(ops.toList.take np).drop i=o::(ops.toList.take np).drop (i+1):=by
    have hx:i<(ops.toList.take np).length:=by simp;omega
    rw[List.drop_eq_getElem_cons hx];congr 1;have:=(Array.getElem?_eq_some_iff.1 ho).2;simpa using this
   rw[hdrop,lexW]at p6;obtain⟨b1,b2,b3⟩:=agree_all hp ho hin hc (λe he hb=>h2 e he hb) h1 hLn hov p2 (λj hj=>p1 j hj) (λj o hj hoj=>hist_kind hp (hLn j hj) (hh j hj) hoj) (λj o hj hoj=>(p7 j o hj hoj).1);have hg:=guard_congr b1 p6;have hdo:∀t,o.dst=some t->t<N:=λt e=>by
    have:=List.all_eq_true.1 hd o (by have:=(Array.getElem?_eq_some_iff.1 ho).2;rw[←this];simp);simp only[dstOk,e,decide_eq_true_eq]at this;exact this
   simp only[wpOpX,ho];rcases guard_wanted hs hg with⟨hwt,hX⟩|⟨hwt,hY⟩
   ·rw[if_pos hwt];have hgv:guardV ops s o=some true:=by
     rcases guardW_iff.1 hg with⟨h,_⟩|⟨h,_⟩
     ·exact h
     ·exfalso;rcases guard_wanted (X:=False) (Y:=True) hs (guardW_iff.2 (.inr ⟨h,trivial⟩))with⟨_,h⟩|⟨h,_⟩
      ·exact h
      ·rw[hwt]at h;cases h
    have hpre:=(lex_pre hX).1;rw[p3]at hpre;have hpre':=opPre_congr (ev_congr b1) b3 b2 hpre;have hnear:Near s0.m s.m:=by
     refine⟨by rw[hn];exact nmOf_ge np,λid hid=>?_⟩;rcases hov (.box id)with⟨j,v,c1,c2,c3,c4⟩|⟨c1,c2⟩
     ·exfalso;have hjn:=hLn j c1;have hoj:ops[j]?=some (ops[j]'(by omega)):=by simp
      generalize ops[j]'(by omega)=oj at hoj;obtain⟨kj,_⟩:=hist_kind hp hjn (hh j c1) hoj;obtain⟨cs,hcs⟩:=outF_box hoj (by rw[c2];rfl);have:=nmOf_ge (n0:=s0.m.n) (ops:=ops) j;rcases kj.1 id cs hcs with⟨k,_⟩|⟨_,k⟩<;>omega
     ·have:¬(s0.m.n<=id/\id<nmOf s0.m.n ops np):=by omega
      simpa[St.loc,holed,this]using c2
    have hmk:isMk o=true->nmOf s0.m.n ops i<s.m.n/\s.m.β (nmOf s0.m.n ops i)=.hole:=by
     intro hm;have hlt:=nmOf_lt (n0:=s0.m.n) ho hm hin;refine⟨by rw[hn];exact hlt,?_⟩;rcases hov (.box (nmOf s0.m.n ops i))with⟨j,v,c1,c2,c3,c4⟩|⟨c1,c2⟩
     ·exfalso;have hjn:=hLn j c1;have hji:j≠i:=λe=>h1 (e▸c1);have hoj:ops[j]?=some (ops[j]'(by omega)):=by simp
      generalize ops[j]'(by omega)=oj at hoj;obtain⟨kj,_⟩:=hist_kind hp hjn (hh j c1) hoj;obtain⟨cs,hcs⟩:=outF_box hoj (by rw[c2];rfl);rcases kj.1 _ cs hcs with⟨_,k1,k2⟩|⟨k1,k2⟩
      ·have hord:=hp.pair i o j oj ho hoj hin hjn (Ne.symm hji) (clash_mk hm k1);simp only[ord,Bool.or_eq_true,Bool.and_eq_true,decide_eq_true_eq]at hord;rcases hord with⟨h,_⟩|⟨_,h⟩
       ·have:=nmOf_mono (n0:=s0.m.n) (ops:=ops) (Nat.le_of_lt h);omega
       ·exact h1 (anc_closed hp hc hoj c1 h)
      ·rcases Nat.lt_or_gt_of_ne hji with h|h
       ·have:=nmOf_lt (n0:=s0.m.n) hoj k1 h;omega
       ·have:=nmOf_lt (n0:=s0.m.n) ho hm h;omega
     ·have:=nmOf_ge (n0:=s0.m.n) (ops:=ops) i;have h':s0.m.n<=nmOf s0.m.n ops i/\nmOf s0.m.n ops i<nmOf s0.m.n ops np:=⟨this,hlt⟩;simpa[St.loc,holed,h']using c2
    intro τ d;refine Oper.wpX_mono ?_ (draw_op (A:=A) (hs.re τ d) (Anch.rew (by rw[he];exact ha) τ d) hdo (by rw[h0];exact hA.1) (by rw[h0];exact hA.2.2) hnear hpre' hmk (by rw[hn];exact nmOf_mono (by omega)));rintro a' w' ⟨r,φ',g1,g2,g3,g4⟩;exact step i o ho hin h1 (λe he hb=>h2 e he hb) r φ' a' w' (guardW_iff.2 (.inl ⟨hgv,g1⟩)) g2 (by rw[←he];exact g3) (g4.trans hD)
   ·rw[if_neg (by simp[hwt])];have hgv:guardV ops s o=some false:=by
     rcases guardW_iff.1 hg with⟨h,_⟩|⟨h,_⟩
     ·exfalso;rcases guard_wanted (X:=True) (Y:=False) hs (guardW_iff.2 (.inl ⟨h,trivial⟩))with⟨h,_⟩|⟨_,h⟩
      ·rw[hwt]at h;cases h
      ·exact h
     ·exact h
    exact step i o ho hin h1 (λe he hb=>h2 e he hb) ⟨.undef,none,none⟩ φ _ w (guardW_iff.2 (.inr ⟨hgv,rfl⟩)) (by rw[res_put];exact hs.put hdo rfl) ha (by rw[put_defers];exact hD)
theorem sem_draw{id:Nat}{s:St}{Q:Ex->St->Prop}(hm:P.follows .mixedOrders=true)(np:Nat)(hB:drawOk ops np=true)(T:Tab)
  (h:lexW P s.m T ops (ops.toList.take np) s λs'=>opsW P ops (ops.toList.drop np) s' (Q .normal)):CodeSem P (.region id ops true) s Q:=by
 intro A φ w N n r a hd hs ha hA hM;have hd':ops.toList.all (dstOk N)=true:=okC_dsts hd;have hp:=drawP_of hB;refine wpX_region_any hm ?_;have hl0:∀i,¬Lst (Array.replicate ops.size false) i:=λi h=>by
  simp only[Lst,Array.getD_eq_getD_getElem?,Array.getElem?_replicate]at h;split at h<;>simp at h
 refine any_pre (A:=⟨A.φ0,A.w0,φ,w,A.tl⟩) hp hd' h hA (D:=a.defers) ?_ (λa w τ d ⟨ex,s',φ',he,k1,k2,k3,kA,h⟩=>⟨ex,s',φ',he,k1.re τ d,k2.rew τ d,k3.rest (step_re φ' w τ d).toRest,kA,h⟩) ops.size _ a _ φ (λ_=>⟨.undef,none,none⟩) (holed s (nmOf s.m.n ops np)) (by simp) (by simp[left]) (λi h=>absurd h (hl0 i))
  (λi o _ h=>absurd h (hl0 i)) (λj h=>absurd h (hl0 j)) (ov_congr (ov_empty (out:=λ_ _=>none)) (λj=>⟨λh=>False.elim h,λh=>hl0 j h⟩) (λj h=>False.elim h)) rfl rfl rfl rfl ?_ ⟨ha.st,Rest.refl _ _⟩ rfl
 ·rintro a' w' s' e ⟨s2,φ',g1,g2,g3,rfl,g5⟩;exact⟨.normal,s2,φ',rfl,g1,⟨g2.st,ha.re.trans g2.re⟩,by rw[g3];exact hM.rest g2.re,by unfold Old;rw[e];exact hA,g5⟩
 ·refine⟨hs.tmp,hs.size,λi hi=>?_,λi hi=>?_,hs.mem.arr,hs.mem.boxinj,hs.mem.arrinj,hs.mem.sep,hs.mem.rcs⟩
  ·by_cases hin:s.m.n<=i
   ·refine .inl ⟨?_,hs.mem.boxn i hin⟩;have hi':s.m.n<=i/\i<nmOf s.m.n ops np:=⟨hin,hi⟩;simp[holed,hi']
   ·rcases hs.mem.box i (by omega)with h|⟨b,cs,e,h1,h2,h3⟩
    ·exact .inl ⟨by simp[holed,hin,h.1],h.2⟩
    ·exact .inr ⟨b,cs,e,h1,h2,by simpa[holed,hin]using h3⟩
  ·exact hs.mem.boxn i (by have:=nmOf_ge (n0:=s.m.n) (ops:=ops) np;simp only[holed]at hi;omega)
def anyW(P:Program)(ops:Array Oper):Nat->Array Bool->St->(St->Prop)->Prop
 |0,l,s,K=>Region.ready .any ops l=[]/\K s
 |n+1,l,s,K=>(Region.ready .any ops l=[]->K s)/\∀i∈Region.ready .any ops l,∀o,ops[i]?=some o->opsW P ops [o] s λs'=>anyW P ops n (l.setIfInBounds i true) s' K
theorem any_brute{r:Option Nat}{K:St->Prop}{D:List Deferred}(hd:ops.toList.all (dstOk N)=true):∀(fuel:Nat)(listed:Array Bool)(a:Act)(w:World)(φ:Phi)(s:St),
  SRel φ w N s a->Anch A φ w s.eff->Old A s->a.defers=D->anyW P ops fuel listed s K->(∀a' w' s',s'.a0=s.a0->Good A N D (λu=>u=s'/\K u) a' w'->Q .normal a' w') ->
  wpAnyX r P ops Q fuel listed a w:=by
 intro fuel;induction fuel with
 |zero=>
  intro listed a w φ s hs ha hA hD hK hQ;exact⟨hK.1,hQ a w s rfl ⟨s,φ,hs,ha,hD,rfl,hK.2⟩⟩
 |succ fuel ih=>
  intro listed a w φ s hs ha hA hD hK hQ;refine⟨λhr=>hQ a w s rfl ⟨s,φ,hs,ha,hD,rfl,hK.1 hr⟩,λi hm=>?_⟩;obtain⟨h1,o,ho,h2⟩:=mem_ready.1 hm;have hK:=hK.2 i hm o ho;have hdo:∀t,o.dst=some t->t<N:=λt e=>by
   have:=List.all_eq_true.1 hd o (by have:=(Array.getElem?_eq_some_iff.1 ho).2;rw[←this];simp);simp only[dstOk,e,decide_eq_true_eq]at this;exact this
  simp only[opsW]at hK;simp only[wpOpX,ho];rcases guard_wanted hs hK with⟨hw,hX⟩|⟨hw,hY⟩
  ·rw[if_pos hw];intro τ d;obtain⟨s1,⟨e1,hsil⟩,hX⟩:=hX;obtain⟨φ1,hs1,ha1⟩:=hsil φ w N a A hs ha hA;replace hs1:=hs1.re τ d;replace ha1:=ha1.rew τ d;have hA1:Old A s1:=by unfold Old at hA⊢;rw[e1];exact hA
   refine Oper.wpX_mono ?_ (opW_sound (A:=A) hs1 ha1 hdo hA1.1 hA1.2.2 (opW_imp (λs' e h=>(⟨e,h⟩:s'.a0=s1.a0/\_)) hX));rintro a' w' ⟨s',φ',g1,g2,g3,g4,g5⟩;replace g4:=g4.trans e1;exact ih _ a' w' φ' s' g1 g2 (by unfold Old;rw[g4];exact hA) (g3.trans hD) g5 (λa2 w2 s2 e2 h=>hQ a2 w2 s2 (e2.trans g4) h)
  ·rw[if_neg (by simp[hw])];have g1:SRel φ w N (s.put o.dst .undef) (a.put o.dst undef):=hs.put hdo rfl;exact ih _ _ w φ _ g1 (by rw[St.put_eff];exact ha) (by unfold Old;rw[St.put_a0];exact hA) (by rw[put_defers];exact hD) hY
    (λa2 w2 s2 e2 h=>hQ a2 w2 s2 (by rw[e2,St.put_a0]) h)
theorem sem_any{id:Nat}{s:St}{Q:Ex->St->Prop}(hm:P.follows .mixedOrders=true)(h:anyW P ops ops.size (Array.replicate ops.size false) s (Q .normal)):CodeSem P (.region id ops true) s Q:=by
 intro A φ w N n r a hd hs ha hA hM;have hd':ops.toList.all (dstOk N)=true:=okC_dsts hd;refine wpX_region_any hm ?_;refine any_brute (A:=⟨A.φ0,A.w0,φ,w,A.tl⟩) (D:=a.defers) hd' ops.size _ a _ φ s hs ⟨ha.st,Rest.refl _ _⟩ hA rfl h ?_;rintro a' w' s' e ⟨s2,φ',g1,g2,g3,rfl,g5⟩;exact⟨.normal,s2,φ',rfl,g1,⟨g2.st,ha.re.trans g2.re⟩,by rw[g3];exact hM.rest g2.re,by unfold Old;rw[e];exact hA,g5⟩
end
end
section
open Go Go.RowKit
variable[Sp]
section
variable{P:Program}{φ φ':Phi}{w:World}{A:Anchor}{N n:Nat}{s:St}{a:Act}{m:Mem}{l:Nat}{o o':Loop}
theorem step_loop(h:w.heap[l]?=some (.loop o)):Step φ w φ (w.putObj l (.loop o')) []:=
 ⟨λq c hq=>VRel.shut (noCells_loop h) _ _ hq,rfl,rfl,by rw[World.putObj_size];exact Nat.le_refl _,
  λb hb ho hl=>⟨World.putObj_heap_other (λe=>hl o (by rw[e];exact h)),ho⟩⟩
theorem rest_loop(h:w.heap[l]?=some (.loop o)):Rest φ w φ (w.putObj l (.loop o')):=(step_loop h).toRest
theorem anch_loop{E:List Eff}(k:Anch A φ w E)(h:w.heap[l]?=some (.loop o)):Anch A φ (w.putObj l (.loop o')) E:=by
 have:=k.trans (step_loop (o':=o') h);rwa[List.append_nil]at this
theorem mrel_drop{rc:List (Nat×Loop)}(hm:MRel φ m w)(h:w.heap[l]?=some (.loop o))(hrc:∀p∈rc,p∈m.rc)(hne:∀p∈rc,p.1≠l):MRel φ { m with rc:=rc } (w.putObj l (.loop o')):=
 mrel_shut (m:={ m with rc:=rc }) (noCells_loop h) (λl' o hl=>hne _ hl) ⟨hm.box,hm.boxn,hm.arr,hm.boxinj,hm.arrinj,hm.sep,λl o hl=>hm.rcs l o (hrc _ hl)⟩
theorem mrel_loop{rc1 rc2:List (Nat×Loop)}(hm:MRel φ m w)(hrc:m.rc=rc1++(l,o)::rc2)(hne:∀p∈rc1++rc2,p.1≠l):MRel φ { m with rc:=rc1++(l,o')::rc2 } (w.putObj l (.loop o')):=by
 have h:w.heap[l]?=some (.loop o):=hm.rcs l o (by rw[hrc];simp);have hlt:l<w.heap.size:=(Array.getElem?_eq_some_iff.1 h).1;have hd:=mrel_drop (o':=o') (rc:=rc1++rc2) hm h (λp hp=>by rw[hrc];simp only[List.mem_append,List.mem_cons]at hp⊢;rcases hp with hp|hp<;>simp[hp]) hne;refine⟨hd.box,hd.boxn,hd.arr,hd.boxinj,hd.arrinj,hd.sep,λl' o1 hl=>?_⟩;simp only[List.mem_append,List.mem_cons]at hl;rcases hl with hl|hl|hl
 ·exact hd.rcs l' o1 (by simp[hl])
 ·injection hl with h1 h2;subst h1;subst h2;exact World.putObj_heap_same hlt
 ·exact hd.rcs l' o1 (by simp[hl])
theorem srel_mem{m':Mem}{w':World}(h:SRel φ w N s a)(hs:Step φ w φ w' [])(hm:MRel φ m' w'):SRel φ w' N { s with m:=m' } a:=
 ⟨λt=>hs.tr _ _ (h.tmp t),h.size,hm⟩
def jumpOf:Ex->Option Code
 |.normal=>none
 |.ret=>some .ret
 |.exit i=>some (.exit i)
def setPg(g:Nat->PV):List Nat->List PV->Nat->PV
 |p::ps,v::vs=>setPg (λt=>if t=p then v else g t) ps vs
 |_,_=>g
def entryR(ys:List YRec)(g:Nat->PV)(ps:List Nat)(args:List PV)(m:Mem):St:=⟨setPg g ps args,m,⟨m.an,m.n,ys⟩,[]⟩
theorem setPg_rel:∀(ps:List Nat)(args:List PV)(vs:List Value)(g:Nat->PV)(tmps:Array Value),(∀p∈ps,p<tmps.size)->ps.length=args.length->VRelL φ w args vs->(∀t,VRel φ w (g t) (tmps.getD t undef)) ->
  (∀t,VRel φ w (setPg g ps args t) (((ps.zip vs).foldl (λtmps (t,a)=>tmps.setIfInBounds t a) tmps).getD t undef))/\((ps.zip vs).foldl (λtmps (t,a)=>tmps.setIfInBounds t a) tmps).size=tmps.size
 |[],args,vs,g,tmps,_,_,_,h=>by simp only[setPg,List.zip_nil_left,List.foldl_nil];exact⟨h,trivial⟩
 |p::ps,[],vs,g,tmps,_,hl,_,h=>by simp at hl
 |p::ps,v::args,vs,g,tmps,hp,hl,hv,h=>by
  obtain⟨u,us,rfl,h1,h2⟩:=hv;simp only[setPg,List.zip_cons_cons,List.foldl_cons];have hsz:(tmps.setIfInBounds p u).size=tmps.size:=by simp
  obtain⟨k1,k2⟩:=setPg_rel ps args us (λt=>if t=p then v else g t) (tmps.setIfInBounds p u) (λq hq=>by rw[hsz];exact hp q (by simp[hq])) (by simpa using hl) h2 (λt=>by
   have hpl:=hp p (by simp);simp only[Array.getD_eq_getD_getElem?];by_cases e:t=p
   ·subst e;rw[if_pos rfl,Array.getElem?_setIfInBounds_self_of_lt hpl];exact h1
   ·rw[if_neg e,Array.getElem?_setIfInBounds_ne (Ne.symm e)];have:=h t;simpa only[Array.getD_eq_getD_getElem?]using this)
  exact⟨k1,k2.trans hsz⟩
theorem eyield_of_sem{ys:List YRec}{y:YRec}{args:List PV}{Q:PV->List Eff->Mem->Prop}(hy:y∈ys)(hps:∀p∈y.o.params.toList,p<y.o.tmps.size)(hlen:y.o.params.toList.length=args.length)
  (hda:dstsOk y.o.tmps.size y.o.assign=true) (hdb:dstsOk y.o.tmps.size y.o.body=true) (hna:noRange y.o.assign=true) (hnb:noRange y.o.body=true)
  (h:CodeSem P y.o.assign (entryR ys y.g y.o.params.toList args m) λe s1=>e=.normal/\∃rc1 rc2 pd,s1.m.rc=rc1++(y.l,{ y.o with state:=.ready,pending:=pd })::rc2/\(∀p∈rc1++rc2,p.1≠y.l) /\
   CodeSem P y.o.body { s1 with m:={ s1.m with rc:=rc1++(y.l,{ y.o with state:=.busy,pending:=pd })::rc2 } } λe s2=>∃rc1' rc2' st pd',s2.m.rc=rc1'++(y.l,{ y.o with state:=st,pending:=pd' })::rc2'/\(∀p∈rc1'++rc2',p.1≠y.l) /\
    Q (.bool (jumpOf e).isNone) s2.eff { s2.m with rc:=rc1'++(y.l,{ y.o with state:=if(jumpOf e).isNone then .ready else .done,pending:=jumpOf e })::rc2' }):EYield P ys y.o y.l args m Q:=by
 intro φ vs w n hm hv hys;refine roundX_of_wpX ?_;have hfold:(y.o.params.zip vs.toArray).foldl (λtmps (t,a)=>tmps.setIfInBounds t a) y.o.tmps=(y.o.params.toList.zip vs).foldl (λtmps (t,a)=>tmps.setIfInBounds t a) y.o.tmps:=by rw[←Array.foldl_toList,Array.toList_zip]
 rw[hfold];obtain⟨g1,g2⟩:=setPg_rel y.o.params.toList args vs y.g y.o.tmps hps hlen hv (hys y hy);have hs:SRel φ w y.o.tmps.size (entryR ys y.g y.o.params.toList args m) { tmps:=(y.o.params.toList.zip vs).foldl (λtmps (t,a)=>tmps.setIfInBounds t a) y.o.tmps,defers:=[] }:=⟨g1,g2,hm⟩;have hA:Old ⟨φ,w,φ,w,[]⟩ (entryR ys y.g y.o.params.toList args m):=⟨λi b hi=>(hm.arr i b hi).1,λi b hi=>Nat.lt_of_not_le λhle=>(by rw[hm.boxn i hle]at hi;cases hi),hys⟩;refine wpX_mono (h ⟨φ,w,φ,w,[]⟩ φ w y.o.tmps.size n (some y.l) _ (okC_some hda hna) hs ⟨Step.refl φ w,Rest.refl φ w⟩ hA rfl) ?_;rintro e a1 w1 ⟨ex,s1,φ1,he,k1,k2,k3,kA,rfl,rc1,rc2,pd,hrc,hne,hb⟩;cases e<;>simp only[Ex.of,Option.some.injEq,reduceCtorEq]at he<;>try (cases he;done)
 intro τ d;replace k1:=k1.re τ d;replace k2:=k2.rew τ d;replace k3:=k3.rest (step_re φ1 w1 τ d).toRest;generalize re w1 τ d=w1 at *;have hl:w1.heap[y.l]?=some (.loop { y.o with state:=.ready,pending:=pd }):=k1.mem.rcs _ _ (by rw[hrc];simp);refine⟨_,run_beginRound hl rfl,?_⟩;have hm2:=mrel_loop (o':={ y.o with state:=.busy,pending:=pd }) k1.mem hrc hne;refine wpX_mono (hb ⟨φ,w,φ,w,[]⟩ φ1 _ y.o.tmps.size n (some y.l) a1 (okC_some hdb hnb) (srel_mem k1 (step_loop hl) hm2) (anch_loop k2 hl) kA (k3.rest (rest_loop hl))) ?_;rintro e a2 w2 ⟨ex,s2,φ2,he,j1,j2,j3,jA,rc1',rc2',st,pd',hrc',hne',hq⟩;have fin:∀τ d,∃v w',(Instr.endRound y.l (jumpOf ex)).run P (re w2 τ d)=.ok v w'/\∃v' pv E m' φ',Ending.returned v=.returned v'/\VRel φ' w' pv v'/\MRel φ' m' w'/\Step φ w φ' w' E/\Q pv E m':=by
  intro τ d;replace j1:=j1.re τ d;replace j2:=j2.rew τ d;generalize re w2 τ d=w2 at *;have hl2:w2.heap[y.l]?=some (.loop { y.o with state:=st,pending:=pd' }):=j1.mem.rcs _ _ (by rw[hrc'];simp);refine⟨_,_,run_endRound (jumpOf ex) hl2,_,.bool (jumpOf ex).isNone,s2.eff,_,φ2,rfl,rfl,mrel_loop j1.mem hrc' hne',?_,hq⟩;have:=(anch_loop (o':={ y.o with state:=if(jumpOf ex).isNone then .ready else .done,pending:=jumpOf ex }) j2 hl2).st;exact this
 cases e<;>simp only[Ex.of,Option.some.injEq,reduceCtorEq]at he<;>try (cases he;done)
 all_goals subst he;exact fin
theorem sem_rangeFunc{h:Operand}{ps:Array Tmp}{asg body:Code}{g:FuncId}{caps:List PV}{Q:Ex->St->Prop}{rc1 rc2:List (Nat×Loop)}
  (hgB:g<fnB) (hf:s.ev h=.fn g caps) (hg:∃fn,P.funcs[g]?=some fn/\fn.name ≠ "runtime.NumGoroutine" /\ fn.body.isSome) (hrc:s.m.rc=rc1++rc2)
  (H:∀(l:Nat)(o:Loop),o.params=ps->o.assign=asg->o.body=body->o.state=.ready->o.pending=none->(∀p∈ps.toList,p<o.tmps.size)->dstsOk o.tmps.size asg=true->dstsOk o.tmps.size body=true->(∀p∈s.m.rc,p.1≠l) ->
   ECallsY P (s.nowY++[⟨l,o,s.g⟩]) g (.yld l::caps) { s.m with rc:=rc1++(l,o)::rc2 } λv E m'=>∃st ex rc1' rc2',m'.rc=rc1'++(l,{ o with state:=st,pending:=jumpOf ex })::rc2'/\st≠.busy/\(∀p∈rc1'++rc2',p.1≠l)/\Q ex (s.after E { m' with rc:=rc1'++rc2' })):
  CodeSem P (.rangeFunc h ps asg body) s Q:=by
 intro A φ w N n r a hd hs ha hA hm;have hr:r=none:=by
  cases r with
  |none=>rfl
  |some l=>simp[okC,noRange]at hd
 subst hr;have hd':=okC_dsts hd;simp only[dstsOk,Bool.and_eq_true,List.all_eq_true,decide_eq_true_eq]at hd';refine wpX_rangeFunc λfn τ e=>?_;replace hs:=hs.re τ e;replace ha:=ha.rew τ e;replace hm:=hm.rest (step_re φ w τ e).toRest;generalize re w τ e=w at *;have hfv:=hs.ev h;rw[hf]at hfv;obtain⟨vs,hv,hvs⟩:=hfv;rw[fnV_lt hgB]at hv;obtain⟨gfn,hgfn,hname,hbody⟩:=hg;obtain⟨code,hcode⟩:=Option.isSome_iff_exists.1 hbody;let o:Loop:={ state:=.ready,pending:=none,fn,tmps:=a.tmps,params:=ps,assign:=asg,body,defers:=w.heap.size };let w1:World:=(w.alloc (.deferred (some []))).alloc (.loop o);have hsz:a.tmps.size=N:=hs.size;have hheap:∀b,b<w.heap.size->w1.heap[b]?=w.heap[b]?:=λb hb=>by
  show((w.heap.push _).push _)[b]?=_;rw[Array.getElem?_push_lt (by simp;omega),Array.getElem_push_lt hb];simp[hb]
 have hs1:(w.alloc (.deferred (some []))).heap.size=w.heap.size+1:=by show(w.heap.push _).size=_;simp
 have hL:w1.heap[w.heap.size+1]?=some (.loop o):=by
  have:=World.alloc_heap_new (w.alloc (.deferred (some []))) (.loop o);rwa[hs1]at this
 have hD:w1.heap[w.heap.size]?=some (.deferred (some [])):=by
  have h1:=World.alloc_heap_new w (.deferred (some []));show((w.alloc (.deferred (some []))).heap.push _)[w.heap.size]?=_;rw[Array.getElem?_push_lt (by omega)];rw[←h1,Array.getElem?_eq_getElem (by omega)]
 have hw1:w1.heap.size=w.heap.size+2:=by show((w.heap.push _).push _).size=_;simp
 have hown:∀b,φ.own b->b<w.heap.size:=by
  rintro b (⟨i,hi⟩|⟨i,hi⟩)
  ·obtain⟨cs,e,h1,_⟩:=hs.mem.has hi;exact(Array.getElem?_eq_some_iff.1 h1).1
  ·exact(hs.mem.arr i b hi).2.lt
 have hkeep:Keeps φ w φ w1:=⟨λ_ _ h=>h,λ_ _ h=>h,λ_ _ h=>h,by omega,λi b hi=>hheap b (hown b (.inr ⟨i,hi⟩)),λb hb _=>hheap b hb⟩;have hstep:Step φ w φ w1 []:=⟨λq c hq=>VRel.keeps hkeep q c hq,rfl,rfl,by omega,λb hb ho _=>⟨hheap b hb,ho⟩⟩;have hnew:∀p∈s.m.rc,p.1<w.heap.size:=λp hp=>(Array.getElem?_eq_some_iff.1 (hs.mem.rcs p.1 p.2 hp)).1;have hm1:MRel φ { s.m with rc:=rc1++(w.heap.size+1,o)::rc2 } w1:=by
  refine⟨λi hi=>?_,hs.mem.boxn,λi b hi=>?_,hs.mem.boxinj,hs.mem.arrinj,hs.mem.sep,λl o1 hl=>?_⟩
  ·rcases hs.mem.box i hi with h1|⟨b,cs,e,h1,h2,h3⟩
   ·exact .inl h1
   ·refine .inr ⟨b,cs,e,h1,(hheap b (hown b (.inl ⟨i,h1⟩))).trans h2,?_⟩;show BRel φ w1 (s.m.β i) cs.toList;cases hc:s.m.β i with
    |cells l=>rw[hc]at h3;exact VRelL.keeps hkeep l _ h3
    |inv I=>
     rw[hc]at h3;obtain⟨l,q1,q2,q3,q4⟩:=h3;exact⟨l,q1,q2,q3,VRelL.keeps hkeep l _ q4⟩
    |hole=>rw[hc]at h3;exact h3.elim
  ·obtain⟨h1,h2⟩:=hs.mem.arr i b hi;exact⟨h1,h2.of_eq (hheap b (hown b (.inr ⟨i,hi⟩)))⟩
  ·simp only[List.mem_append,List.mem_cons]at hl;have old:(l,o1)∈s.m.rc->w1.heap[l]?=some (.loop o1):=λhl=>(hheap l (hnew _ hl)).trans (hs.mem.rcs l o1 hl);rcases hl with hl|hl|hl
   ·exact old (by rw[hrc];simp[hl])
   ·injection hl with h1 h2;subst h1;subst h2;exact hL
   ·exact old (by rw[hrc];simp[hl])
 have hyl:VRel φ w1 (.yld (w.heap.size+1)) (.func (.yield (w.heap.size+1)) #[] #[]):=by simp only[VRel]
 have hrd:ReadY (s.nowY++[⟨w.heap.size+1,o,s.g⟩]) φ w1:=by
  intro y hy t;simp only[List.mem_append,List.mem_singleton]at hy;rcases hy with hy|rfl
  ·exact VRel.keeps hkeep _ _ (readY_now ha hA.2.2 y hy t)
  ·exact VRel.keeps hkeep _ _ (hs.tmp t)
 have hst1:Anch A φ w1 s.eff:=by
  have:=ha.trans hstep;rwa[List.append_nil]at this
 have hcall:=H (w.heap.size+1) o rfl rfl rfl rfl rfl (λp hp=>by show p<a.tmps.size;rw[hsz];exact hd'.1.1 p hp) (by show dstsOk a.tmps.size asg=true;rw[hsz];exact hd'.1.2) (by show dstsOk a.tmps.size body=true;rw[hsz];exact hd'.2) (λp hp=>by have:=hnew p hp;omega)
  φ (.func (.yield (w.heap.size+1)) #[] #[]::vs) w1 hm1 ⟨_,_,rfl,hyl,VRelL.keeps hkeep _ _ hvs⟩ hrd
 refine⟨w.heap.size+1,[{ target:=.collected w.heap.size,args:=#[] }],w1,{ target:=.fn (.func g) vs.toArray,args:=#[]++#[.func (.yield (w.heap.size+1)) #[] #[]] },w1,g,(.func (.yield (w.heap.size+1)) #[] #[]::vs).toArray,w1,run_enterLoop_outer _ _ _ _ _,?_,?_,?_⟩
 ·have hcs:a.eval (.const (.func (.yield (w.heap.size+1)) #[] #[]))=.func (.yield (w.heap.size+1)) #[] #[]:=rfl;simp[resolve,hv,Deferred.ofValue,hcs]
 ·simp[invoke,callFunc,hgfn,hname,hcode]
 ·refine hcall.mono ?_;rintro e w3 ⟨v,pv,E,m',φ',rfl,hpv,hm',hstep',st,ex,rc1',rc2',hrc',hbusy,hne',hq⟩;intro τ d;replace hm':=hm'.re τ d;replace hstep':Step φ w1 φ' (re w3 τ d) E:=by
   have:=hstep'.trans (step_re φ' w3 τ d);rwa[List.append_nil]at this
  clear hpv;generalize re w3 τ d=w3 at *;have hl3:w3.heap[w.heap.size+1]?=some (.loop { o with state:=st,pending:=jumpOf ex }):=hm'.rcs _ _ (by rw[hrc'];simp);refine⟨jumpOf ex,_,run_endLoop hl3 hbusy,?_⟩;have hm4:MRel φ' { m' with rc:=rc1'++rc2' } (w3.putObj (w.heap.size+1) (.loop { state:=.exhausted,pending:=jumpOf ex,fn:=o.fn,tmps:=o.tmps,params:=o.params,assign:=o.assign,body:=o.body,defers:=o.defers })):=
   mrel_drop hm' hl3 (λp hp=>by rw[hrc'];simp only[List.mem_append,List.mem_cons]at hp⊢;rcases hp with hp|hp<;>simp[hp]) hne'
  have hA2:Anch A φ' w3 (addEff s.a0.a s.eff E):=Anch.add hA.1 (hst1.trans hstep');have hS4:SRel φ' (w3.putObj (w.heap.size+1) (.loop { state:=.exhausted,pending:=jumpOf ex,fn:=o.fn,tmps:=o.tmps,params:=o.params,assign:=o.assign,body:=o.body,defers:=o.defers })) N (s.after E { m' with rc:=rc1'++rc2' }) { a with defers:=[{ target:=.collected w.heap.size,args:=#[] }]++a.defers }:=
   ⟨λt=>(step_loop hl3).tr _ _ (hstep'.tr _ _ (hstep.tr _ _ (hs.tmp t))),hs.size,hm4⟩
  have hmk:Marks φ' (w3.putObj (w.heap.size+1) (.loop { state:=.exhausted,pending:=jumpOf ex,fn:=o.fn,tmps:=o.tmps,params:=o.params,assign:=o.assign,body:=o.body,defers:=o.defers })) A.w0 A.tl ([{ target:=.collected w.heap.size,args:=#[] }]++a.defers):=by
   have hR:Rest φ w1 φ' (w3.putObj (w.heap.size+1) (.loop { state:=.exhausted,pending:=jumpOf ex,fn:=o.fn,tmps:=o.tmps,params:=o.params,assign:=o.assign,body:=o.body,defers:=o.defers })):=hstep'.toRest.trans (rest_loop hl3);have hno:¬φ.own w.heap.size:=λh=>by have:=hown _ h;omega
   refine Marks.rest hR (.inl ⟨⟨w.heap.size,rfl,ha.st.size,hD,hno,λd' hd'=>?_⟩,hm.rest hstep.toRest⟩);intro e;subst e;have:∀{l:List Deferred},Marks φ w A.w0 A.tl l->∀D,{ target:=.collected D,args:=#[] }∈l->D<w.heap.size:=by
    intro l;induction l with
    |nil=>intro _ D h;cases h
    |cons d l ih=>
     rintro(⟨⟨D,h1,_,h2,_⟩,hl⟩|⟨ht,hf⟩) D' h
     rotate_left
     ·obtain⟨f,c,e⟩:=hf _ (by rw[ht];exact h);cases e
     rcases List.mem_cons.1 h with h|h
     ·rw[h1]at h;injection h with h _;injection h with h;subst h;exact(Array.getElem?_eq_some_iff.1 h2).1
     ·exact ih hl D' h
   have:=this hm _ hd';omega
  have good:GoodC A N Q (match ex with | .normal=>.normal | .ret=>.ret | .exit i=>.exit i) { a with defers:=[{ target:=.collected w.heap.size,args:=#[] }]++a.defers } (w3.putObj (w.heap.size+1) (.loop { state:=.exhausted,pending:=jumpOf ex,fn:=o.fn,tmps:=o.tmps,params:=o.params,assign:=o.assign,body:=o.body,defers:=o.defers })):=
   ⟨ex,_,φ',by cases ex<;>rfl,hS4,anch_loop hA2 hl3,hmk,hA,hq⟩
  cases ex with
  |normal=>exact good
  |ret=>exact wpX_ret good
  |exit i=>exact wpX_exit good
end
end
end Go.Proofs.Ytjfejoadcdoobaa
