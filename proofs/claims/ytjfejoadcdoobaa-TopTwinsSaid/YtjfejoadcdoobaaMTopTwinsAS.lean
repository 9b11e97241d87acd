/- Part of the proof of TopTwins. No condition. -/
import Derived.Test.YtjfejoadcdoobaaMTopTwinsAH
import Derived.Test.YtjfejoadcdoobaaMTopTwinsAR
namespace Go.Proofs.Ytjfejoadcdoobaa
set_option maxRecDepth 100000
set_option linter.all false
section
open Go Go.RowKit
variable[Sp]
structure SameF(F F':Frm):Prop where
 n0:F'.n0=F.n0
 d0:F'.d0=F.d0
 β0:F'.β0=F.β0
 DI:F'.DI=F.DI
 ys:∀(y l:Nat),F.ent.ys[y]?.map YRec.l=some l->F'.ent.ys[y]?.map YRec.l=some l
mutual
theorem rv_frm{F F':Frm}{E:Env}(h:SameF F F'):∀{v:SV}{q:PV},RV F E v q->RV F' E v q
 |.e x,q,hr=>by simpa only[RV]using hr
 |.undef,q,hr=>by simpa only[RV]using hr
 |.junk,q,hr=>by simp only[RV]
 |.ptr i o,q,hr=>by simp only[RV]at hr⊢;rw[h.n0];exact hr
 |.hd i o z,q,hr=>by simp only[RV]at hr⊢;rw[h.n0];exact hr
 |.pel b x fo,q,hr=>by simp only[RV]at hr⊢;rw[h.n0];exact hr
 |.dice,q,hr=>by simp only[RV]at hr⊢;rw[h.n0,h.d0,h.β0,h.DI];exact hr
 |.yld y,q,hr=>by
  simp only[RV]at hr⊢;obtain⟨l,h1,h2⟩:=hr;exact⟨l,h.ys y l h1,h2⟩
 |.own k,q,hr=>by simpa only[RV]using hr
 |.eown k x fo,q,hr=>by simpa only[RV]using hr
 |.erow x sz fo,q,hr=>by simpa only[RV]using hr
 |.sref l fo,q,hr=>by
  simp only[RV]at hr⊢;obtain⟨l',h1,h2⟩:=hr;exact⟨l',rvl_frm h h1,h2⟩
 |.fn f l,q,hr=>by
  simp only[RV]at hr⊢;obtain⟨l',h1,h2⟩:=hr;exact⟨l',h1,rvl_frm h h2⟩
 |.agg l,q,hr=>by
  simp only[RV]at hr⊢;obtain⟨l',h1,h2⟩:=hr;exact⟨l',h1,rvl_frm h h2⟩
 |.tup l,q,hr=>by
  simp only[RV]at hr⊢;obtain⟨l',h1,h2⟩:=hr;exact⟨l',h1,rvt_frm h h2⟩
 |.lit sz len l,q,hr=>by
  simp only[RV]at hr⊢;obtain⟨l',h1,h2,h3⟩:=hr;exact⟨l',h1,rvl_frm h h2,h3⟩
theorem rvl_frm{F F':Frm}{E:Env}(h:SameF F F'):∀{l:List SV}{l':List PV},RVL F E l l'->RVL F' E l l'
 |[],l',hr=>by simpa only[RVL]using hr
 |v::vs,l',hr=>by
  simp only[RVL]at hr⊢;obtain⟨q,r,h1,h2,h3,h4⟩:=hr;exact⟨q,r,h1,rv_frm h h2,h3,rvl_frm h h4⟩
theorem rvt_frm{F F':Frm}{E:Env}(h:SameF F F'):∀{l:List SV}{l':List PV},RVT F E l l'->RVT F' E l l'
 |[],l',hr=>by simpa only[RVT]using hr
 |v::vs,l',hr=>by
  simp only[RVT]at hr⊢;obtain⟨q,r,h1,h2,h4⟩:=hr;exact⟨q,r,h1,rv_frm h h2,rvt_frm h h4⟩
end
theorem rb_frm{F F':Frm}{E:Env}(h:SameF F F'){b:BX}{c:BoxC}(hb:RB F E b c):RB F' E b c:=by
 cases b with
 |cells l=>obtain⟨l',h1,h2⟩:=hb;exact⟨l',h1,rvl_frm h h2⟩
 |dice=>exact(show c=.inv F'.DI by rw[h.DI];exact hb)
 |gone=>trivial
structure SameN(n:Nat)(F F':Frm):Prop where
 n0:F'.n0=F.n0
 d0:F'.d0=F.d0
 β0:F'.β0=F.β0
 DI:F'.DI=F.DI
 ys:∀(y l:Nat),y<n->F.ent.ys[y]?.map YRec.l=some l->F'.ent.ys[y]?.map YRec.l=some l
mutual
theorem rv_noY{n:Nat}{F F':Frm}{E:Env}(h:SameN n F F'):∀{v:SV}{q:PV},RV F E v q->RV F' E (v.noY n) q
 |.e x,q,hr=>by simp only[SV.noY];simpa only[RV]using hr
 |.undef,q,hr=>by simp only[SV.noY];simpa only[RV]using hr
 |.junk,q,hr=>by simp only[SV.noY,RV]
 |.ptr i o,q,hr=>by simp only[SV.noY];simp only[RV]at hr⊢;rw[h.n0];exact hr
 |.hd i o z,q,hr=>by simp only[SV.noY];simp only[RV]at hr⊢;rw[h.n0];exact hr
 |.pel b x fo,q,hr=>by simp only[SV.noY];simp only[RV]at hr⊢;rw[h.n0];exact hr
 |.dice,q,hr=>by simp only[SV.noY];simp only[RV]at hr⊢;rw[h.n0,h.d0,h.β0,h.DI];exact hr
 |.yld y,q,hr=>by
  simp only[SV.noY];split
  ·rename_i hy;simp only[RV]at hr⊢;obtain⟨l,h1,h2⟩:=hr;exact⟨l,h.ys y l hy h1,h2⟩
  ·simp only[RV]
 |.own k,q,hr=>by simp only[SV.noY];simpa only[RV]using hr
 |.eown k x fo,q,hr=>by simp only[SV.noY];simpa only[RV]using hr
 |.erow x sz fo,q,hr=>by simp only[SV.noY];simpa only[RV]using hr
 |.sref l fo,q,hr=>by
  simp only[SV.noY];simp only[RV]at hr⊢;obtain⟨l',h1,h2⟩:=hr;exact⟨l',rvl_noY h h1,h2⟩
 |.fn f l,q,hr=>by
  simp only[SV.noY];simp only[RV]at hr⊢;obtain⟨l',h1,h2⟩:=hr;exact⟨l',h1,rvl_noY h h2⟩
 |.agg l,q,hr=>by
  simp only[SV.noY];simp only[RV]at hr⊢;obtain⟨l',h1,h2⟩:=hr;exact⟨l',h1,rvl_noY h h2⟩
 |.tup l,q,hr=>by
  simp only[SV.noY];simp only[RV]at hr⊢;obtain⟨l',h1,h2⟩:=hr;exact⟨l',h1,rvt_noY h h2⟩
 |.lit sz len l,q,hr=>by
  simp only[SV.noY];simp only[RV]at hr⊢;obtain⟨l',h1,h2,h3⟩:=hr;exact⟨l',h1,rvl_noY h h2,h3⟩
theorem rvl_noY{n:Nat}{F F':Frm}{E:Env}(h:SameN n F F'):∀{l:List SV}{l':List PV},RVL F E l l'->RVL F' E (noYL n l) l'
 |[],l',hr=>by simp only[noYL];simpa only[RVL]using hr
 |v::vs,l',hr=>by
  simp only[noYL];simp only[RVL]at hr⊢;obtain⟨q,r,h1,h2,h3,h4⟩:=hr;exact⟨q,r,h1,rv_noY h h2,h3.imp_left (λe=>by subst e;simp only[SV.noY]),rvl_noY h h4⟩
theorem rvt_noY{n:Nat}{F F':Frm}{E:Env}(h:SameN n F F'):∀{l:List SV}{l':List PV},RVT F E l l'->RVT F' E (noYL n l) l'
 |[],l',hr=>by simp only[noYL];simpa only[RVT]using hr
 |v::vs,l',hr=>by
  simp only[noYL];simp only[RVT]at hr⊢;obtain⟨q,r,h1,h2,h4⟩:=hr;exact⟨q,r,h1,rv_noY h h2,rvt_noY h h4⟩
end
theorem noYL_eq(n:Nat)(l:List SV):noYL n l=l.map (SV.noY n):=by
 induction l with
 |nil=>rfl
 |cons v l ih=>simp[noYL,ih]
theorem rb_noY{n:Nat}{F F':Frm}{E:Env}(h:SameN n F F'){b:BX}{c:BoxC}(hb:RB F E b c):RB F' E (b.map (SV.noY n)) c:=by
 cases b with
 |cells l=>obtain⟨l',h1,h2⟩:=hb;exact⟨l',h1,by rw[←noYL_eq];exact rvl_noY h h2⟩
 |dice=>exact(show c=.inv F'.DI by rw[h.DI];exact hb)
 |gone=>trivial
theorem noOwnL_eq(l:List SV):noOwnL l=l.map SV.noOwn:=by
 induction l with
 |nil=>rfl
 |cons v l ih=>simp[noOwnL,ih]
mutual
theorem noOwn_id:∀v:SV,v.owns.filter (·%2==0)=[]->v.noOwn=v
 |.own k,h=>by simp[SV.owns,show(k+k)%2=0 by omega]at h
 |.eown k _ _,h=>by simp[SV.owns,show(k+k)%2=0 by omega]at h
 |.fn f l,h=>by simp only[SV.noOwn,noOwnL_id l (by simpa only[SV.owns]using h)]
 |.sref l o,h=>by simp only[SV.noOwn,noOwnL_id l (by simpa only[SV.owns]using h)]
 |.agg l,h=>by simp only[SV.noOwn,noOwnL_id l (by simpa only[SV.owns]using h)]
 |.tup l,h=>by simp only[SV.noOwn,noOwnL_id l (by simpa only[SV.owns]using h)]
 |.lit a b l,h=>by simp only[SV.noOwn,noOwnL_id l (by simpa only[SV.owns]using h)]
 |.e _,_ | .undef,_ | .junk,_ | .ptr _ _,_ | .hd _ _ _,_ | .pel _ _ _,_ | .dice,_ | .yld _,_ | .erow _ _ _,_=>by simp only[SV.noOwn]
theorem noOwnL_id:∀l:List SV,(ownsL l).filter (·%2==0)=[]->noOwnL l=l
 |[],_=>rfl
 |v::l,h=>by
  simp only[ownsL,List.filter_append,List.append_eq_nil_iff]at h;simp only[noOwnL,noOwn_id v h.1,noOwnL_id l h.2]
end
theorem anyOwn_cases(v:SV):v.anyOwn=.junk\/(v.anyOwn=v/\v.noOwn=v):=by
 unfold SV.anyOwn;split
 ·exact .inl rfl
 ·exact .inl rfl
 any_goals exact .inr ⟨rfl,by simp only[SV.noOwn]⟩
 split
 ·rename_i h;exact .inr ⟨rfl,noOwn_id _ h⟩
 ·exact .inl rfl
section
variable{X:Ctx}{F:Frm}{C:Orc->FuncId->List PV->Option PV}{n:Nat}{R:Out->Prop}{S S':Sym}{ρ ρ':List PV}{ids ids':Nat->Option Nat}{s s':St}{E E':Env}
theorem tr_noOwn(EE:List Eff)(hρ:E.ρ<+:E'.ρ)(hn:E.nb<=E'.nb):Tr F E E' SV.noOwn (PV.sub EE):=by
 refine⟨hom_sub EE,hρ,λ_=>by simp only[SV.noOwn],by simp only[SV.noOwn],by simp only[SV.noOwn],by simp only[SV.noOwn],λ_ _ _=>by simp only[SV.noOwn],λ_=>by simp only[SV.noOwn],λg c=>by simp only[SV.noOwn,noOwnL_eq],λc=>by simp only[SV.noOwn,noOwnL_eq],λc=>by simp only[SV.noOwn,noOwnL_eq],λ_ _ c=>by simp only[SV.noOwn,noOwnL_eq],λc _=>by simp only[SV.noOwn,noOwnL_eq],λ_ _ _=>.inr ⟨by simp only[SV.noOwn],λ_=>by simp only[SV.noOwn]⟩,λj o q hq=>?_,λj o z q hq=>?_,λq hq=>?_,λk q hq=>?_,λk x fo q hq=>?_⟩
 ·unfold RV at hq;rw[hq.1,sub_ptr];refine⟨?_,.inr rfl⟩;simp only[SV.noOwn];unfold RV;exact⟨rfl,Nat.lt_of_lt_of_le hq.2 hn⟩
 ·unfold RV at hq;rw[hq.1,sub_hd];refine⟨?_,.inr rfl⟩;simp only[SV.noOwn];unfold RV;exact⟨rfl,Nat.lt_of_lt_of_le hq.2 hn⟩
 ·unfold RV at hq;rw[hq.1,sub_ptr]
 ·simp only[SV.noOwn];exact⟨by simp only[RV],.inl trivial⟩
 ·simp only[SV.noOwn];exact⟨by simp only[RV],.inl trivial⟩
theorem anyOwn_rv(EE:List Eff)(hρ:E.ρ<+:E'.ρ)(hn:E.nb<=E'.nb){v:SV}{q:PV}(h:RV F E v q):RV F E' v.anyOwn (q.sub EE):=by
 rcases anyOwn_cases v with e|⟨e,e'⟩
 ·rw[e];simp only[RV]
 ·rw[e];have:=(tr_noOwn EE hρ hn).rv h;rwa[e']at this
def Frm.sub(F:Frm)(S:Sym)(ρ:List PV)(ids:Nat->Option Nat)(s:St)(ys:List YRec):Frm:={ F with ent:=⟨s.m.an,s.m.n,ys⟩,ar0:=λk=>S.ar.getD k none,ids0:=ids,ρ0:=ρ }
theorem nowY_get(y:Nat):s.nowY[y]?.map YRec.l=s.a0.ys[y]?.map YRec.l:=by simp only[St.nowY,St.nowYof,List.getElem?_map,Option.map_map];rfl
theorem sameF_sub(h:s.a0=F.ent)(S:Sym)(ρ:List PV)(ids:Nat->Option Nat)(l:List YRec):SameF F (F.sub S ρ ids s (s.nowY++l)):=
 ⟨rfl,rfl,rfl,rfl,λy k hy=>by
  show(s.nowY++l)[y]?.map YRec.l=some k;rw[←h,←nowY_get]at hy;cases e:s.nowY[y]? with
  |none=>rw[e]at hy;cases hy
  |some r=>
   rw[List.getElem?_append_left (List.getElem?_eq_some_iff.1 e).1];exact hy⟩
theorem sameN_sub(h:s.a0=F.ent)(S:Sym)(ρ:List PV)(ids:Nat->Option Nat)(l:List YRec){n:Nat}(hn:n<=F.ent.ys.length):SameN n (F.sub S ρ ids s (s.nowY++l)) F:=
 ⟨rfl,rfl,rfl,rfl,λy k hlt hy=>by
  have hy:(s.nowY++l)[y]?.map YRec.l=some k:=hy;have hl:s.nowY.length=F.ent.ys.length:=by simp[St.nowY,St.nowYof,h]
  rw[List.getElem?_append_left (by omega),nowY_get,h]at hy;exact hy⟩
theorem sameF_back(h:s.a0=F.ent)(S:Sym)(ρ:List PV)(ids:Nat->Option Nat):SameF (F.sub S ρ ids s s.nowY) F:=
 ⟨rfl,rfl,rfl,rfl,λy k hy=>by
  have hy:s.nowY[y]?.map YRec.l=some k:=hy;rw[nowY_get,h]at hy;exact hy⟩
theorem now_zip:∀(ys:List YS)(l:List YRec),List.zipWith YS.now ys (s.nowYof l)=List.zipWith YS.now ys l
 |[],_=>by simp
 |_::_,[]=>by simp[St.nowYof]
 |y::ys,r::l=>by
  have:=now_zip ys l;simp only[St.nowYof,List.map_cons,List.zipWith_cons_cons,YS.now]at this⊢;rw[this]
theorem YOk.core{y y':YS}{r:YRec}(h:YOk F y r)(e:y'.core=y.core):YOk F y' r:=by
 obtain⟨g,f,ps,asg,body,p,pend,busy⟩:=y;obtain⟨g',f',ps',asg',body',p',pend',busy'⟩:=y';simp only[YS.core,YS.mk.injEq]at e;obtain⟨rfl,rfl,rfl,rfl,rfl,rfl,_⟩:=e;exact⟨h.ps,h.asg,h.body,h.lt,h.da,h.db,h.own,h.g⟩
theorem core_get{Y ys:List YS}(h:Y.map YS.core=ys.map YS.core){i:Nat}{y:YS}(hy:Y[i]?=some y):∃y',ys[i]?=some y'/\y.core=y'.core:=by
 have:=congrArg (λl=>l[i]?) h;simp only[List.getElem?_map,hy,Option.map_some]at this;obtain⟨y',h1,h2⟩:=Option.map_eq_some_iff.1 this.symm;exact⟨y',h1,h2.symm⟩
theorem RcOk.kin{ys Y:List YS}{rc:List (Nat×Loop)}(h:RcOk F ys ρ rc)(hY:Y.map YS.core=ys.map YS.core)(hp:ρ<+:ρ'):RcOk F Y ρ' (List.zipWith YS.now Y F.ent.ys++F.rc0):=
 ⟨h.pre.trans hp,by have:=congrArg List.length hY;simp only[List.length_map]at this;rw[this];exact h.len,rfl,λi y r hy hr=>by
  obtain⟨y',h1,h2⟩:=core_get hY hy;exact(h.y i y' r h1 hr).core h2,h.ne,h.ne0⟩
theorem yok_sub(h:Rel F S ρ ids s){y:YS}{r:YRec}(hy:YOk F y r)(l:List YRec):YOk (F.sub S ρ ids s (s.nowY++l)) y { r with g:=λt=>(r.g t).sub s.eff }:=by
 refine⟨hy.ps,hy.asg,hy.body,hy.lt,hy.da,hy.db,hy.own,λt=>?_⟩;have:=(tr_noOwn (F:=F) (E:=⟨F.ρ0,[],F.ent.n-F.n0,λ_=>none⟩) (E':=⟨ρ,[],s.m.n-F.n0,λ_=>none⟩) s.eff h.rc.pre (by
  have h1:=h.bbase;have h2:=h.bb;have h3:=h.boxn;show F.ent.n-F.n0<=s.m.n-F.n0;omega)).rv (hy.g t)
 rw[hy.own t]at this;exact rv_frm (sameF_sub h.a0 S ρ ids l) this
theorem nowY_of(h:s.a0=F.ent):s.nowY=s.nowYof F.ent.ys:=by rw[←h];rfl
theorem now_len(h:s.a0=F.ent):s.nowY.length=F.ent.ys.length:=by rw[nowY_of h];simp[St.nowYof]
theorem rc_sub(h:Rel F S ρ ids s):RcOk (F.sub S ρ ids s s.nowY) S.ys ρ s.m.rc:=by
 have e:=nowY_of h.a0;refine⟨List.prefix_refl _,by rw[h.rc.len];exact(now_len h.a0).symm,?_,λi y r hy hr=>?_,λi j r r' hi hj hl=>?_,λr hr p hp=>?_⟩
 ·rw[h.rc.rc];show _=List.zipWith YS.now S.ys s.nowY++F.rc0;rw[e,now_zip]
 ·have hr:s.nowY[i]?=some r:=hr;rw[e]at hr;simp only[St.nowYof,List.getElem?_map]at hr;obtain⟨r0,h1,rfl⟩:=Option.map_eq_some_iff.1 hr;have:=yok_sub h (h.rc.y i y r0 hy h1) [];rwa[List.append_nil]at this
 ·have hi:s.nowY[i]?=some r:=hi;have hj:s.nowY[j]?=some r':=hj;rw[e]at hi hj;simp only[St.nowYof,List.getElem?_map]at hi hj;obtain⟨r0,h1,rfl⟩:=Option.map_eq_some_iff.1 hi;obtain⟨r1,h2,rfl⟩:=Option.map_eq_some_iff.1 hj;exact h.rc.ne i j r0 r1 h1 h2 hl
 ·have hr:r∈s.nowY:=hr;rw[e]at hr;obtain⟨r0,h1,rfl⟩:=List.mem_map.1 hr;exact h.rc.ne0 r0 h1 p hp
theorem rva_get:∀{a:List SV}{a':List PV},RVA F E a a'->a.length=a'.length/\∀(j:Nat) v q,a[j]?=some v->a'[j]?=some q->RV F E v q
 |[],a',h=>by simp only[RVA]at h;subst h;simp
 |v::a,a',h=>by
  obtain⟨q,r,rfl,h1,h2⟩:=h;obtain⟨g1,g2⟩:=rva_get h2;refine⟨by simp[g1],λj u p hj hp=>?_⟩;cases j with
  |zero=>simp at hj hp;subst hj;subst hp;exact h1
  |succ j=>exact g2 j u p (by simpa using hj) (by simpa using hp)
theorem rel_subG(h:Rel F S ρ ids s){ys:List YRec}{Y:List YS}{rc:List (Nat×Loop)}(hsf:SameF F (F.sub S ρ ids s ys))(hrc:RcOk (F.sub S ρ ids s ys) Y ρ rc){g:List (Nat×SV)}{gg:Nat->PV}(hg:∀t,RV (F.sub S ρ ids s ys) (S.env ρ ids) (getA g t) (gg t))(site:Nat):
  Rel (F.sub S ρ ids s ys) (({ S with ys:=Y }:Sym).sub g site) ρ ids ⟨gg,{ s.m with rc:=rc },⟨s.m.an,s.m.n,ys⟩,[]⟩:=by
 refine⟨h.len,h.kn,hg,h.boxn,h.old,λi b hb=>rb_frm hsf (h.box i b hb),h.idlt,h.idinj,h.arr,rfl,⟨Nat.le_trans h.ent.1 h.an,by show F.n0<=s.m.n;rw[h.boxn];omega⟩,λe he=>by simp at he,λ_=>rfl,λ_ k id hid hk=>?_,λ_ k hk=>⟨rfl,rfl⟩,h.boxn,Nat.le_refl _,Nat.le_refl _,Nat.le_refl _,h.obd,hrc⟩;exact absurd (h.idlt k id hid).2.2 (by have hk':S.ar.length<=k:=hk;omega)
theorem getA_as:∀(l:List SV)(i t:Nat),i<=t->getA (asG i l) t=l.getD (t-i) .junk
 |[],_,_,_=>by simp[asG,getA]
 |v::l,i,t,h=>by
  simp only[asG,getA];split
  ·rename_i e;have:=Nat.eq_of_beq_eq_true e;subst this;simp
  ·rename_i e;have hne:i≠t:=λk=>e (by subst k;exact Nat.beq_refl _);rw[getA_as l (i+1) t (by omega),show t-i=(t-(i+1))+1 by omega];simp
theorem args_rv{F:Frm}{E:Env}{args:List SV}{qs:List PV}(ha:RVA F E args qs)(t:Nat):RV F E (getA (asG 0 args) t) ((qs[t]?).getD PV.undef):=by
 obtain⟨g1,g2⟩:=rva_get ha;rw[getA_as args 0 t (Nat.zero_le _),List.getD_eq_getElem?_getD,Nat.sub_zero];rcases Nat.lt_or_ge t args.length with hl|hl
 ·have e1:args[t]?=some args[t]:=by simp[hl]
  have e2:qs[t]?=some qs[t]:=by simp[show t<qs.length by omega]
  rw[e1,e2];exact g2 t _ _ e1 e2
 ·rw[List.getElem?_eq_none hl];simp only[Option.getD_none,RV]
theorem rva_frm{F F':Frm}{E:Env}(h:SameF F F'):∀{a:List SV}{a':List PV},RVA F E a a'->RVA F' E a a'
 |[],a',h'=>h'
 |v::a,a',h'=>by
  obtain⟨q,r,rfl,h1,h2⟩:=h';exact⟨q,r,rfl,rv_frm h h1,rva_frm h h2⟩
theorem rel_sub(h:Rel F S ρ ids s){args:List SV}{qs:List PV}(ha:RVA F (S.env ρ ids) args qs)(site:Nat):Rel (F.sub S ρ ids s s.nowY) (S.sub (asG 0 args) site) ρ ids (entryY s.nowY qs s.m):=by
 have hsf:SameF F (F.sub S ρ ids s s.nowY):=by have:=sameF_sub h.a0 S ρ ids [];rwa[List.append_nil]at this
 exact rel_subG h hsf (rc_sub h) (args_rv (rva_frm hsf ha)) site
theorem back_core(h:Rel F S ρ ids s){ys:List YRec}(h':Rel (F.sub S ρ ids s ys) S' ρ' ids' s')(hpre:ρ<+:ρ')(hb:S'.base=S.ar.length)(hbb:S'.bbase=S.bx.length)(hbx:S.bx.length<=S'.bx.length)
  {bx:List BX} (hbl:bx.length=S'.bx.length) (hbr:∀i b,bx[i]?=some b->RB F (S'.env ρ' ids') b (s'.m.β (F.n0+i))) {Y:List YS} {rc:List (Nat×Loop)} (hrc:RcOk F Y ρ' rc) (hY:Y.map YS.core=S.ys.map YS.core):
  Rel F { S.back S' with bx:=bx,ys:=Y } ρ' ids' (s.after s'.eff { s'.m with rc:=rc })/\Ext S ρ { S.back S' with bx:=bx,ys:=Y } ρ':=by
 have hE:({ S.back S' with bx:=bx,ys:=Y }:Sym).env ρ' ids'=S'.env ρ' ids':=by simp[Sym.env,Sym.back,hbl]
 have hlen:S.ar.length<=S'.ar.length:=by rw[←hb];exact h'.ba
 refine⟨?_,hpre,rfl,rfl,rfl,rfl,hY,by show S.bx.length<=bx.length;omega,?_⟩
 ·refine⟨h'.len,h'.kn,λt=>?_,by show s'.m.n=F.n0+bx.length;rw[hbl];exact h'.boxn,h'.old,λi b hb=>by rw[hE];exact hbr i b hb,h'.idlt,h'.idinj,λk a ha=>by rw[hE];exact h'.arr k a ha,h.a0,h.ent,λe he=>?_,λhe=>?_,λhe k id hid hk=>?_,λhe k hk=>?_,h.bbase,Nat.le_trans h.ba hlen,Nat.le_trans h.bb (by show S.bx.length<=bx.length;omega),Nat.le_trans h.an h'.an,h.obd,hrc⟩
  ·rw[hE];show RV F (S'.env ρ' ids') (getA (if S'.eff=true then mapA SV.anyOwn S.g else S.g) t) ((s.g t).sub s'.eff);cases he:S'.eff with
   |true=>
    rw[if_pos rfl];have e:getA (mapA SV.anyOwn S.g) t=(S.get t).anyOwn:=getA_map (by simp[SV.anyOwn,SV.owns]) _ t;rw[e];exact anyOwn_rv (E:=S.env ρ ids) (E':=S'.env ρ' ids') _ hpre hbx (h.slot t)
   |false=>
    rw[if_neg (by simp),h'.eff (.inl he)];have hle:(S.env ρ ids).le (S'.env ρ' ids'):=by
     have hlt:∀k a,S.ar.getD k none=some a->k<S.ar.length:=λk a ha=>by
      rw[List.getD_eq_getElem?_getD]at ha;rcases Nat.lt_or_ge k S.ar.length with hl|hl
      ·exact hl
      ·rw[List.getElem?_eq_none hl]at ha;cases ha
     refine⟨hpre,λk a ha=>?_,hbx,λk a ha=>?_⟩
     ·have:=(h'.keep he k (by rw[hb];exact hlt k a ha)).1;exact this.trans ha
     ·exact(h'.keep he k (by rw[hb];exact hlt k a ha)).2
    exact RV.mono hle (h.slot t)
  ·rcases mem_addEff he with he|he
   ·exact h.efc e he
   ·exact h'.efc e he
  ·show addEff s.a0.a s.eff s'.eff=[];have e1:s.eff=[]:=h.eff (eff_or he);rw[e1,addEff_nil];rcases he with he|he
   ·have:(S.eff||S'.eff)=false:=he;simp only[Bool.or_eq_false_iff]at this;rw[h'.eff (.inl this.2)];rfl
   ·refine dropNew_all λe hee=>?_;rw[h.a0,←he];exact(h'.efc e hee).1
  ·have:(S.eff||S'.eff)=false:=he;simp only[Bool.or_eq_false_iff]at this;have hk':S.base<=k:=hk;rcases Nat.lt_or_ge k S.ar.length with hl|hl
   ·have:=(h'.keep this.2 k (by rw[hb];exact hl)).2;exact h.new ‹S.eff=false/\_›.1 k id (this.symm.trans hid) hk'
   ·exact Nat.le_trans h.an (h'.new this.2 k id hid (by rw[hb];exact hl))
  ·have:(S.eff||S'.eff)=false:=he;simp only[Bool.or_eq_false_iff]at this;have hk':k<S.base:=hk;obtain⟨k1,k2⟩:=h'.keep this.2 k (by rw[hb];exact Nat.lt_of_lt_of_le hk' h.ba);obtain⟨k3,k4⟩:=h.keep this.1 k hk';exact⟨k1.trans k3,k2.trans k4⟩
 ·rfl
theorem rc_back(h:Rel F S ρ ids s)(h':Rel (F.sub S ρ ids s s.nowY) S' ρ' ids' s'):s'.m.rc=List.zipWith YS.now S'.ys F.ent.ys++F.rc0:=by
 rw[h'.rc.rc];show List.zipWith YS.now S'.ys s.nowY++F.rc0=_;rw[nowY_of h.a0,now_zip]
theorem back_ok(h:Rel F S ρ ids s)(h':Rel (F.sub S ρ ids s s.nowY) S' ρ' ids' s')(hpre:ρ<+:ρ')(hb:S'.base=S.ar.length)(hbb:S'.bbase=S.bx.length)(hys:S'.ys.map YS.core=S.ys.map YS.core)(hbx:S.bx.length<=S'.bx.length):
  Rel F (S.back S') ρ' ids' (s.after s'.eff s'.m)/\Ext S ρ (S.back S') ρ':=by
 have hrc:=h.rc.kin hys hpre;rw[←rc_back h h']at hrc;exact back_core h h' hpre hb hbb hbx rfl (λi b hb=>rb_frm (sameF_back h.a0 S ρ ids) (h'.box i b hb)) hrc hys
theorem resS_ok(hr:Rel F S ρ ids s):∀{l:List ResultVar}{vs:List SV},resS X S l=some vs->∃qs,aResL X.P s l=some qs/\RVA F (S.env ρ ids) vs qs
 |[],vs,h=>by
  simp only[resS,Option.some.injEq]at h;subst h;exact⟨[],rfl,rfl⟩
 |.tmp t::l,vs,h=>by
  simp only[resS]at h;obtain⟨vs',h1,rfl⟩:=Option.map_eq_some_iff.1 h;obtain⟨qs,h2,h3⟩:=resS_ok hr h1;exact⟨_,by simp only[aResL,aRes1,h2],_,_,rfl,hr.slot t,h3⟩
 |.cell x t::l,vs,h=>by
  simp only[resS]at h;split at h
  ·rename_i i off hx;split at h
   ·rename_i v vs' hv hvs;injection h with h;subst h;obtain⟨qs,h2,h3⟩:=resS_ok hr hvs;obtain⟨q,h4,h5⟩:=loadS_ok (m0:=s.m) (lx:=none) hr rfl hv;have hsl:=hr.slot x;rw[hx]at hsl;unfold RV at hsl;exact⟨_,by simp only[aResL,aRes1,hsl.1,h4,h2],_,_,rfl,h5,h3⟩
   ·cases h
  ·cases h
theorem one1_ok(hr:Rel F S ρ ids s){l:List ResultVar}{vs:List SV}(h:resS X S l=some vs):∃q,aRes X.P s l=some q/\RV F (S.env ρ ids) (one1 vs) q:=by
 obtain⟨qs,h1,h2⟩:=resS_ok hr h;have tup:∀{vs:List SV}{qs:List PV},RVA F (S.env ρ ids) vs qs->RVT F (S.env ρ ids) vs qs:=by
  intro vs;induction vs with
  |nil=>intro qs h;exact h
  |cons v vs ih=>
   intro qs h;obtain⟨q,r,rfl,g1,g2⟩:=h;simp only[RVT];exact⟨q,r,rfl,g1,ih g2⟩
 unfold aRes;rw[h1]
 match vs,qs,h2 with
 |[],[],_=>exact⟨.tup [],rfl,by simp only[one1];unfold RV;exact⟨[],rfl,by simp only[RVT]⟩⟩
 |[v],[q],h2=>
  obtain⟨q',r,e,g1,g2⟩:=h2;injection e with e1 e2;subst e1;exact⟨q,rfl,g1⟩
 |v::u::vs,q::p::qs,h2=>exact⟨.tup (q::p::qs),rfl,by simp only[one1];unfold RV;exact⟨_,rfl,tup h2⟩⟩
 |[],q::qs,h2=>cases h2
 |v::vs,[],h2=>obtain⟨_,_,e,_⟩:=h2;cases e
 |[v],q::p::qs,h2=>
  obtain⟨q',r,e,g1,g2⟩:=h2;injection e with e1 e2;subst e2;cases g2
 |v::u::vs,[q],h2=>
  obtain⟨q',r,e,g1,g2⟩:=h2;injection e with e1 e2;subst e2;obtain⟨_,_,e,_⟩:=g2;cases e
end
end
section
open Go Go.RowKit
variable[Sp]
section
variable{X:Ctx}{W:Hints}{F:Frm}{C:Orc->FuncId->List PV->Option PV}{n:Nat}{S S':Sym}{ρ ρ':List PV}{ids ids':Nat->Option Nat}{s s':St}
theorem core_setY(ys:List YS)(y:Nat)(b:Bool)(e:Option (Option Nat)):(setY ys y b e).map YS.core=ys.map YS.core:=by
 unfold setY;split
 ·rename_i r hr;refine List.ext_getElem? λi=>?_;simp only[List.getElem?_map,List.getElem?_set];split
  ·rename_i hi;subst hi;split
   ·rw[hr];rfl
   ·rename_i hl;have:=(List.getElem?_eq_some_iff.1 hr).1;omega
  ·rfl
 ·rfl
theorem split_at{α:Type}:∀{L:List α}{i:Nat}{x:α}(_:L[i]?=some x)(x':α),L=L.take i++x::L.drop (i+1)/\L.set i x'=L.take i++x'::L.drop (i+1)
 |[],i,x,h,x'=>by simp at h
 |a::L,0,x,h,x'=>by simp at h;subst h;simp
 |a::L,i+1,x,h,x'=>by
  obtain⟨h1,h2⟩:=split_at (L:=L) (i:=i) (by simpa using h) x';refine⟨?_,?_⟩
  ·simp only[List.take_succ_cons,List.drop_succ_cons,List.cons_append];rw[←h1]
  ·simp only[List.set_cons_succ,List.take_succ_cons,List.drop_succ_cons,List.cons_append];rw[h2]
theorem zip_setY:∀{ys:List YS}{l:List YRec}{y:Nat}{r:YS}{yr:YRec}(_:ys[y]?=some r)(_:l[y]?=some yr)(b:Bool)(e:Option (Option Nat)),List.zipWith YS.now (ys.set y { r with pend:=e,busy:=b }) l=(List.zipWith YS.now ys l).set y (YS.now { r with pend:=e,busy:=b } yr)
 |[],l,y,r,yr,h,_,b,e=>by simp at h
 |a::ys,[],y,r,yr,_,h,b,e=>by simp at h
 |a::ys,c::l,0,r,yr,h,h',b,e=>by simp at h h';subst h;subst h';simp
 |a::ys,c::l,y+1,r,yr,h,h',b,e=>by
  simp only[List.set_cons_succ,List.zipWith_cons_cons];rw[zip_setY (by simpa using h) (by simpa using h') b e]
theorem rc_split{ys:List YS}{rc:List (Nat×Loop)}(h:RcOk F ys ρ rc){y:Nat}{r:YS}{yr:YRec}(hy:ys[y]?=some r)(hr:F.ent.ys[y]?=some yr):
  ∃rc1 rc2,rc=rc1++YS.now r yr::rc2/\(∀p∈rc1++rc2,p.1≠yr.l)/\∀b e,List.zipWith YS.now (setY ys y b e) F.ent.ys++F.rc0=rc1++YS.now { r with pend:=e,busy:=b } yr::rc2:=by
 have hL:(List.zipWith YS.now ys F.ent.ys)[y]?=some (YS.now r yr):=by simp[List.getElem?_zipWith,hy,hr]
 have get:∀(i:Nat) p,(List.zipWith YS.now ys F.ent.ys)[i]?=some p->i≠y->p.1≠yr.l:=by
  intro i p hp hi;simp only[List.getElem?_zipWith]at hp;cases h1:ys[i]? with
  |none=>rw[h1]at hp;simp at hp
  |some y1=>
   cases h2:F.ent.ys[i]? with
   |none=>rw[h1,h2]at hp;simp at hp
   |some r1=>
    rw[h1,h2]at hp;simp only[Option.some.injEq]at hp;subst hp;exact λe=>hi (h.ne i y r1 yr h2 hr e)
 refine⟨(List.zipWith YS.now ys F.ent.ys).take y,(List.zipWith YS.now ys F.ent.ys).drop (y+1)++F.rc0,?_,λp hp=>?_,λb e=>?_⟩
 ·have:=(split_at hL (YS.now r yr)).1;rw[h.rc,←List.cons_append,←List.append_assoc,←this]
 ·simp only[List.mem_append]at hp;rcases hp with hp|hp|hp
  ·obtain⟨i,hi⟩:=List.mem_iff_getElem?.1 hp;rw[List.getElem?_take]at hi;split at hi
   ·exact get i p hi (by omega)
   ·cases hi
  ·obtain⟨i,hi⟩:=List.mem_iff_getElem?.1 hp;rw[List.getElem?_drop]at hi;exact get _ p hi (by omega)
  ·exact h.ne0 yr (List.mem_of_getElem? hr) p hp
 ·have e1:setY ys y b e=ys.set y { r with pend:=e,busy:=b }:=by simp only[setY,hy]
  rw[e1,zip_setY hy hr b e,(split_at hL (YS.now { r with pend:=e,busy:=b } yr)).2];simp
theorem rel_ys(h:Rel F S ρ ids s){Y:List YS}{rc:List (Nat×Loop)}(hrc:RcOk F Y ρ rc):Rel F ({ S with ys:=Y }:Sym) ρ ids { s with m:={ s.m with rc:=rc } }:=
 ⟨h.len,h.kn,h.slot,h.boxn,h.old,h.box,h.idlt,h.idinj,h.arr,h.a0,h.ent,h.efc,h.eff,h.new,h.keep,h.bbase,h.ba,h.bb,h.an,h.obd,hrc⟩
def InlCore(X:Ctx)(C:Orc->FuncId->List PV->Option PV)(n:Nat)(inl:Inl):Prop:=
 ∀(F:Frm)(R:Out->Prop)(key:Nat)(g:FuncId)(args:List SV)(K:SV->Sym->M)(S:Sym)(ρ:List PV)(ids:Nat->Option Nat)(t:Tree)(qs:List PV)(ys:List YRec)(m:Mem),
  F.P=X.P->CSound X.P F.DI C->NewOk X.P F.DI X.diceNew->OwnAll X F.DI C->inl key g args S K=.ok t->args.length=qs.length->(∀site,Rel F (S.sub (asG 0 args) site) ρ ids (entryY ys qs m))->Run X.P C n t ρ R ->
  ECallsY X.P ys g qs m λq E m'=>∃v S' ρ' ids' s' t',E=s'.eff/\m'=s'.m/\K v (S.back S')=.ok t'/\Rel F S' ρ' ids' s'/\RV F (S'.env ρ' ids') v q/\Run X.P C n t' ρ' R/\∃g site,Ext (S.sub g site) ρ S' ρ'
theorem inlOk_of_core{inl:Inl}(h:InlCore X C n inl):InlOk X C n inl:=by
 intro F R key g args K S ρ ids s t qs hF hC hN hO hh hr ha hrun;refine(h (F.sub S ρ ids s s.nowY) R key g args K S ρ ids t qs s.nowY s.m hF hC hN hO hh (rva_get ha).1 (λsite=>rel_sub hr ha site) hrun).mono ?_;rintro q E m' ⟨v,S',ρ',ids',s',t',rfl,rfl,k1,k2,k3,k4,g0,site,k5⟩;obtain⟨b1,b2⟩:=back_ok hr k2 k5.pre k5.base k5.bbase k5.ys k5.bx;exact⟨v,_,ρ',ids',t',k1,b1,rv_frm (sameF_back hr.a0 S ρ ids) k3,k4,b2⟩
theorem anyOwn_own(l:List (Nat×SV))(t:Nat):(getA (mapA SV.anyOwn l) t).noOwn=getA (mapA SV.anyOwn l) t:=by
 have e:getA (mapA SV.anyOwn l) t=(getA l t).anyOwn:=getA_map (by simp[SV.anyOwn,SV.owns]) _ t;rw[e];rcases anyOwn_cases (getA l t)with h|⟨h,h'⟩
 ·rw[h];simp only[SV.noOwn]
 ·rw[h,h']
theorem rngOk_of_core{inl:Inl}(hI:InlCore X C n inl):RngOk X C n inl:=by
 intro F R f hh ps a b p K S ρ ids s t hF hC hN hO h hr hrun;unfold compRange at h;split at h
 ·rename_i g caps hg;split at h
  ·rename_i fn hfn;split at h
   ·cases h
   ·rename_i hname0;have hgB:g<fnB:=Classical.byContradiction λe=>hname0 (.inr (.inr e));have hname:¬(fn.name = "runtime.NumGoroutine" \/ fn.body.isNone):=λe=>hname0 (e.elim .inl λe=>.inr (.inl e));have hfv:=hr.ev hh;rw[hg]at hfv;unfold RV at hfv;obtain⟨l',e,hl⟩:=hfv;have hlen:=hr.rc.len;have hnl:=now_len hr.a0;refine sem_rangeFunc (rc1:=List.zipWith YS.now S.ys F.ent.ys) (rc2:=F.rc0) hgB e ⟨fn,hfn,λe=>hname (.inl e),(by cases hb:fn.body<;>simp[hb]at hname⊢)⟩ hr.rc.rc ?_;intro l o h1 h2 h3 h4 h5 h6 h7 h8 h9;have hsf:=sameF_sub hr.a0 S ρ ids [⟨l,o,s.g⟩];have hsub:=rc_sub hr;have hnow:YS.now ⟨mapA SV.anyOwn S.g,f,ps.toList,a,b,p,none,false⟩ ⟨l,o,s.g⟩=(l,o):=by
     obtain⟨st,pd,fn',tm,pa,asz,bo,de⟩:=o;simp only at h4 h5;subst h4;subst h5;rfl
    have hin:∀(i:Nat) r,s.nowY[i]?=some r->r.l≠l:=λi r hi=>by
     have hlt:=(List.getElem?_eq_some_iff.1 hi).1;have hy:S.ys[i]?=some S.ys[i]:=by simp
     have hm:(List.zipWith YS.now S.ys s.nowY)[i]?=some (YS.now S.ys[i] r):=by rw[List.getElem?_zipWith,hy,hi]
     refine h9 (YS.now S.ys[i] r) ?_;have e1:s.m.rc=List.zipWith YS.now S.ys s.nowY++F.rc0:=hsub.rc;rw[e1];exact List.mem_append_left _ (List.mem_of_getElem? hm)
    have hrc:RcOk (F.sub S ρ ids s (s.nowY++[⟨l,o,s.g⟩])) (S.ys++[⟨mapA SV.anyOwn S.g,f,ps.toList,a,b,p,none,false⟩]) ρ (List.zipWith YS.now S.ys F.ent.ys++(l,o)::F.rc0):=by
     refine⟨List.prefix_refl _,by show _=(s.nowY++_).length;simp;omega,?_,λi y r hy hyr=>?_,λi j r r' hi hj hll=>?_,λr hyr q hq=>?_⟩
     ·show _=List.zipWith YS.now _ (s.nowY++_)++F.rc0;rw[List.zipWith_append (by omega),nowY_of hr.a0,now_zip];simp[hnow]
     ·have hyr:(s.nowY++[⟨l,o,s.g⟩])[i]?=some r:=hyr;rcases Nat.lt_or_ge i S.ys.length with hi|hi
      ·rw[List.getElem?_append_left hi]at hy;rw[List.getElem?_append_left (by omega),nowY_of hr.a0]at hyr;simp only[St.nowYof,List.getElem?_map]at hyr;obtain⟨r0,h1,rfl⟩:=Option.map_eq_some_iff.1 hyr;exact yok_sub hr (hr.rc.y i y r0 hy h1) _
      ·rw[List.getElem?_append_right hi]at hy;rw[List.getElem?_append_right (by omega)]at hyr;have hi0:i-S.ys.length=0:=by
        have:=(List.getElem?_eq_some_iff.1 hy).1;simp at this;omega
       rw[hi0]at hy;rw[show i-s.nowY.length=0 by omega]at hyr;simp at hy hyr;subst hy;subst hyr;refine⟨by show o.params.toList=_;rw[h1],h2,h3,h6,h7,h8,anyOwn_own S.g,λt=>?_⟩;have e1:getA (mapA SV.anyOwn S.g) t=(S.get t).anyOwn:=getA_map (by simp[SV.anyOwn,SV.owns]) _ t;show RV _ _ (getA (mapA SV.anyOwn S.g) t) (s.g t);rw[e1];have hb:=hr.boxn;have:=anyOwn_rv (F:=F) (E:=S.env ρ ids) (E':=⟨ρ,[],s.m.n-F.n0,λ_=>none⟩) [] (List.prefix_refl _) (by show S.bx.length<=s.m.n-F.n0;omega) (hr.slot t);exact rv_frm hsf this
     ·have hi:(s.nowY++[⟨l,o,s.g⟩])[i]?=some r:=hi;have hj:(s.nowY++[⟨l,o,s.g⟩])[j]?=some r':=hj;have key:∀(i:Nat) r,(s.nowY++[⟨l,o,s.g⟩])[i]?=some r->s.nowY[i]?=some r\/(i=s.nowY.length/\r.l=l):=λi r hi=>by
       rcases Nat.lt_or_ge i s.nowY.length with h|h
       ·rw[List.getElem?_append_left h]at hi;exact .inl hi
       ·rw[List.getElem?_append_right h]at hi;have hi0:i-s.nowY.length=0:=by
         have:=(List.getElem?_eq_some_iff.1 hi).1;simp at this;omega
        rw[hi0]at hi;simp at hi;subst hi;exact .inr ⟨by omega,rfl⟩
      rcases key i r hi with hi|⟨hi,hil⟩<;>rcases key j r' hj with hj|⟨hj,hjl⟩
      ·exact hsub.ne i j r r' hi hj hll
      ·exact absurd (hll.trans hjl) (hin i r hi)
      ·exact absurd (hll.symm.trans hil) (hin j r' hj)
      ·omega
     ·have hyr:r∈s.nowY++[⟨l,o,s.g⟩]:=hyr;simp only[List.mem_append,List.mem_singleton]at hyr;rcases hyr with hyr|rfl
      ·exact hsub.ne0 r hyr q hq
      ·have hq:q∈F.rc0:=hq;exact h9 q (by rw[hr.rc.rc];exact List.mem_append_right _ hq)
    have hargs:RVA (F.sub S ρ ids s (s.nowY++[⟨l,o,s.g⟩])) (S.env ρ ids) (.yld S.ys.length::caps) (.yld l::l'):=by
     refine⟨_,_,rfl,?_,rva_frm hsf (rva_of_rvl hl)⟩;simp only[RV];refine⟨l,?_,rfl⟩;show(s.nowY++[⟨l,o,s.g⟩])[S.ys.length]?.map YRec.l=some l;rw[List.getElem?_append_right (by omega),show S.ys.length-s.nowY.length=0 by omega];rfl
    have hl2:=(rva_get hargs).1;refine(hI (F.sub S ρ ids s (s.nowY++[⟨l,o,s.g⟩])) R _ g _ _ ({ S with ys:=S.ys++[⟨mapA SV.anyOwn S.g,f,ps.toList,a,b,p,none,false⟩] }:Sym) ρ ids t (.yld l::l') (s.nowY++[⟨l,o,s.g⟩]) { s.m with rc:=List.zipWith YS.now S.ys F.ent.ys++(l,o)::F.rc0 } hF hC hN hO h hl2 (λsite=>rel_subG hr hsf hrc (args_rv hargs) site) hrun).mono ?_;rintro q E m' ⟨v,S',ρ',ids',s',t',rfl,rfl,k1,k2,k3,k4,g0,site,k5⟩;have k1:(match S'.ys[S.ys.length]? with
     |some y=>if y.busy then die "range" else K (exOf y.pend) { S.back S' with bx:=S'.bx.map (BX.map (SV.noY S.ys.length)),ys:=S'.ys.take S.ys.length }
     |none=>die "range")=.ok t':=k1
    split at k1
    ·rename_i y0 hy0;split at k1
     ·cases k1
     ·rename_i hbusy;have hkin:S'.ys.map YS.core=(S.ys++[(⟨mapA SV.anyOwn S.g,f,ps.toList,a,b,p,none,false⟩:YS)]).map YS.core:=k5.ys;have hlen':S'.ys.length=S.ys.length+1:=by
       have:=congrArg List.length hkin;simpa using this
      have hys:S'.ys=S'.ys.take S.ys.length++[y0]:=by
       have:=(split_at hy0 y0).1;rwa[List.drop_eq_nil_of_le (by omega)]at this
      have hkin0:(S'.ys.take S.ys.length).map YS.core=S.ys.map YS.core:=by rw[List.map_take,hkin,List.map_append,←@List.length_map _ _ S.ys YS.core,List.take_left]
      have hrcs:s'.m.rc=List.zipWith YS.now (S'.ys.take S.ys.length) F.ent.ys++YS.now y0 ⟨l,o,s.g⟩::F.rc0:=by
       rw[k2.rc.rc];show List.zipWith YS.now S'.ys (s.nowY++[⟨l,o,s.g⟩])++F.rc0=_;rw[show List.zipWith YS.now S'.ys (s.nowY++[⟨l,o,s.g⟩])=List.zipWith YS.now (S'.ys.take S.ys.length++[y0]) (s.nowY++[⟨l,o,s.g⟩])from by rw[←hys],List.zipWith_append (by simp;omega),nowY_of hr.a0,now_zip];simp only[List.zipWith_cons_cons,List.zipWith_nil_left,List.append_assoc,List.cons_append,List.nil_append]
      have hne:∀p∈List.zipWith YS.now (S'.ys.take S.ys.length) F.ent.ys++F.rc0,p.1≠l:=by
       intro p hp;simp only[List.mem_append]at hp;rcases hp with hp|hp
       ·obtain⟨i,hi⟩:=List.mem_iff_getElem?.1 hp;rw[←now_zip (s:=s),←nowY_of hr.a0]at hi;simp only[List.getElem?_zipWith]at hi;cases h2:s.nowY[i]? with
        |none=>rw[h2]at hi;cases h3:(S'.ys.take S.ys.length)[i]?<;>rw[h3]at hi<;>simp at hi
        |some r1=>
         cases h3:(S'.ys.take S.ys.length)[i]? with
         |none=>rw[h2,h3]at hi;simp at hi
         |some y1=>
          rw[h2,h3]at hi;simp only[Option.some.injEq]at hi;subst hi;exact hin i r1 h2
       ·exact h9 p (by rw[hr.rc.rc];exact List.mem_append_right _ hp)
      obtain⟨b1,b2⟩:=back_core (bx:=S'.bx.map (BX.map (SV.noY S.ys.length))) (Y:=S'.ys.take S.ys.length) hr k2 k5.pre k5.base k5.bbase k5.bx (by simp) (λi b hb=>by
       rw[List.getElem?_map]at hb;obtain⟨b0,hb0,rfl⟩:=Option.map_eq_some_iff.1 hb;exact rb_noY (sameN_sub hr.a0 S ρ ids _ (by omega)) (k2.box i b0 hb0)) (hr.rc.kin hkin0 k5.pre) hkin0
      refine⟨if y0.busy then .busy else if y0.pend.isSome then .done else .ready,exOf y0.pend,_,_,hrcs,?_,hne,_,ρ',ids',t',k1,b1,k4,b2⟩;rw[if_neg hbusy];split<;>simp
    ·cases k1
  ·cases h
 ·cases h
theorem set_rv{F:Frm}{E:Env}:∀(ps:List Nat)(args:List SV)(qs:List PV)(g:List (Nat×SV))(gg:Nat->PV),RVA F E args qs->(∀t,RV F E (getA g t) (gg t))->∀t,RV F E (getA (setPs g ps args) t) (setPg gg ps qs t)
 |[],args,qs,g,gg,_,h=>by simpa only[setPs,setPg]using h
 |p::ps,[],qs,g,gg,ha,h=>by simp only[RVA]at ha;subst ha;simpa only[setPs,setPg]using h
 |p::ps,v::args,qs,g,gg,ha,h=>by
  obtain⟨q,r,rfl,h1,h2⟩:=ha;simp only[setPs,setPg];refine set_rv ps args r ((p,v)::g) _ h2 λt=>?_;simp only[getA];by_cases e:p=t
  ·subst e;rw[if_pos (Nat.beq_refl _),if_pos rfl];exact h1
  ·rw[if_neg (λk=>e (Nat.eq_of_beq_eq_true k)),if_neg (Ne.symm e)];exact h t
theorem pend_ex(e:Ex):exOf (pendOf e)=e:=by cases e<;>rfl
theorem pend_some(e:Ex):(pendOf e).isSome=!(jumpOf e).isNone:=by cases e<;>rfl
theorem walk_ok(hm:X.P.follows .mixedOrders=true):∀d,InlCore X C n (inlN X W d)/\YldOk X C n (yldN X W d)
 |0=>⟨λF R key g args K S ρ ids t qs ys m hF hC hN hO h hlen hrel hrun=>(by simp only[inlN]at h;cases h),λF R key y args K S ρ ids s t qs hF hC hN hO h hr ha hrun=>(by simp only[yldN]at h;cases h)⟩
 |d+1=>by
  obtain⟨ih1,ih2⟩:=walk_ok hm d;have hk:∀{DI},CSound X.P DI C->NewOk X.P DI X.diceNew->OwnAll X DI C->Known X DI C n (inlN X W d) (yldN X W d):=λhC hN hO=>⟨hC,hN,inlOk_of_core ih1,ih2,rngOk_of_core ih1,hO⟩;refine⟨λF R key g args K S ρ ids t qs ys m hF hC hN hO h hlen hrel hrun=>?_,λF R key y args K S ρ ids s t qs hF hC hN hO h hr ha hrun=>?_⟩
  ·simp only[inlN]at h;split at h
   ·cases h
   ·rename_i fn hfn;split at h
    ·cases h
    ·rename_i c hc;split at h
     ·cases h
     ·rename_i hd;simp only[not_or,Bool.not_eq_false,Nat.not_lt,Bool.and_eq_true,Bool.not_eq_true']at hd;split at h
      ·cases h
      ·have hsem:=comp_ok (X:=X) (F:=F) hF hm (hk hC hN hO) c h (hrel (S.site*1000000+key+1)) hrun;refine ecallsY_of_sem hfn hc (by omega) hd.1.1 hd.1.2 (codeSem_mono hsem λe s' hs=>?_);obtain⟨S',ρ',ids',t',e1,e2,e3,e4⟩:=hs;have key:(match resS X S' fn.results.toList with
         |some vs=>K (one1 vs) (S.back S')
         |none=>die "x")=.ok t'->∃pv,aRes X.P s' fn.results.toList=some pv/\∃pv' m',leaves s' pv pv' m m'/\∃v S'' ρ'' ids'' s'' t'',s'.eff=s''.eff/\m'=s''.m/\K v (S.back S'')=.ok t''/\Rel F S'' ρ'' ids'' s''/\RV F (S''.env ρ'' ids'') v pv'/\Run X.P C n t'' ρ'' R/\∃g site,Ext (S.sub g site) ρ S'' ρ'':=λh1=>by
        split at h1
        ·rename_i vs hvs;obtain⟨q,g1,g2⟩:=one1_ok (X:=X) e2 hvs;exact⟨q,g1,q,s'.m,.inl ⟨rfl,rfl⟩,_,S',ρ',ids',s',t',rfl,rfl,h1,e2,g2,e3,_,_,e4⟩
        ·cases h1
       cases e with
       |normal=>exact⟨.inl rfl,key e1⟩
       |exit i=>cases e1
       |ret=>exact⟨.inr rfl,key e1⟩
  ·simp only[yldN]at h;split at h
   ·cases h
   ·rename_i r hy;split at h
    ·cases h
    ·rename_i hc;simp only[not_or,Bool.not_eq_true,Bool.not_eq_false,Decidable.not_not,ne_eq]at hc;obtain⟨c1,c2,c3,c4,c5⟩:=hc;split at h
     ·cases h
     ·have hylt:=(List.getElem?_eq_some_iff.1 hy).1;have hlt:y<F.ent.ys.length:=by rw[←hr.rc.len];exact hylt
      have hyr:F.ent.ys[y]?=some F.ent.ys[y]:=by simp
      generalize F.ent.ys[y]=yr0 at hyr;have hyn:s.nowY[y]?=some { yr0 with g:=λt=>(yr0.g t).sub s.eff }:=by rw[nowY_of hr.a0];simp[St.nowYof,hyr]
      have hyok:=yok_sub hr (hr.rc.y y r yr0 hy hyr) [];rw[List.append_nil]at hyok;generalize hyrg:({ yr0 with g:=λt=>(yr0.g t).sub s.eff }:YRec)=yr at hyn hyok;have hl0:yr.l=yr0.l:=by rw[←hyrg]
      have ho0:yr.o=yr0.o:=by rw[←hyrg]
      have hsf:SameF F (F.sub S ρ ids s s.nowY):=by have:=sameF_sub hr.a0 S ρ ids [];rwa[List.append_nil]at this
      have hqs:=(rva_get ha).1;have hmem:yr∈s.nowY:=List.mem_of_getElem? hyn;obtain⟨rcA,rcB,q1,q2,q3⟩:=rc_split (rc_sub hr) hy (show(F.sub S ρ ids s s.nowY).ent.ys[y]?=some yr from hyn);have hplen:yr.o.params.toList.length=qs.length:=by rw[hyok.ps];omega
      refine⟨yr,.ready,none,hmem,by rw[hyr,hl0];rfl,?_,by rw[←hplen];simp,?_⟩
      ·rw[q1];have:YS.now r yr=(yr.l,{ yr.o with state:=.ready,pending:=none }):=by simp[YS.now,c1,c2,exOf,jumpOf]
       rw[this];simp
      refine eyield_of_sem hmem (by rw[hyok.ps];exact hyok.lt) hplen (by rw[hyok.asg];exact hyok.da) (by rw[hyok.body];exact hyok.db) (by rw[hyok.asg];exact c4) (by rw[hyok.body];exact c5) ?_;have hrel:Rel (F.sub S ρ ids s s.nowY) (S.sub (setPs r.g r.ps args) (S.site*1000000+key+1)) ρ ids (entryR s.nowY yr.g yr.o.params.toList qs s.m):=by
       refine rel_subG hr hsf (rc_sub hr) (λt=>?_) _;rw[hyok.ps];refine set_rv r.ps args qs r.g yr.g (rva_frm hsf ha) (λt=>?_) t;have hb:=hr.boxn;have:=(tr_noOwn (F:=F.sub S ρ ids s s.nowY) (E:=⟨ρ,[],s.m.n-F.n0,λ_=>none⟩) (E':=S.env ρ ids) [] (List.prefix_refl _) (by show s.m.n-F.n0<=S.bx.length;omega)).rv (hyok.g t);rwa[hyok.own t]at this
      have hsem1:=comp_ok (X:=X) (F:=F.sub S ρ ids s s.nowY) hF hm (hk hC hN hO) r.asg h hrel hrun;rw[hyok.asg];refine codeSem_mono hsem1 λe s1 hs1=>?_;obtain⟨S1,ρ1,ids1,t1,e1,e2,e3,e4⟩:=hs1;cases e with
      |exit i=>cases e1
      |ret=>cases e1
      |normal=>
       refine⟨rfl,?_⟩;simp only at e1;split at e1
       ·rename_i r1 hr1;split at e1
        ·cases e1
        ·rename_i hc1;simp only[not_or,Bool.not_eq_true,Decidable.not_not,ne_eq]at hc1;obtain⟨rc1,rc2,p1,p2,p3⟩:=rc_split e2.rc hr1 (show(F.sub S ρ ids s s.nowY).ent.ys[y]?=some yr from hyn);have hnow1:YS.now r1 yr=(yr.l,{ yr.o with state:=.ready,pending:=none }):=by simp[YS.now,hc1.1,hc1.2,exOf,jumpOf]
         refine⟨rc1,rc2,none,by rw[p1,hnow1],p2,?_⟩;have hrc2:=e2.rc.kin (core_setY S1.ys y true none) (List.prefix_refl ρ1);have hp3:=p3 true none;rw[hp3]at hrc2;have hsem2:=comp_ok (X:=X) (F:=F.sub S ρ ids s s.nowY) hF hm (hk hC hN hO) r.body e1 (rel_ys e2 hrc2) e3;rw[hyok.body];refine codeSem_mono hsem2 λe s2 hs2=>?_;obtain⟨S',ρ',ids',t',f1,f2,f3,f4⟩:=hs2;have hkin:S'.ys.map YS.core=S.ys.map YS.core:=(f4.ys.trans (core_setY S1.ys y true none)).trans e4.ys;have hlen':S'.ys.length=S.ys.length:=by
          have:=congrArg List.length hkin;simpa using this
         have hr':S'.ys[y]?=some S'.ys[y]:=by simp
         obtain⟨rc1',rc2',u1,u2,u3⟩:=rc_split f2.rc hr' (show(F.sub S ρ ids s s.nowY).ent.ys[y]?=some yr from hyn);have hpre:ρ<+:ρ':=e4.pre.trans f4.pre;have hkin2:(setY S'.ys y false (pendOf e)).map YS.core=S.ys.map YS.core:=(core_setY S'.ys y false (pendOf e)).trans hkin;have hrcF:=hr.rc.kin hkin2 hpre;have hu3:=u3 false (pendOf e);have hu3:List.zipWith YS.now (setY S'.ys y false (pendOf e)) s.nowY++F.rc0=rc1'++YS.now { S'.ys[y]with pend:=pendOf e,busy:=false } yr::rc2':=hu3;rw[nowY_of hr.a0,now_zip]at hu3;rw[hu3]at hrcF;obtain⟨b1,b2⟩:=back_core hr f2 hpre (f4.base.trans e4.base) (f4.bbase.trans e4.bbase) (Nat.le_trans e4.bx f4.bx) rfl (λi b hb=>rb_frm (sameF_back hr.a0 S ρ ids) (f2.box i b hb)) hrcF hkin2;have hnow2:YS.now { S'.ys[y]with pend:=pendOf e,busy:=false } yr=(yr.l,{ yr.o with state:=if(jumpOf e).isNone then .ready else .done,pending:=jumpOf e }):=by
          simp only[YS.now,pend_ex,pend_some];cases(jumpOf e).isNone<;>rfl
         rw[hnow2]at b1;refine⟨rc1',rc2',_,_,u1,u2,_,_,ρ',ids',t',f1,b1,?_,f3,b2⟩;unfold RV;exact⟨rfl,rfl⟩
       ·cases e1
end
end
section
open Go Go.RowKit Go.Conc
variable[Sp]
section
variable{P:Program}{T:Frame->List Frame->World->Prop}{b:Frame}{a:Act}{k:List Item}{cs:List Frame}{w:World}{ops:Array Oper}{i:Nat}{rest:List Nat}{o:Oper}
theorem entryOk_kind{fr:Frame}(h:fr.kind≠.normal):entryOk P fr:=by
 intro f args e;subst e;exact absurd rfl h
theorem way_res{res:Next}{fr':Frame}{w':World}(he:entryOk P (b.atR a (.inRegion ops (i::rest)::k)))(hr:b.roundOf=none)(ho:ops[i]?=some o)(hw:Region.wanted o (yielded ops a.tmps)=true)
  (hrun:∀τ d,(execOp a.eval o).run P (re w τ d)=.ok res (re w' τ d))
  (hres:(∃v,res=.value v/\fr'=b.atR (a.put o.dst v) (.inRegion ops rest::k))\/(res=.skip/\fr'=b.atR (a.put o.dst undef) (.inRegion ops rest::k))\/(∃d,res=.defer d/\fr'=b.atR { (a.put o.dst undef)with defers:=d::a.defers } (.inRegion ops rest::k)) \/
   (res=.recover/\tryRecover (b.atR a (.inRegion ops (i::rest)::k)) cs=none/\fr'=b.atR (a.put o.dst .nilIface) (.inRegion ops rest::k)))
  (h:Way P T fr' cs w'):Way P T (b.atR a (.inRegion ops (i::rest)::k)) cs w:=by
 refine .mkB he λτ d=>?_;have hfin:∀v,(b.atR a (.inRegion ops (i::rest)::k)).finish v=b.atR (a.put o.dst v) (.inRegion ops rest::k):=by intro v;rw[Frame.finish_atR,ho];rfl
 have hx:=hrun τ d;rw[gx_op ho hw,hr,Oper.semAt_none];have hro:(b.atR a (.inRegion ops (i::rest)::k)).roundOf=none:=hr;rcases hres with⟨v,rfl,rfl⟩|⟨rfl,rfl⟩|⟨e,rfl,rfl⟩|⟨rfl,ht,rfl⟩
 ·refine⟨_,cs,_,?_,.inl rfl,h.re τ d⟩;rw[←hfin];simp[stepG.apply,hx,G,GStep.after,Sem.runT_eq]
 ·refine⟨_,cs,_,?_,.inl rfl,h.re τ d⟩;rw[←hfin];simp[stepG.apply,hx,G,GStep.after,Sem.runT_eq]
 ·refine⟨_,cs,_,?_,.inl rfl,h.re τ d⟩;have hfd:({ (b.atR a (.inRegion ops (i::rest)::k))with defers:=e::(b.atR a (.inRegion ops (i::rest)::k)).defers }:Frame).finish undef=b.atR { (a.put o.dst undef)with defers:=e::a.defers } (.inRegion ops rest::k):=by
   have:=Frame.finish_atR b { a with defers:=e::a.defers } ops i rest k undef;rw[ho]at this;refine Eq.trans ?_ (this.trans ?_)
   ·rfl
   ·cases hd:o.dst<;>simp[Act.put,hd]
  rw[←hfd];simp[stepG.apply,hx,G,GStep.after,Sem.runT_eq]
 ·refine⟨_,cs,_,?_,.inl rfl,h.re τ d⟩;rw[←hfin];simp[stepG.apply,hx,G,GStep.after,Sem.runT_eq,hro,ht]
theorem region_keeps{A:Anchor}{φ:Phi}{N:Nat}{s:St}{id:Nat}{K:St->Prop}(hd:ops.toList.all (dstOk N)=true)(hs:SRel φ w N s a)(ha:Anch A φ w s.eff)(hA:Old A s)(h:opsW P ops ops.toList s K):
  (Code.region id ops false).wpX none P (λe a' w'=>e=.normal/\a'.defers=a.defers/\∃s' φ',SRel φ' w' N s' a'/\Anch A φ' w' s'.eff/\Old A s'/\K s') a w:=by
 refine wpX_region ?_;rw[List.range_eq_range',←Array.length_toList];have ha':Anch ⟨A.φ0,A.w0,φ,w,A.tl⟩ φ w s.eff:=⟨ha.st,Rest.refl φ w⟩;refine opsW_sound (A:=⟨A.φ0,A.w0,φ,w,A.tl⟩) ops.toList 0 s a φ w (by simp) hd hs ha' hA h ?_;rintro a' w' ⟨s',e,s2,φ',h1,h2,h3,rfl,h5⟩;exact⟨rfl,h3,s2,φ',h1,⟨h2.st,ha.re.trans h2.re⟩,by unfold Old;rw[e];exact hA,h5⟩
theorem mrel_grows{φ:Phi}{m:Mem}{w':World}(hg:Grows w w')(hm:MRel φ m w):MRel φ m w'/\Keeps φ w φ w':=by
 have k:Keeps φ w φ w':=keeps_grow hg hm (λ_ _ h=>h) (λ_ _ h=>h) λb h=>.inl h;refine⟨⟨λi hi=>?_,hm.boxn,λi b h=>?_,hm.boxinj,hm.arrinj,hm.sep,rcs_grow hg hm⟩,k⟩
 ·rcases hm.box i hi with h|⟨b,cur,e',hb,hh,hr⟩
  ·exact .inl h
  exact .inr ⟨b,cur,e',hb,(hg.old b (box_lt hm hb)).trans hh,brel_keeps k hr⟩
 ·obtain⟨h1,h2⟩:=hm.arr i b h;exact⟨h1,h2.of_eq (hg.old b (arr_lt hm h))⟩
theorem runsD_mono{e:Deferred}{K K':World->Prop}(h:RunsD P e w K)(hk:∀w',K w'->K' w'):RunsD P e w K':=
 λT fr cs hm hq=>h T fr cs hm λw' hw=>hq w' (hk w' hw)
theorem ecalls_defer{f:FuncId}{fn:Func}{Tc:Code}{id id0:Nat}{ops0:Array Oper}{o1 o2:Oper}{cd:Call}{d8 t3:Tmp}{g:FuncId}{args:List PV}{m:Mem}{Q:PV->List Eff->Mem->Prop}
  (hf:P.funcs[f]?=some fn) (hb:fn.body=some (.seq (.region id0 ops0 false) (.seq (.region id #[o1,o2] false) Tc))) (hN:args.length<=fn.ntmps) (hd0:ops0.toList.all (dstOk fn.ntmps)=true) (hdT:dstsOk fn.ntmps Tc=true)
  (hsp:badC P (.seq (.region id0 ops0 false) (.seq (.region id #[o1,o2] false) Tc))=false)
  (ho1:o1.op=.makeFunc (.func g) #[] #[.tmp t3]) (hd1:o1.dst=some d8) (g1:o1.guard=none) (hd8:d8<fn.ntmps)
  (ho2:o2.op=.defer cd) (hcd:cd.callee=.value (.tmp d8)) (hca:cd.args=#[]) (g2:o2.guard=none) (hd2:o2.dst=none)
  (hD:∀v w,RunsD P ⟨.fn (.func g) #[v],#[]⟩ w (Grows w))
  (h:opsW P ops0 ops0.toList (entry args m) λs1=>CodeSem P Tc (s1.put (some d8) .bad) λe s'=>(e=.normal\/e=.ret)/\∃pv,aRes P s' fn.results.toList=some pv/\∃pv' m',leaves s' pv pv' m m'/\Q pv' s'.eff m'):ECalls P f args m Q:=by
 intro φ vs w hm hv;refine callsX_of_wp_marks hf hb hsp ?_;have hlen:vs.length=args.length:=(vrelL_length hv).symm;have hs:SRel φ w fn.ntmps (entryY [] args m) { tmps:=vs.toArray++Array.replicate (fn.ntmps-vs.toArray.size) undef,defers:=[] }:=by
  refine⟨λt=>?_,by simp[hlen];omega,hm⟩;simp only[entryY,Array.getD_eq_getD_getElem?];by_cases ht:t<args.length
  ·have h1:args[t]?=some args[t]:=by simp[ht]
   obtain⟨v,h2,h3⟩:=vrelL_get hv h1;rw[h1,Array.getElem?_append_left (by simpa[hlen]using ht)];simp only[List.getElem?_toArray,h2,Option.getD_some];exact h3
  ·rw[List.getElem?_eq_none (by omega),Array.getElem?_append_right (by simp[hlen];omega)];simp only[Option.getD_none,Array.getElem?_replicate];split<;>simp[VRel,undef]
 have hA:Old ⟨φ,w,φ,w,[]⟩ (entryY [] args m):=⟨λi b hi=>(hm.arr i b hi).1,λi b hi=>Nat.lt_of_not_le λhle=>(by rw[hm.boxn i hle]at hi;cases hi),λy hy=>by cases hy⟩;refine wpX_seq (wpX_mono (region_keeps (A:=⟨φ,w,φ,w,[]⟩) hd0 hs ⟨Step.refl φ w,Rest.refl φ w⟩ hA h) ?_);rintro e a1 w1 ⟨rfl,hdf,s1,φ1,k1,k2,kA,hT⟩;have hdf:a1.defers=[]:=hdf;show(Code.seq (.region id #[o1,o2] false) Tc).wpX none P _ a1 w1;refine wpX_seq ?_;intro T b k cs hr hkd hsp' hK;let vc:Value:=.func (.func g) #[] #[a1.tmps.getD t3 undef];let a2:Act:=a1.put (some d8) vc;let dd:Deferred:=⟨.fn (.func g) #[a1.tmps.getD t3 undef],#[]⟩;let a3:Act:={ a2 with defers:=dd::a2.defers };have hev:a2.eval (.tmp d8)=vc:=by
  have hsz:d8<a1.tmps.size:=by rw[k1.size];exact hd8
  simp[a2,Act.put,Act.eval,Array.getD_eq_getD_getElem?,hsz]
 have he:∀{a:Act}{t:List Item},entryOk P (b.atR a t):=λ{a t}=>entryOk_atR hsp';refine .pure (λ_=>gx_region) he (way_res (o:=o1) (res:=.value vc) (fr':=b.atR a2 (.inRegion #[o1,o2] [1]::k)) (w':=w1) he hr rfl (by simp[Region.wanted,g1]) (λτ d=>?_) (.inl ⟨vc,rfl,by simp[a2,hd1]⟩) ?_)
 ·simp[execOp,ho1,Instr.makeFunc,vc,Act.eval]
 refine way_res (o:=o2) (res:=.defer dd) (fr':=b.atR a3 (.inRegion #[o1,o2] []::k)) (w':=w1) he hr rfl (by simp[Region.wanted,g2]) (λτ d=>?_) (.inr (.inr (.inl ⟨dd,rfl,by simp[a3,hd2,Act.put]⟩))) ?_
 ·simp[execOp,ho2,resolve,hcd,hca,hev,vc,dd,Deferred.ofValue]
 refine .pure (λ_=>gx_region_end) he ?_;refine hK .normal a3 w1 ?_;show Tc.wpX none P _ a3 w1;have k1':SRel φ1 w1 fn.ntmps (s1.put (some d8) .bad) a2:=k1.put (λt e=>by injection e with e;subst e;exact hd8) (by simp only[VRel]);have k1'':SRel φ1 w1 fn.ntmps (s1.put (some d8) .bad) a3:=⟨k1'.tmp,k1'.size,k1'.mem⟩;have ha2:a2.defers=[]:=by show(a1.put _ _).defers=[];rw[put_defers];exact hdf
 have hmk:Marks φ1 w1 w [dd] a3.defers:=by
  show Marks φ1 w1 w [dd] (dd::a2.defers);rw[ha2];exact .inr ⟨rfl,λx hx=>by simp only[List.mem_singleton]at hx;subst hx;exact⟨_,_,rfl⟩⟩
 have kA':Old ⟨φ,w,φ,w,[dd]⟩ (s1.put (some d8) .bad):=kA;refine wpX_mono (hT ⟨φ,w,φ,w,[dd]⟩ φ1 w1 fn.ntmps 0 none a3 (okC_none hdT) k1'' (by rw[St.put_eff];exact⟨k2.st,k2.re⟩) kA' hmk) ?_;rintro e a' w' ⟨ex,s',φ',hex,j1,j2,j3,jA,hxe,pv,hres,pv',m',hl,hq⟩;have key:LeavesX P fn a'.tmps (λe w'=>∃v pv E m' φ',e=.returned v/\VRel φ' w' pv v/\MRel φ' m' w'/\Step φ w φ' w' E/\Q pv E m') a'.defers w':=by
  refine leaves_marks a'.defers φ' w' j1 j2 j3 λw2 s2 t2=>?_;refine .inr (runsD_mono (hD _ w2) λw3 hg=>?_);obtain⟨m3,kp⟩:=mrel_grows hg s2.mem;have s3:SRel φ' w3 fn.ntmps s' a':=⟨λt=>VRel.keeps kp _ _ (s2.tmp t),s2.size,m3⟩;have t3:Step φ w φ' w3 s'.eff:=by
   have:=t2.trans (step_of_keeps hg kp);rwa[List.append_nil]at this
  exact ends_ok hm hA hres hl hq s3 t3
 rcases hxe with rfl|rfl
 ·cases e<;>simp only[Ex.of,Option.some.injEq]at hex<;>first|(cases hex;done)|exact key
 ·cases e<;>simp only[Ex.of,Option.some.injEq]at hex<;>first|(cases hex;done)|exact key
end
end
end Go.Proofs.Ytjfejoadcdoobaa
