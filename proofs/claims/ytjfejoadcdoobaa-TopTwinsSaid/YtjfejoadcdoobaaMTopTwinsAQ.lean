/- Part of the proof of TopTwins. No condition. -/
import Derived.Test.YtjfejoadcdoobaaMTopTwinsAK
import Derived.Test.YtjfejoadcdoobaaMTopTwinsAP
namespace Go.Proofs.Ytjfejoadcdoobaa
set_option maxRecDepth 100000
set_option linter.all false
section
open Go Go.RowKit
variable[Sp]
theorem sameY_eq:∀{a b:List YS},sameY a b=true->a.map YS.core=b.map YS.core->a=b
 |[],[],_,_=>rfl
 |[],_::_,h,_=>by simp[sameY]at h
 |_::_,[],h,_=>by simp[sameY]at h
 |a::l,b::m,h,k=>by
  simp only[sameY,Bool.and_eq_true,decide_eq_true_eq]at h;simp only[List.map_cons,List.cons.injEq]at k;have e:a=b:=by
   obtain⟨g,f,ps,asg,body,p,pend,busy⟩:=a;obtain⟨g',f',ps',asg',body',p',pend',busy'⟩:=b;have k1:=k.1;simp only[YS.core,YS.mk.injEq]at k1;obtain⟨⟨h1,h2⟩,_⟩:=h;simp only at h1 h2;simp only[YS.mk.injEq];exact⟨k1.1,k1.2.1,k1.2.2.1,k1.2.2.2.1,k1.2.2.2.2.1,k1.2.2.2.2.2.1,h1,h2⟩
  rw[e,sameY_eq h.2 k.2]
section
variable{F:Frm}{S S1 H:Sym}{ρ ρ1:List PV}{ids ids1:Nat->Option Nat}{s s1:St}{ps qs:List PE}{ks:List (Option Nat)}{sk:Skel}
theorem fit_one{q:PV}{N:Nat}(h:q.one=true):(q.cutb N).one=true\/q.cutb N=.bad:=by
 cases q with
 |ptr i o=>
  simp only[PV.cutb];split
  ·exact .inl rfl
  ·exact .inr rfl
 |hd i o z=>
  simp only[PV.cutb];split
  ·exact .inl rfl
  ·exact .inr rfl
 |undef=>simp[PV.one]at h
 |bad=>simp[PV.one]at h
 |agg _=>simp[PV.one]at h
 |tup _=>simp[PV.one]at h
 |_=>exact .inl rfl
def idsF(n1:Nat)(Ks ks:List (Option Nat))(ids:Nat->Option Nat)(k:Nat):Option Nat:=
 if k<n1 then(if ks.contains (some k)=true then none else ids k)else(renId Ks ks k).bind ids
theorem fit_ok(h1:Rel F S1 ρ1 ids1 s1)(h:Rel F S ρ ids s)(hx:Ext S1 ρ1 S ρ)(hH:KeepH S1 H)(heff:H.eff=sk.eff)(hf:FitH sk S1 H S ps qs ks):
  Silent s (s.trim (F.n0+S1.bx.length))/\Rel F H (ρ1++denL ρ (ps++qs)) (idsF S1.ar.length (freshK H sk.pos) ks ids) (s.trim (F.n0+S1.bx.length))/\Ext S1 ρ1 H (ρ1++denL ρ (ps++qs)):=by
 obtain⟨v1,v2,v3,v4⟩:=valsOf_get hf.v;obtain⟨a1,a2⟩:=valsA_get hf.a;have hpos:=posOk_get hf.pos;have harrs:=arrsOk_get hf.arrs;have hdist:=distinctK_get hf.dist;have g3:=sameF_get hf.g;obtain⟨b1,b2,b3⟩:=sameB_get hf.b;have hlen1:ρ1.length=S1.nv:=h1.len;generalize hρH:ρ1++denL ρ (ps++qs)=ρH;generalize hidsH:idsF S1.ar.length (freshK H sk.pos) ks ids=idsH;have hvar:∀(j:Nat) pe,(ps++qs)[j]?=some pe->ρH.getD (S1.nv+j) .bad=pe.den ρ:=λj pe hj=>by
  rw[←hρH,denL_eq,List.getD_eq_getElem?_getD,List.getElem?_append_right (by omega),hlen1];rw[show S1.nv+j-S1.nv=j by omega,List.getElem?_map,hj];rfl
 have hvp:∀(j:Nat) pe,ps[j]?=some pe->ρH.getD (S1.nv+j) .bad=pe.den ρ:=λj pe hj=>hvar j pe (by rw[List.getElem?_append_left (List.getElem?_eq_some_iff.1 hj).1];exact hj);have hvq:∀(j:Nat) pe,qs[j]?=some pe->ρH.getD (S1.nv+sk.pos.length+j) .bad=pe.den ρ:=λj pe hj=>by
  have:=hvar (ps.length+j) pe (by rw[List.getElem?_append_right (by omega),show ps.length+j-ps.length=j by omega];exact hj);rwa[v1,←Nat.add_assoc]at this
 have hpH:ρ1<+:ρH:=by rw[←hρH];exact List.prefix_append _ _
 have hbl:H.bx.length=S1.bx.length:=b1;have hfresh:∀(j:Nat) p ko K,sk.pos[j]?=some p->ks[j]?=some ko->p.own.isSome=true->H.at p=.own K->S1.ar.length<=K->idsH K=ko.bind ids:=λj p ko K hp hk ho hat hle=>by
  have hfk:=freshK_get (H:=H) hp;have:(freshK H sk.pos)[j]?=some (some K):=by
   rw[hfk,hat];cases hown:p.own with
   |none=>rw[hown]at ho;cases ho
   |some _=>rfl
  rw[←hidsH];unfold idsF;rw[if_neg (by omega),renId_get hdist this hk]
 have hplace:∀(j:Nat) p,sk.pos[j]?=some p->∀q,RV F (S.env ρ ids) (S.at p) q->RV F (H.env ρH idsH) (H.at p) (q.cutb (F.n0+S1.bx.length))/\(q.one=true->(q.cutb (F.n0+S1.bx.length)).one=true):=λj p hj q hq=>by
  obtain⟨pe,ko,e1,e2,hV⟩:=v3 j p hj;have hP:=hpos j p hj;refine pos_rv h hP hV (hvp j pe e1) (λK hK=>?_) hq;rcases hP with⟨_,h2⟩|⟨sz,b,K',h3,h4,h5,h6⟩
  ·rw[hK]at h2;cases h2
  ·exact hfresh j p ko K hj e2 (by rw[h3];rfl) hK (by rw[h4]at hK;injection hK with hK;omega)
 have helder:∀k a,k<S1.ar.length->H.arr k=some a->idsH k=ids k/\∃a',S.arr k=some a'/\(a'.sz=a.sz/\a'.born=a.born)/\∀cs,a'.rel (S.env ρ ids) k cs->a.rel (H.env ρH idsH) k cs:=λk a hk ha=>by
  have hs:=hf.sa;unfold sameA at hs;have hs:=List.all_eq_true.1 hs k (List.mem_range.2 hk);simp only[ha,Bool.and_eq_true,Bool.not_eq_true',Bool.or_eq_true]at hs;obtain⟨hn,hs⟩:=hs;have hid:idsH k=ids k:=by rw[←hidsH];unfold idsF;rw[if_pos hk,hn];simp
  refine⟨hid,?_⟩;rcases hs with hs|⟨hs1,hs2⟩
  ·have hm:k∈sk.arrs:=by simpa[List.contains_iff_mem]using hs
   obtain⟨j,hj⟩:=List.mem_iff_getElem?.1 hm;obtain⟨a0,e1,e2⟩:=harrs j k hj;obtain⟨x,a',e3,e4,e5,e6,e7⟩:=a2 j k hj;rw[e1]at e3;injection e3 with e3;subst e3;rw[ha]at e2;injection e2 with e2;refine⟨a',e4,by rw[e2];exact⟨e6,e7⟩,λcs hr=>?_⟩;obtain⟨r1,r2,r3,r4,r5,r6⟩:=hr;have hρ:(S.env ρ ids).ρ=ρ:=rfl;have hi:(S.env ρ ids).ids=ids:=rfl;rw[hρ]at r1 r2 r5;rw[hi]at r5;obtain⟨cs0,q1,q2,q3,q4,q5,q6⟩:=h1.arr k a0 e1;have q6':∀x,a0.born=.dyn x->x.ok ρ1:=q6;have hv:=hvq j _ e5;have hden:ρH.getD (S1.nv+sk.pos.length+j) .bad=.agg cs:=by rw[hv];exact r2
   have hp:plainC cs=true:=by have:=SE.ok_plain r1;rw[r2]at this;simpa only[PV.plain]using this
   subst e2;refine⟨?_,hden,by show 0<a0.sz;rw[←e6];exact r3,by show cs.length=cs.length/a0.sz*a0.sz;rw[←e6];exact r4,?_,λx hx'=>?_⟩
   ·show(ρH.getD _ .bad).plain=true;rw[hden];simpa only[PV.plain]using hp
   ·show isNil ρH a0.born cs=some (idsH k).isNone;rw[isNil_prefix hpH q6',hid,←r5,e7,isNil_prefix hx.pre q6']
   ·exact(SE.den_prefix hpH (q6' x hx')).2
  ·have e1:=arB_eq hs1;have e2:=arB_eq hs2;refine⟨a,e2.symm,⟨rfl,rfl⟩,λcs hr=>?_⟩;obtain⟨r1,r2,r3,r4,r5,r6⟩:=hr;have hρ:(S.env ρ ids).ρ=ρ:=rfl;have hi:(S.env ρ ids).ids=ids:=rfl;rw[hρ]at r1 r2 r5;rw[hi]at r5;obtain⟨cs0,q1,q2,q3,q4,q5,q6⟩:=h1.arr k a e1.symm;have q1':a.c.ok ρ1:=q1;have q6':∀x,a.born=.dyn x->x.ok ρ1:=q6;obtain⟨d1,d2⟩:=SE.den_prefix hpH q1';obtain⟨d3,_⟩:=SE.den_prefix hx.pre q1';refine⟨d2,?_,r3,r4,?_,λx hx'=>(SE.den_prefix hpH (q6' x hx')).2⟩
   ·show a.c.den ρH=.agg cs;rw[d1,←d3];exact r2
   ·show isNil ρH a.born cs=some (idsH k).isNone;rw[isNil_prefix hpH q6',hid,←r5,isNil_prefix hx.pre q6']
 have hmv:Mv F (S1.env ρ1 ids1) (S.env ρ ids) (H.env ρH idsH) H S1.ar.length:=by
  refine⟨hx.pre,hpH,hbl.symm,rfl,λk cs a hk ha ⟨a',h2,h3⟩=>?_⟩;obtain⟨e1,a'',e2,e3,e4⟩:=helder k a hk ha;have:S.arr k=some a':=h2;rw[e2]at this;injection this with this;subst this;exact⟨e4 cs h3,e1,λa3 h4=>by
   have:S.arr k=some a3:=h4;rw[e2]at this;injection this with this;subst this;exact e3⟩
 have hnb:(H.env ρH idsH).nb=S1.bx.length:=hbl;have hkeepv:∀hv u v q q0,svOk H S1.ar.length hv u v=true->RV F (S1.env ρ1 ids1) u q0->RV F (S.env ρ ids) v q->RV F (H.env ρH idsH) hv (q.cutb (F.n0+S1.bx.length)):=λhv u v q q0 hok hu hq=>by
  rcases svOk_cases hok with rfl|⟨rfl,e,ht⟩
  ·simp only[RV]
  ·rw[←e]at hq;have:=hmv.rv ht hu hq;rwa[hnb]at this
 have hrc:RcOk F H.ys ρH s.m.rc:=by
  have e:H.ys=S.ys:=sameY_eq hf.y (by rw[hH.ys];exact hx.ys.symm);rw[e];exact⟨h1.rc.pre.trans hpH,h.rc.len,h.rc.rc,h.rc.y,h.rc.ne,h.rc.ne0⟩
 have hn0:F.n0+S1.bx.length<=s.m.n:=by rw[h.boxn];have:=hx.bx;omega
 have hen:F.ent.n<=F.n0+S1.bx.length:=by rw[h1.bbase];have:=h1.bb;omega
 refine⟨silent_trim s hn0 (by rw[h.a0];exact hen) (by rw[h.a0];exact h.an) (λe he=>(h.efc e he).2),?_,hpH,hH.base,hH.bbase,hH.site,hH.site,by rw[hH.ys],by omega,rfl⟩;have hfr:∀k,S1.ar.length<=k->k<H.ar.length->∃j p ko pe sz b,sk.pos[j]?=some p/\ks[j]?=some ko/\ps[j]?=some pe/\PosV S p pe ko/\p.own=some (sz,b)/\H.at p=.own k/\H.arr k=some ⟨sz,b,.var (S1.nv+j)⟩:=λk hk1 hk2=>by
  have hfo:=hf.fresh;unfold freshOk at hfo;have hfo:=List.all_eq_true.1 hfo k (List.mem_range.2 hk2);simp only[Bool.or_eq_true,decide_eq_true_eq]at hfo;have hm:some k∈freshK H sk.pos:=by
   rcases hfo with hfo|hfo
   ·omega
   ·simpa[List.contains_iff_mem]using hfo
  obtain⟨j,hj⟩:=List.mem_iff_getElem?.1 hm;have hjl:j<sk.pos.length:=by
   have:=(List.getElem?_eq_some_iff.1 hj).1;rwa[freshK_length]at this
  have hp:sk.pos[j]?=some sk.pos[j]:=by simp[hjl]
  rw[freshK_get hp]at hj;injection hj with hj;obtain⟨pe,ko,e1,e2,hV⟩:=v3 j _ hp;split at hj
  ·rename_i x K hown hat;injection hj with hj;subst hj;rcases hpos j _ hp with⟨h2,_⟩|⟨sz,b,K',h3,h4,h5,h6⟩
   ·rw[hown]at h2;cases h2
   ·rw[hat]at h4;injection h4 with h4;subst h4;exact⟨j,_,ko,pe,sz,b,hp,e2,e1,hV,h3,hat,h6⟩
  ·cases hj
 have hidc:∀k id,idsH k=some id->∃k',ids k'=some id/\k<H.ar.length/\((k<S1.ar.length/\k'=k/\ks.contains (some k)=false)\/(S1.ar.length<=k/\∃j:Nat,(freshK H sk.pos)[j]?=some (some k)/\ks[j]?=some (some k'))):=λk id hk=>by
  rw[←hidsH]at hk;unfold idsF at hk;split at hk
  ·rename_i hlt;split at hk
   ·cases hk
   ·rename_i hc;have:=hf.le;exact⟨k,hk,by omega,.inl ⟨hlt,rfl,by simpa using hc⟩⟩
  ·rename_i hlt;obtain⟨k',e1,e2⟩:=Option.bind_eq_some_iff.1 hk;obtain⟨j,e3,e4⟩:=renId_some e1;refine⟨k',e2,?_,.inr ⟨by omega,j,e3,e4⟩⟩;have hjl:j<sk.pos.length:=by
    have:=(List.getElem?_eq_some_iff.1 e3).1;rwa[freshK_length]at this
   have hp:sk.pos[j]?=some sk.pos[j]:=by simp[hjl]
   rw[freshK_get hp]at e3;injection e3 with e3;split at e3
   ·rename_i x K hown hat;injection e3 with e3;subst e3;rcases hpos j _ hp with⟨h2,_⟩|⟨sz,b,K',h3,h4,h5,h6⟩
    ·rw[hown]at h2;cases h2
    ·rw[hat]at h4;injection h4 with h4;subst h4;unfold Sym.arr at h6;rw[List.getD_eq_getElem?_getD]at h6;rcases Nat.lt_or_ge K H.ar.length with hl|hl
     ·exact hl
     ·rw[List.getElem?_eq_none hl]at h6;cases h6
   ·cases e3
 have hinjk:∀(i j:Nat) k,ks[i]?=some (some k)->ks[j]?=some (some k)->i=j:=v4;have hbase:H.eff=false->S.eff=false/\∀k,k<H.base->H.arr k=S.arr k/\ks.contains (some k)=false:=λhe=>by
  rcases hf.e with h2|⟨h2,h3⟩
  ·rw[heff,h2]at he;cases he
  ·refine⟨h2,λk hk=>?_⟩;unfold baseOk at h3;have h3:=List.all_eq_true.1 h3 k (List.mem_range.2 hk);simp only[Bool.and_eq_true,Bool.not_eq_true']at h3;exact⟨arB_eq h3.1.1.2,h3.1.2⟩
 refine⟨?_,λi hi=>?_,λt=>?_,?_,λi hi=>?_,λi b hb=>?_,λk id hk=>?_,λk j id hk hj=>?_,λk a ha=>?_,h.a0,h.ent,h.efc,λhe=>h.eff (he.imp_left λhe=>(hbase he).1),λhe k id hk hle=>?_,λhe k hk=>?_,by rw[hH.bbase];exact h1.bbase,by rw[hH.base];exact Nat.le_trans h1.ba hf.le,by rw[hH.bbase,hbl];exact h1.bb,h.an,h.obd,hrc⟩
 ·rw[←hρH,List.length_append,denL_eq,List.length_map,List.length_append,hlen1,v1,a1,hf.nv];omega
 ·rw[hH.kn]at hi;have hk1:=h1.kn i hi;have hlt:i<ρ1.length:=by
   rcases Nat.lt_or_ge i ρ1.length with h2|h2
   ·exact h2
   ·simp[List.getD_eq_getElem?_getD,List.getElem?_eq_none h2,PV.one]at hk1
  rw[←hρH];simpa[List.getD_eq_getElem?_getD,List.getElem?_append_left hlt]using hk1
 ·rw[St.trim_g];rcases Classical.em (∃p∈H.g,p.1=t)with⟨pp,hl,hpt⟩|hl
  ·have g4:=g3 pp hl;rw[hpt]at g4;rcases g4 with hp|hp
   ·obtain⟨j,p,hj,hbx,hi,_⟩:=isPos_get hp;have at1:S.at p=S.get t:=by unfold Sym.at;rw[hbx,hi];simp
    have at2:H.at p=H.get t:=by unfold Sym.at;rw[hbx,hi];simp
    have:=(hplace j p hj (s.g t) (by rw[at1];exact h.slot t)).1;rwa[at2]at this
   ·exact hkeepv _ _ _ _ _ hp (h1.slot t) (h.slot t)
  ·have:H.get t=.junk:=getA_junk λp hp e=>hl ⟨p,hp,e⟩;rw[this];simp only[RV]
 ·rw[St.trim_n,hbl]
 ·rw[St.trim_β,h.old i hi];cases hb:F.β0 i with
  |cells l=>
   have:(BoxC.cells l).cutb (F.n0+S1.bx.length)=.cells (cutbL (F.n0+S1.bx.length) l):=by simp[BoxC.cutb,cutbL_eq]
   rw[this,bdL_cutb_id (by omega:F.n0<=F.n0+S1.bx.length) l (h.obd i l hi hb)]
  |inv I=>rfl
  |hole=>rfl
 ·rw[St.trim_β];have hi:i<H.bx.length:=(List.getElem?_eq_some_iff.1 hb).1;have hi1:i<S1.bx.length:=by omega
  have hi2:i<S.bx.length:=by omega
  have e2:S1.bx[i]?=some S1.bx[i]:=by simp[hi1]
  have e3:S.bx[i]?=some S.bx[i]:=by simp[hi2]
  have hok:=b3 i _ _ _ hb e2 e3;rw[Nat.zero_add]at hok;have hr1:=h1.box i _ e2;have hr:=h.box i _ e3;cases hb':b with
  |cells hs=>
   cases hu:S1.bx[i]with
   |cells us=>
    cases hv:S.bx[i]with
    |cells vs=>
     rw[hb',hu,hv]at hok;rw[hu]at hr1;rw[hv]at hr;obtain⟨l1,f1,f2⟩:=hr1;obtain⟨l',f3,f4⟩:=hr;have hok':sameG (isPos sk.pos true i) H S1.ar.length 0 hs us vs=true:=hok;obtain⟨c1,c2,c3⟩:=sameG_get hok';refine⟨cutbL (F.n0+S1.bx.length) l',by rw[f3];simp[BoxC.cutb,cutbL_eq],?_⟩;rw[cutbL_eq];have hl':=rvl_length f4;have hl1:=rvl_length f2;refine rvl_iff.2 ⟨by simp;omega,λj hvj q hj hq=>?_⟩;rw[List.getElem?_map]at hq;obtain⟨q0,hq0,rfl⟩:=Option.map_eq_some_iff.1 hq;have hjl:j<hs.length:=(List.getElem?_eq_some_iff.1 hj).1;have ju:us[j]?=some us[j]:=by simp[show j<us.length by omega]
     have jv:vs[j]?=some vs[j]:=by simp[show j<vs.length by omega]
     have jl1:l1[j]?=some l1[j]:=by simp[show j<l1.length by omega]
     obtain⟨r1,r2⟩:=(rvl_iff.1 f4).2 j _ q0 jv hq0;obtain⟨r3,r4⟩:=(rvl_iff.1 f2).2 j _ _ ju jl1;rcases c3 j _ _ _ hj ju jv with hp|hp
     ·rw[Nat.zero_add]at hp;obtain⟨jj,p,hjj,hbx,hpi,hpj⟩:=isPos_get hp;have at1:S.at p=vs[j]:=by
       unfold Sym.at;rw[hbx,hpi,hpj rfl];simp only[if_true,List.getD_eq_getElem?_getD,e3,Option.getD_some,hv,jv]
      have at2:H.at p=hvj:=by
       unfold Sym.at;rw[hbx,hpi,hpj rfl];simp only[if_true,List.getD_eq_getElem?_getD,hb,Option.getD_some,hb',hj]
      have:=hplace jj p hjj q0 (by rw[at1];exact r1);rw[at2]at this;refine⟨this.1,?_⟩;rcases r2 with r2|r2
      ·obtain⟨pe,ko,_,_,hV⟩:=v3 jj p hjj;rw[←at1]at r2;rcases hV with⟨_,g,_⟩|⟨_,_,_,_,_,g,_⟩|⟨_,_,_,g,_⟩
       ·rw[r2]at g;simp[SV.pe]at g
       ·rw[r2]at g;cases g
       ·rw[r2]at g;cases g
      ·exact .inr (this.2 r2)
     ·have hk:=hkeepv _ _ _ _ _ hp r3 r1;refine⟨hk,?_⟩;rcases svOk_cases hp with e|⟨e,e',_⟩
      ·exact .inl e
      ·rcases r2 with r2|r2
       ·exact .inl (by rw[e',r2])
       ·rcases fit_one (N:=F.n0+S1.bx.length) r2 with r5|r5
        ·exact .inr r5
        ·rw[r5]at hk;exact .inl (rv_bad hk)
    |dice=>rw[hb',hu,hv]at hok;exact hok.elim
    |gone=>rw[hb',hu,hv]at hok;exact hok.elim
   |dice=>rw[hb',hu]at hok;cases hv:S.bx[i]<;>rw[hv]at hok<;>exact hok.elim
   |gone=>rw[hb',hu]at hok;cases hv:S.bx[i]<;>rw[hv]at hok<;>exact hok.elim
  |dice=>
   cases hv:S.bx[i]with
   |dice=>
    rw[hv]at hr;have:s.m.β (F.n0+i)=.inv F.DI:=hr;show(s.m.β (F.n0+i)).cutb _=.inv F.DI;rw[this];rfl
   |cells _=>rw[hb',hv]at hok;cases hu:S1.bx[i]<;>rw[hu]at hok<;>exact hok.elim
   |gone=>rw[hb',hv]at hok;cases hu:S1.bx[i]<;>rw[hu]at hok<;>exact hok.elim
  |gone=>trivial
 ·obtain⟨k',e1,e2,_⟩:=hidc k id hk;exact⟨(h.idlt k' id e1).1,(h.idlt k' id e1).2.1,e2⟩
 ·obtain⟨k',e1,_,c1⟩:=hidc k id hk;obtain⟨j',e3,_,c2⟩:=hidc j id hj;have ekj:=h.idinj k' j' id e1 e3;subst ekj;rcases c1 with⟨_,rfl,c1⟩|⟨_,i,c3,c4⟩
  ·rcases c2 with⟨_,c2,_⟩|⟨_,i,c5,c6⟩
   ·exact c2
   ·have:=List.mem_of_getElem? c6;simp[List.contains_iff_mem,this]at c1
  ·rcases c2 with⟨_,rfl,c2⟩|⟨_,i',c5,c6⟩
   ·have:=List.mem_of_getElem? c4;simp[List.contains_iff_mem,this]at c2
   ·have:=hinjk i i' _ c4 c6;subst this;rw[c3]at c5;injection c5 with c5;injection c5
 ·rcases Nat.lt_or_ge k S1.ar.length with hk|hk
  ·obtain⟨_,a',e2,_,e4⟩:=helder k a hk ha;obtain⟨cs,hr⟩:=h.arr k a' e2;exact⟨cs,e4 cs hr⟩
  ·have hkl:k<H.ar.length:=by
    rw[List.getD_eq_getElem?_getD]at ha;rcases Nat.lt_or_ge k H.ar.length with hl|hl
    ·exact hl
    ·rw[List.getElem?_eq_none hl]at ha;cases ha
   obtain⟨j,p,ko,pe,sz,b,e1,e2,e3,hV,e4,e5,e6⟩:=hfr k hk hkl;have ha':H.arr k=some a:=ha;rw[e6]at ha';injection ha' with ha';subst ha';obtain⟨cs,hr,_⟩:=pos_arr (H:=H) (K:=k) (ρH:=ρH) (idsH:=idsH) h e4 hV (hvp j pe e3) (hfresh j p ko k e1 e2 (by rw[e4];rfl) e5 hk);exact⟨cs,hr⟩
 ·obtain⟨k',e1,_,c1⟩:=hidc k id hk;obtain⟨he',hb⟩:=hbase he;have hbe:H.base=S.base:=by rw[hH.base,hx.base]
  rcases c1 with⟨_,rfl,_⟩|⟨_,i,_,c4⟩
  ·exact h.new he' k' id e1 (by omega)
  ·refine h.new he' k' id e1 ?_;rcases Nat.lt_or_ge k' S.base with hlt|hge
   ·have:=(hb k' (by omega)).2;have hm:=List.mem_of_getElem? c4;simp[List.contains_iff_mem,hm]at this
   ·exact hge
 ·obtain⟨he',hb⟩:=hbase he;have hbe:H.base=S.base:=by rw[hH.base,hx.base]
  obtain⟨b4,b5⟩:=hb k hk;obtain⟨k1,k2⟩:=h.keep he' k (by omega);refine⟨?_,?_⟩
  ·have:H.arr k=S.arr k:=b4;unfold Sym.arr at this;rw[this,k1]
  ·have hk1:k<S1.ar.length:=Nat.lt_of_lt_of_le (by rw[←hH.base];exact hk) h1.ba;rw[←hidsH];unfold idsF;rw[if_pos hk1,b5];simpa using k2
end
end
section
open Go Go.RowKit
variable[Sp]
section
variable{P:Program}{s:St}
theorem goodC_post{A:Anchor}{N:Nat}{Q:Ex->St->Prop}{e:Exit}{a:Act}{w:World}(h:GoodC A N (λe s'=>∃s1,Silent s' s1/\Q e s1) e a w):GoodC A N Q e a w:=by
 obtain⟨ex,s',φ',h1,h2,h3,h4,h5,s1,h6,h7⟩:=h;obtain⟨φ1,k1,k2⟩:=h6.2 φ' w N a ⟨A.φ0,A.w0,φ',w,A.tl⟩ h2 ⟨h3.st,Rest.refl φ' w⟩ h5;exact⟨ex,s1,φ1,h1,k1,⟨k2.st,h3.re.trans k2.re⟩,h4.rest k2.re,by unfold Old at h5⊢;rw[h6.1];exact h5,h7⟩
theorem codeSem_post{c:Code}{Q:Ex->St->Prop}(h:CodeSem P c s λe s'=>∃s1,Silent s' s1/\Q e s1):CodeSem P c s Q:=
 λA φ w N n r a hd hs ha hA hm=>wpX_mono (h A φ w N n r a hd hs ha hA hm) λ_ _ _ h=>goodC_post h
theorem sem_loopS{c:Code}{Q:Ex->St->Prop}(I:St->Prop)(μ:St->Nat)(h0:I s)
  (round:∀s,I s->CodeSem P c s λe s'=>match e with
   |.normal=>∃s1,Silent s' s1/\I s1/\μ s1<μ s
   |.exit i=>Q (.exit i) s'
   |.ret=>Q .ret s'):CodeSem P (.loop c) s Q:=by
 refine sem_loop I μ h0 λs hs=>?_;refine codeSem_post (codeSem_mono (round s hs) λe s' h=>?_);cases e with
 |normal=>
  obtain⟨s1,h1,h2⟩:=h;exact⟨s1,h1,.inl h2⟩
 |exit i=>exact⟨s',Silent.refl s',h⟩
 |ret=>exact⟨s',Silent.refl s',h⟩
end
section
variable{P:Program}{C:Orc->FuncId->List PV->Option PV}{n:Nat}{R:Out->Prop}{ρ:List PV}
theorem iter_low{step:Orc->List PV->Option Out}{L B:Nat}{ex:List Nat}(h:∀ω vs L' vs',step ω vs=some (.jump L' vs')->L'∈L::ex\/L'<B):∀{k:Nat}{ω:Orc}{vs:List PV}{L':Nat}{vs':List PV},iter step L k ω vs=some (.jump L' vs')->L'∈ex\/L'<B
 |0,ω,vs,L',vs',hi=>by simp[iter]at hi
 |k+1,ω,vs,L',vs',hi=>by
  simp only[iter]at hi;split at hi
  ·rename_i L'' vs'' hs;split at hi
   ·exact iter_low h hi
   ·rename_i hne;injection hi with hi;injection hi with e1 e2;subst e1;rcases h _ _ _ _ hs with h|h
    ·rcases List.mem_cons.1 h with h|h
     ·exact absurd h hne
     ·exact .inl h
    ·exact .inr h
  ·rename_i hno;exact absurd hi (hno _ _)
theorem eval_low{B:Nat}:∀{t:Tree}{ex:List Nat}{ω:Orc}{ρ:List PV}{L:Nat}{vs:List PV},t.low B ex=true->eval P C n t ω ρ=some (.jump L vs)->L∈ex\/L<B
 |.ret v,ex,ω,ρ,L,vs,h,he=>by simp[eval]at he
 |.jump L' l,ex,ω,ρ,L,vs,h,he=>by
  simp only[eval,Option.some.injEq,Out.jump.injEq]at he;simp only[Tree.low,Bool.or_eq_true,decide_eq_true_eq]at h;rw[←he.1];rcases h with h|h
  ·exact .inl (by simpa[List.contains_iff_mem]using h)
  ·exact .inr h
 |.prim p t,ex,ω,ρ,L,vs,h,he=>by
  simp only[eval]at he;simp only[Tree.low]at h;split at he
  ·exact eval_low h he
  ·cases he
 |.ite c a b,ex,ω,ρ,L,vs,h,he=>by
  simp only[eval]at he;simp only[Tree.low,Bool.and_eq_true]at h;split at he
  ·exact eval_low h.1 he
  ·exact eval_low h.2 he
  ·cases he
 |.call g args t,ex,ω,ρ,L,vs,h,he=>by
  simp only[eval]at he;simp only[Tree.low]at h;split at he
  ·exact eval_low h he
  ·cases he
 |.callv f args t,ex,ω,ρ,L,vs,h,he=>by
  simp only[eval]at he;simp only[Tree.low]at h;split at he
  ·split at he
   ·exact eval_low h he
   ·cases he
  ·cases he
 |.pick sz c t,ex,ω,ρ,L,vs,h,he=>by
  simp only[eval]at he;simp only[Tree.low]at h;split at he
  ·exact eval_low h he
  ·cases he
 |.loop L' init b,ex,ω,ρ,L,vs,h,he=>by
  simp only[eval]at he;simp only[Tree.low]at h;exact iter_low (λω vs L'' vs' hs=>eval_low h hs) he
 |.join L' b k,ex,ω,ρ,L,vs,h,he=>by
  simp only[eval]at he;simp only[Tree.low,Bool.and_eq_true]at h;split at he
  ·rename_i L'' vs'' hb;split at he
   ·exact eval_low h.2 he
   ·rename_i hne;injection he with he;injection he with e1 e2;subst e1;rcases eval_low h.1 hb with g|g
    ·rcases List.mem_cons.1 g with g|g
     ·exact absurd g hne
     ·exact .inl g
    ·exact .inr g
  ·rename_i hno;exact absurd he (hno _ _)
 |.die,ex,ω,ρ,L,vs,h,he=>by simp[eval]at he
def atL(L:Nat)(J:List PV->Prop)(R:Out->Prop):Out->Prop
 |.jump L' vs=>if L'=L then J vs else R (.jump L' vs)
 |.val v=>R (.val v)
theorem run_low{t:Tree}{L:Nat}{J:List PV->Prop}(h:t.low L []=true)(hrun:Run P C n t ρ (atL L J R)):Run P C n t ρ R:=by
 intro ω;obtain⟨o,ho,hR⟩:=hrun ω;refine⟨o,ho,?_⟩;cases o with
 |val v=>exact hR
 |jump L' vs=>
  rcases eval_low h ho with g|g
  ·cases g
  ·simp only[atL]at hR;rwa[if_neg (by omega)]at hR
theorem lowK_ok{L:Nat}{x:M}{t:Tree}(h:lowK L x=.ok t):x=.ok t/\t.low L []=true:=by
 unfold lowK at h;split at h
 ·split at h
  ·rename_i hl;injection h with h;subst h;exact⟨rfl,hl⟩
  ·cases h
 ·cases h
theorem run_join{L:Nat}{b k:Tree}(h:Run P C n (.join L b k) ρ R):Run P C n b ρ (atL L (λvs=>Run P C n k (ρ++vs) R) R):=by
 intro ω;obtain⟨o,ho,hR⟩:=h (Orc.mk ω ω);simp only[eval,Orc.mk_l]at ho;split at ho
 ·rename_i L' vs hb;refine⟨_,hb,?_⟩;simp only[atL];split
  ·rename_i hL;intro ω';obtain⟨o',ho',hR'⟩:=h (Orc.mk ω ω');simp only[eval,Orc.mk_l,Orc.mk_r,hb,hL,if_true]at ho';exact⟨o',ho',hR'⟩
  ·rename_i hL;rw[if_neg hL]at ho;injection ho with ho;subst ho;exact hR
 ·rename_i hno;refine⟨o,ho,?_⟩;cases o with
  |val v=>exact hR
  |jump L' vs=>exact absurd ho (hno _ _)
def Iter(P:Program)(C:Orc->FuncId->List PV->Option PV)(n L:Nat)(b:Tree)(ρ:List PV)(R:Out->Prop)(k:Nat)(vs:List PV):Prop:=
 ∀ω,∃o,iter (λω vs=>eval P C n b ω (ρ++vs)) L k ω vs=some o/\R o
theorem run_loop{L:Nat}{b:Tree}{init:List PE}(h:Run P C n (.loop L init b) ρ R):Iter P C n L b ρ R n (denL ρ init):=by
 intro ω;obtain⟨o,ho,hR⟩:=h ω;simp only[eval]at ho;exact⟨o,ho,hR⟩
theorem iter_zero{L:Nat}{b:Tree}{vs:List PV}(h:Iter P C n L b ρ R 0 vs):False:=by
 obtain⟨o,ho,_⟩:=h orc0;simp[iter]at ho
theorem iter_run{L:Nat}{b:Tree}{vs:List PV}{k:Nat}(h:Iter P C n L b ρ R (k+1) vs):Run P C n b (ρ++vs) (atL L (λvs'=>Iter P C n L b ρ R k vs') R):=by
 intro ω;obtain⟨o,ho,hR⟩:=h (Orc.mk ω ω);simp only[iter,Orc.mk_l]at ho;split at ho
 ·rename_i L' vs' hb;refine⟨_,hb,?_⟩;simp only[atL];split
  ·rename_i hL;intro ω';obtain⟨o',ho',hR'⟩:=h (Orc.mk ω ω');simp only[iter,Orc.mk_l,Orc.mk_r,hb,hL,if_true]at ho';exact⟨o',ho',hR'⟩
  ·rename_i hL;rw[if_neg hL]at ho;injection ho with ho;subst ho;exact hR
 ·rename_i hno;refine⟨o,ho,?_⟩;cases o with
  |val v=>exact hR
  |jump L' vs=>exact absurd ho (hno _ _)
end
end
section
open Go Go.RowKit
variable[Sp]
def solidV(p:PV):Prop:=p.plain=true\/(∃i o,p=.ptr i o)\/∃i z n,p=.hd i z n
theorem solid_sub1{p:PV}(h:solidV p)(e:Eff):p.sub1 e=p:=by
 rcases h with h|⟨i,o,rfl⟩|⟨i,z,n,rfl⟩
 ·exact plain_sub1 e p h
 ·simp only[PV.sub1]
 ·simp only[PV.sub1]
mutual
theorem sub1_plain_inv(e:Eff):∀p:PV,(p.sub1 e).plain=true->p.plain=true
 |.int _ _,_ | .bool _,_ | .str _,_ | .nilp,_ | .nilfn,_ | .snil,_=>rfl
 |.undef,h | .bad,h | .dead _,h | .yld _,h | .ptr _ _,h | .hd _ _ _,h=>by simp[PV.sub1,PV.plain]at h
 |.mp _ (some i) _ _,h=>by
  simp only[PV.sub1]at h;cases e with
  |kill j=>simp only at h;split at h<;>simp[PV.plain]at h
  |wr j q v=>
   simp only at h;split at h
   ·split at h
    ·split at h<;>simp[PV.plain]at h
    ·simp[PV.plain]at h
   ·simp[PV.plain]at h
 |.mp _ none _ _,_=>rfl
 |.sl none _ _ _ cs,h=>by
  simp only[PV.sub1,PV.plain]at h⊢;exact sub1_plainC_inv e cs h
 |.sl (some i) _ _ _ cs,h=>by
  simp only[PV.sub1]at h;cases e<;>(simp only at h;split at h<;>simp[PV.plain]at h)
 |.eref none _ cs,h=>by
  simp only[PV.sub1,PV.plain]at h⊢;exact sub1_plainC_inv e cs h
 |.eref (some i) _ cs,h=>by
  simp only[PV.sub1]at h;cases e<;>(simp only at h;split at h<;>simp[PV.plain]at h)
 |.fn _ cs,h=>by
  simp only[PV.sub1,PV.plain]at h⊢;exact sub1_plainC_inv e cs h
 |.agg cs,h=>by
  simp only[PV.sub1,PV.plain]at h⊢;exact sub1_plainC_inv e cs h
 |.tup cs,h=>by
  simp only[PV.sub1,PV.plain]at h⊢;exact sub1_plainT_inv e cs h
theorem sub1_plainC_inv(e:Eff):∀l:List PV,plainC (subL1 e l)=true->plainC l=true
 |[],_=>rfl
 |p::ps,h=>by
  simp only[subL1,plainC,Bool.and_eq_true]at h⊢;have hp:=sub1_plain_inv e p h.1.1;have:=plain_sub1 e p hp;rw[this]at h;exact⟨h.1,sub1_plainC_inv e ps h.2⟩
theorem sub1_plainT_inv(e:Eff):∀l:List PV,plainT (subL1 e l)=true->plainT l=true
 |[],_=>rfl
 |p::ps,h=>by
  simp only[subL1,plainT,Bool.and_eq_true]at h⊢;exact⟨sub1_plain_inv e p h.1,sub1_plainT_inv e ps h.2⟩
end
theorem sub1_solid_inv{p:PV}{e:Eff}(h:solidV (p.sub1 e)):solidV p:=by
 rcases h with h|⟨i,o,h⟩|⟨i,z,n,h⟩
 ·exact .inl (sub1_plain_inv e p h)
 ·refine .inr (.inl ⟨i,o,?_⟩);cases p with
  |ptr _ _=>simpa only[PV.sub1]using h
  |sl id _ _ _ _=>cases id<;>(simp only[PV.sub1]at h)<;>first|(cases h;done)|(cases e<;>(simp only at h;split at h<;>cases h))
  |eref id _ _=>cases id<;>(simp only[PV.sub1]at h)<;>first|(cases h;done)|(cases e<;>(simp only at h;split at h<;>cases h))
  |mp k id _ _=>
   cases id<;>(simp only[PV.sub1]at h)
   ·cases h
   ·cases e<;>simp only at h
    ·split at h
     ·split at h
      ·split at h<;>cases h
      ·cases h
     ·cases h
    ·split at h<;>cases h
  |_=>simp only[PV.sub1]at h<;>cases h
 ·refine .inr (.inr ⟨i,z,n,?_⟩);cases p with
  |hd _ _ _=>simpa only[PV.sub1]using h
  |sl id _ _ _ _=>cases id<;>(simp only[PV.sub1]at h)<;>first|(cases h;done)|(cases e<;>(simp only at h;split at h<;>cases h))
  |eref id _ _=>cases id<;>(simp only[PV.sub1]at h)<;>first|(cases h;done)|(cases e<;>(simp only at h;split at h<;>cases h))
  |mp k id _ _=>
   cases id<;>(simp only[PV.sub1]at h)
   ·cases h
   ·cases e<;>simp only at h
    ·split at h
     ·split at h
      ·split at h<;>cases h
      ·cases h
     ·cases h
    ·split at h<;>cases h
  |_=>simp only[PV.sub1]at h<;>cases h
theorem sub1_ptr_inv{p:PV}{e:Eff}{i o:Nat}(h:p.sub1 e=.ptr i o):p=.ptr i o:=by
 have hs:solidV p:=sub1_solid_inv (.inr (.inl ⟨i,o,h⟩));rwa[solid_sub1 hs]at h
def quietOk(pin:Nat)(late:Bool)(s:St)(o:Oper)(v:PV):Prop:=match o.op with
 |.move _ | .assign _=>True
 |.load _ x=>∃i off,s.ev x=.ptr i off/\(late=true->i=pin)
 |_=>(∀x∈o.op.operands,solidV (s.ev x))/\solidV v
def appQ'(P:Program)(o:Oper)(s:St)(K:St->Prop):Prop:=match o.op with
 |.call c=>(match c.argTypes,c.args.toList with
  |⟨[t,t']⟩,[x,y]=>t=t'/\aAppend P s o.dst t (s.ev x) (s.ev y) K
  |_,_=>False)
 |_=>False
def stoQ(P:Program)(pin:Nat)(late:Bool)(o:Oper)(s:St)(K:St->Prop):Prop:=match o.op with
 |.store t x y=>o.dst=none/\(∃id off,s.ev x=.ptr id off/\(late=true->id≠pin))/\aStore P s t (s.ev x) (s.ev y) K
 |_=>False
def quiQ(P:Program)(pin:Nat)(late:Bool)(o:Oper)(s:St)(K:St->Prop):Prop:=∃v,pureV P s.m s.ev o=some v/\quietOk pin late s o v/\K (s.put o.dst v)
def stepQ(P:Program)(pin:Nat)(late:Bool)(o:Oper)(s:St)(K:St->Prop):Prop:=
 if isApp o=true then appQ' P o s K else if isStore o=true then stoQ P pin late o s K else calmB o=true/\quiQ P pin late o s K
def seqQ(P:Program)(pin:Nat)(lt:Nat->Bool):List (Nat×Oper)->St->(St->Prop)->Prop
 |[],s,K=>K s
 |(i,o)::R,s,K=>stepQ P pin (lt i) o s λs'=>seqQ P pin lt R s' K
section
variable{P:Program}{pin:Nat}{late late':Bool}{s:St}{o o':Oper}{K K':St->Prop}
inductive AppF(d:Option Tmp):(St->St)->Prop
 |nil:AppF d (λs=>s.put d .snil)
 |new (sz m:Nat) (l:List PV):AppF d (λs=>s.newArr d sz m l)
 |kill (id:Nat) (v:PV):AppF d (λs=>(s.hit [.kill id]).put d v)
theorem app_form{d:Option Tmp}{t:TypeId}{x y:PV}(h:aAppend P s d t x y K):∃f,AppF d f/\K (f s)/\∀(s':St)(K':St->Prop),K' (f s')->aAppend P s' d t x y K':=by
 unfold aAppend at h;split at h
 ·rename_i e hu;obtain⟨h1,h2,h3,h⟩:=h;split at h
  ·rename_i m news ht;obtain⟨h4,h⟩:=h;split at h
   ·obtain⟨h5,h6,h⟩:=h;by_cases hm:m=0
    ·refine⟨_,.nil,by rwa[if_pos hm]at h,λs' K' hk=>?_⟩;unfold aAppend;simp only[hu,ht];exact⟨h1,h2,h3,h4,h5,h6,by rw[if_pos hm];exact hk⟩
    ·refine⟨_,.new _ _ _,by rwa[if_neg hm]at h,λs' K' hk=>?_⟩;unfold aAppend;simp only[hu,ht];exact⟨h1,h2,h3,h4,h5,h6,by rw[if_neg hm];exact hk⟩
   ·obtain⟨h5,h6,h7,h8,h9,h⟩:=h;refine⟨_,.kill _ _,h,λs' K' hk=>?_⟩;unfold aAppend;simp only[hu,ht];exact⟨h1,h2,h3,h4,h5,h6,h7,h8,h9,hk⟩
   ·exact h.elim
  ·exact h.elim
 ·exact h.elim
theorem stepQ_app(h:isApp o=true):stepQ P pin late o s K=appQ' P o s K:=if_pos h
theorem stepQ_sto(h:isApp o=false)(h':isStore o=true):stepQ P pin late o s K=stoQ P pin late o s K:=by unfold stepQ;rw[if_neg (by simp[h]),if_pos h']
theorem stepQ_qui(h:isApp o=false)(h':isStore o=false):stepQ P pin late o s K=(calmB o=true/\quiQ P pin late o s K):=by unfold stepQ;rw[if_neg (by simp[h]),if_neg (by simp[h'])]
theorem stepQ_mono(hk:∀s,K s->K' s)(h:stepQ P pin late o s K):stepQ P pin late o s K':=by
 unfold stepQ at h⊢;split
 ·rename_i ha;rw[if_pos ha]at h;unfold appQ' at h⊢;split at h
  ·split at h
   ·obtain⟨h1,h2⟩:=h;obtain⟨f,_,h3,h4⟩:=app_form h2;exact⟨h1,h4 _ _ (hk _ h3)⟩
   ·exact h.elim
  ·exact h.elim
 ·rename_i ha;rw[if_neg ha]at h;split
  ·rename_i hs;rw[if_pos hs]at h;unfold stoQ at h⊢;split at h
   ·obtain⟨h1,⟨id,off,h2,h3⟩,h4⟩:=h;refine⟨h1,⟨id,off,h2,h3⟩,?_⟩;rw[h2]at h4⊢;simp only[aStore]at h4⊢;obtain⟨g1,g2,g3,g4,l,g5,g6,g7⟩:=h4;exact⟨g1,g2,g3,g4,l,g5,g6,hk _ g7⟩
   ·exact h.elim
  ·rename_i hs;rw[if_neg hs]at h;obtain⟨h1,v,h2,h3,h4⟩:=h;exact⟨h1,v,h2,h3,hk _ h4⟩
theorem seqQ_mono{lt:Nat->Bool}(hk:∀s,K s->K' s):∀(R:List (Nat×Oper)){s:St},seqQ P pin lt R s K->seqQ P pin lt R s K'
 |[],s,h=>hk s h
 |(i,o)::R,s,h=>stepQ_mono (λs' h'=>seqQ_mono hk R h') h
theorem ev_put{d:Option Tmp}{v:PV}(h:dstIn d (looks o)=false):∀x∈o.op.operands,(s.put d v).ev x=s.ev x:=by
 intro x hx;cases d with
 |none=>rfl
 |some d=>
  cases x with
  |tmp t=>
   have ht:t∈looks o:=by
    unfold looks;exact List.mem_filterMap.2 ⟨.tmp t,by simpa using hx,rfl⟩
   have hne:t≠d:=by
    rintro rfl;simp only[dstIn]at h;rw[List.contains_iff_mem.2 ht]at h;cases h
   simp only[St.ev,St.put_g,if_neg hne]
  |_=>rfl
theorem put_comm{d d':Option Tmp}{v v':PV}(h:dstEq d d'=false):(s.put d v).put d' v'=(s.put d' v').put d v:=by
 cases d with
 |none=>rfl
 |some d=>cases d' with
  |none=>rfl
  |some d'=>
   simp only[dstEq,decide_eq_false_iff_not]at h;simp only[St.put];congr 1;funext t;by_cases h1:t=d'<;>by_cases h2:t=d<;>simp[h1,h2];subst h1;subst h2;exact absurd rfl h;all_goals (intro e;first|exact absurd e h|exact absurd e.symm h)
theorem quiet_congr{s':St}{v:PV}(he:∀x∈o.op.operands,s'.ev x=s.ev x)(h:quietOk pin late s o v):quietOk pin late s' o v:=by
 unfold quietOk at h⊢;split
 ·trivial
 ·trivial
 ·rename_i t x hop;rw[hop]at h;simp only at h;rw[he x (by rw[hop];simp[Op.operands])];exact h
 ·rename_i h1 h2 h3;split at h
  ·rename_i hop;exact absurd hop (h1 _)
  ·rename_i hop;exact absurd hop (h2 _)
  ·rename_i hop;exact absurd hop (h3 _ _)
  ·exact⟨λx hx=>by rw[he x hx];exact h.1 x hx,h.2⟩
theorem pureV_mem{m m':Mem}{e:Operand->PV}(h:isLoad o=false):pureV P m e o=pureV P m' e o:=by
 unfold isLoad at h;unfold pureV;split at h
 ·cases h
 ·rename_i hno;split<;>first|rfl|(rename_i hop;exact absurd hop (hno _ _))
theorem ev_hit{e:Eff}(x:Operand):(s.hit [e]).ev x=(s.ev x).sub1 e:=by
 cases x with
 |tmp t=>rfl
 |const v=>
  simp only[St.ev];unfold pvOf;split<;>simp only[PV.sub1]
 |func f=>
  simp only[St.ev];split<;>simp only[PV.sub1,subL1]
 |global g=>simp only[St.ev,PV.sub1]
theorem load_hit{e:Eff}{t:TypeId}{i off:Nat}:aLoad P (s.hit [e]).m t (.ptr i off)=(aLoad P s.m t (.ptr i off)).map (PV.sub1 e):=by
 have hsrc:aSrc (s.hit [e]).m (.ptr i off)=(aSrc s.m (.ptr i off)).map (List.map (PV.sub1 e)):=by
  by_cases hi:i<s.m.n
  ·simp only[aSrc,St.hit_n,hi,if_true];simp only[St.hit,BoxC.sub,List.foldl_cons,List.foldl_nil];cases s.m.β i with
   |cells l=>simp[BoxC.sub1,List.map_drop]
   |inv I=>rfl
   |hole=>rfl
  ·simp only[aSrc,St.hit_n,hi,if_false];rfl
 simp only[aLoad,hsrc];cases ha:aggT P t with
 |none=>cases aSrc s.m (.ptr i off)<;>rfl
 |some b=>
  cases hs:aSrc s.m (.ptr i off)with
  |none=>cases b<;>rfl
  |some cs=>
   cases b with
   |true=>
    simp only[Option.map_some,List.length_map];split
    ·simp only[Option.map_some,PV.sub1,subL1_eq,List.map_take]
    ·rfl
   |false=>cases cs<;>rfl
theorem hit_quiet{e:Eff}{v:PV}(hc:calmB o=true)(hv:pureV P s.m s.ev o=some v)(hq:quietOk pin late s o v):pureV P (s.hit [e]).m (s.hit [e]).ev o=some (v.sub1 e)/\quietOk pin late (s.hit [e]) o (v.sub1 e):=by
 unfold quietOk at hq;split at hq
 ·rename_i x hop;simp only[pureV,hop,Option.some.injEq]at hv⊢;subst hv;exact⟨ev_hit x,by simp only[quietOk,hop]⟩
 ·rename_i x hop;simp only[pureV,hop,Option.some.injEq]at hv⊢;subst hv;exact⟨ev_hit x,by simp only[quietOk,hop]⟩
 ·rename_i t x hop;obtain⟨i,off,h1,h2⟩:=hq;have hx:(s.hit [e]).ev x=.ptr i off:=by rw[ev_hit,h1];simp only[PV.sub1]
  simp only[pureV,hop]at hv⊢;rw[h1]at hv;rw[hx,load_hit,hv];exact⟨rfl,by simp only[quietOk,hop];exact⟨i,off,hx,h2⟩⟩
 ·rename_i h1 h2 h3;have he:∀x∈o.op.operands,(s.hit [e]).ev x=s.ev x:=λx hx=>by rw[ev_hit];exact solid_sub1 (hq.1 x hx) e
  have hnl:isLoad o=false:=by
   unfold isLoad;split
   ·rename_i t x hop;exact absurd hop (h3 t x)
   ·rfl
  rw[solid_sub1 hq.2 e];refine⟨by rw[pureV_congr he,pureV_mem hnl];exact hv,quiet_congr he ?_⟩;unfold quietOk;split
  ·trivial
  ·trivial
  ·rename_i t x hop;exact absurd hop (h3 t x)
  ·exact hq
theorem hit_quiet'{e:Eff}{v':PV}(hc:calmB o=true)(hv:pureV P (s.hit [e]).m (s.hit [e]).ev o=some v')(hq:quietOk pin late (s.hit [e]) o v'):∃v,pureV P s.m s.ev o=some v/\quietOk pin late s o v/\v'=v.sub1 e:=by
 unfold quietOk at hq;split at hq
 ·rename_i x hop;simp only[pureV,hop,Option.some.injEq]at hv⊢;subst hv;exact⟨_,rfl,by simp only[quietOk,hop],ev_hit x⟩
 ·rename_i x hop;simp only[pureV,hop,Option.some.injEq]at hv⊢;subst hv;exact⟨_,rfl,by simp only[quietOk,hop],ev_hit x⟩
 ·rename_i t x hop;obtain⟨i,off,h1,h2⟩:=hq;have hx:s.ev x=.ptr i off:=sub1_ptr_inv (by rw[←ev_hit];exact h1);simp only[pureV,hop]at hv⊢;rw[h1,load_hit]at hv;obtain⟨v,hv1,hv2⟩:=Option.map_eq_some_iff.1 hv;rw[hx];exact⟨v,hv1,by simp only[quietOk,hop];exact⟨i,off,hx,h2⟩,hv2.symm⟩
 ·rename_i h1 h2 h3;have hso:∀x∈o.op.operands,solidV (s.ev x):=λx hx=>sub1_solid_inv (e:=e) (by rw[←ev_hit];exact hq.1 x hx);have he:∀x∈o.op.operands,(s.hit [e]).ev x=s.ev x:=λx hx=>by rw[ev_hit];exact solid_sub1 (hso x hx) e
  have hnl:isLoad o=false:=by
   unfold isLoad;split
   ·rename_i t x hop;exact absurd hop (h3 t x)
   ·rfl
  refine⟨v',by rw[←pureV_congr he,←pureV_mem hnl];exact hv,?_,(solid_sub1 hq.2 e).symm⟩;unfold quietOk;split
  ·trivial
  ·trivial
  ·rename_i t x hop;exact absurd hop (h3 t x)
  ·exact⟨hso,hq.2⟩
theorem put_hit{d:Option Tmp}{v:PV}{e:Eff}:(s.put d v).hit [e]=(s.hit [e]).put d (v.sub1 e):=by
 cases d with
 |none=>rfl
 |some d=>
  simp only[St.put,St.hit];congr 1;funext t;by_cases h:t=d<;>simp[h,PV.sub]
theorem put_new{d d':Option Tmp}{v:PV}{sz m:Nat}{l:List PV}(h:dstEq d d'=false):(s.newArr d sz m l).put d' v=(s.put d' v).newArr d sz m l:=by
 unfold St.newArr;rw[put_comm h];cases d'<;>rfl
theorem app_quiet{d:Option Tmp}{f:St->St}{v:PV}(hf:AppF d f)(hc:calmB o=true)(hr:dstIn d (looks o)=false)(hd:dstEq d o.dst=false)(hv:pureV P s.m s.ev o=some v)(hq:quietOk pin late s o v):
  ∃v',pureV P (f s).m (f s).ev o=some v'/\quietOk pin late (f s) o v'/\(f s).put o.dst v'=f (s.put o.dst v):=by
 cases hf with
 |nil=>
  have he:=ev_put (s:=s) (v:=.snil) hr;exact⟨v,by rw[pureV_congr he,St.put_m];exact hv,quiet_congr he hq,put_comm hd⟩
 |new sz m l=>
  have he:∀x∈o.op.operands,(s.newArr d sz m l).ev x=s.ev x:=λx hx=>(ev_put (s:={ s with m:={ s.m with an:=s.m.an+1 } }) hr x hx).trans (by cases x<;>rfl);refine⟨v,?_,quiet_congr he hq,put_new hd⟩;rw[pureV_congr he];unfold isLoad at *;by_cases hl:isLoad o=true
  ·unfold isLoad at hl;split at hl
   ·rename_i t x hop;simp only[pureV,hop]at hv⊢;unfold quietOk at hq;rw[hop]at hq;simp only at hq;obtain⟨i,off,h1,_⟩:=hq;rw[h1]at hv⊢;simpa only[aLoad,aSrc,St.newArr_m]using hv
   ·cases hl
  ·rw[pureV_mem (m':=s.m) (by simpa using hl)];exact hv
 |kill id u=>
  obtain⟨h1,h2⟩:=hit_quiet (e:=.kill id) hc hv hq;have he:=ev_put (s:=s.hit [.kill id]) (v:=u) hr;refine⟨v.sub1 (.kill id),by rw[pureV_congr he,St.put_m];exact h1,quiet_congr he h2,?_⟩;show((s.hit [.kill id]).put d u).put o.dst (v.sub1 (.kill id))=((s.put o.dst v).hit [.kill id]).put d u;rw[put_hit,put_comm hd]
theorem app_quiet'{d:Option Tmp}{f:St->St}{v':PV}(hf:AppF d f)(hc:calmB o=true)(hr:dstIn d (looks o)=false)(hd:dstEq d o.dst=false)(hv:pureV P (f s).m (f s).ev o=some v')(hq:quietOk pin late (f s) o v'):
  ∃v,pureV P s.m s.ev o=some v/\quietOk pin late s o v/\f (s.put o.dst v)=(f s).put o.dst v':=by
 cases hf with
 |nil=>
  have he:=ev_put (s:=s) (v:=.snil) hr;exact⟨v',by rw[pureV_congr he,St.put_m]at hv;exact hv,quiet_congr (λx hx=>(he x hx).symm) hq,(put_comm hd).symm⟩
 |new sz m l=>
  have he:∀x∈o.op.operands,(s.newArr d sz m l).ev x=s.ev x:=λx hx=>(ev_put (s:={ s with m:={ s.m with an:=s.m.an+1 } }) hr x hx).trans (by cases x<;>rfl);have hq':=quiet_congr (λx hx=>(he x hx).symm) hq;refine⟨v',?_,hq',(put_new hd).symm⟩;rw[pureV_congr he]at hv;by_cases hl:isLoad o=true
  ·unfold isLoad at hl;split at hl
   ·rename_i t x hop;simp only[pureV,hop]at hv⊢;unfold quietOk at hq';rw[hop]at hq';simp only at hq';obtain⟨i,off,h1,_⟩:=hq';rw[h1]at hv⊢;simpa only[aLoad,aSrc,St.newArr_m]using hv
   ·cases hl
  ·rw[pureV_mem (m':=s.m) (by simpa using hl)]at hv;exact hv
 |kill id u=>
  have he:=ev_put (s:=s.hit [.kill id]) (v:=u) hr;rw[pureV_congr he,St.put_m]at hv;obtain⟨v,h1,h2,rfl⟩:=hit_quiet' (e:=.kill id) hc hv (quiet_congr (λx hx=>(he x hx).symm) hq);refine⟨v,h1,h2,?_⟩;show((s.put o.dst v).hit [.kill id]).put d u=((s.hit [.kill id]).put d u).put o.dst (v.sub1 (.kill id));rw[put_hit,put_comm hd]
theorem box_quiet{id:Nat}{l:List PV}{v:PV}(hl:isLoad o=true->late=true/\id≠pin)(hq:quietOk pin late s o v):pureV P (s.setBox id l).m (s.setBox id l).ev o=pureV P s.m s.ev o/\quietOk pin late (s.setBox id l) o v:=by
 have he:∀x∈o.op.operands,(s.setBox id l).ev x=s.ev x:=λx hx=>by cases x<;>rfl
 refine⟨?_,quiet_congr he hq⟩;rw[pureV_congr he];by_cases hl':isLoad o=true
 ·obtain⟨h1,h2⟩:=hl hl';unfold isLoad at hl';split at hl'
  ·rename_i t x hop;unfold quietOk at hq;rw[hop]at hq;simp only at hq;obtain⟨i,off,h3,h4⟩:=hq;have hi:=h4 h1;subst hi;simp only[pureV,hop,h3,aLoad,aSrc,St.setBox_m,updB_other _ _ _ _ (Ne.symm h2)]
  ·cases hl'
 ·exact pureV_mem (by simpa using hl')
theorem box_quiet'{id:Nat}{l:List PV}{v:PV}(hl:isLoad o=true->late=true/\id≠pin)(hq:quietOk pin late (s.setBox id l) o v):quietOk pin late s o v:=
 quiet_congr (λx hx=>by cases x<;>rfl) hq
theorem put_box{d:Option Tmp}{v:PV}{id:Nat}{l:List PV}:(s.put d v).setBox id l=(s.setBox id l).put d v:=by cases d<;>rfl
theorem dstEq_comm{d d':Option Tmp}(h:dstEq d d'=false):dstEq d' d=false:=by
 cases d<;>cases d'<;>simp_all[dstEq];exact λe=>h e.symm
theorem app_ev{d:Option Tmp}{v:PV}(ha:isApp o=true)(hr:dstIn d (looks o)=false)(h:appQ' P o (s.put d v) K):∃f,AppF o.dst f/\K (f (s.put d v))/\∀(s':St)(K':St->Prop),(∀x∈o.op.operands,s'.ev x=s.ev x)->K' (f s')->appQ' P o s' K':=by
 have he:=ev_put (s:=s) (v:=v) hr;unfold appQ' at h;split at h
 ·rename_i c hop;split at h
  ·rename_i t t' x y h1 h2;obtain⟨rfl,h⟩:=h;have hx:x∈o.op.operands/\y∈o.op.operands:=by
    rw[hop];have:c.args=#[x,y]:=by
     cases hc:c.args with
     |mk l=>rw[hc]at h2;simp only at h2;rw[h2]
    simp[Op.operands,Call.operands,this]
   rw[he x hx.1,he y hx.2]at h;obtain⟨f,hf,hk,hall⟩:=app_form h;refine⟨f,hf,hk,λs' K' hs' hk'=>?_⟩;unfold appQ';simp only[hop,h1,h2,hs' x hx.1,hs' y hx.2];exact⟨trivial,hall s' K' hk'⟩
  ·exact h.elim
 ·exact h.elim
theorem swap_ok{la lb:Bool}{a b:Oper}(hs:swapB la lb a b=true)(h:stepQ P pin la a s λs1=>stepQ P pin lb b s1 K):stepQ P pin lb b s λs1=>stepQ P pin la a s1 K:=by
 simp only[swapB,Bool.and_eq_true,Bool.not_eq_true',Bool.or_eq_true]at hs;obtain⟨⟨⟨⟨h1,h2⟩,h3⟩,h4⟩,h5⟩:=hs;cases haa:isApp a with
 |true=>
  have hb1:isApp b=false/\isStore b=false:=by simpa[haa]using h1
  rw[stepQ_app haa]at h;have h0:appQ' P a (s.put none .bad) (λs1=>stepQ P pin lb b s1 K):=h;obtain⟨f,hf,hk,hall⟩:=app_ev (d:=none) haa rfl h0;simp only[St.put_none]at hk;rw[stepQ_qui hb1.1 hb1.2]at hk;obtain⟨hc,v',k1,k2,k3⟩:=hk;obtain⟨v,g1,g2,g3⟩:=app_quiet' hf hc h3 h2 k1 k2;rw[stepQ_qui hb1.1 hb1.2];refine⟨hc,v,g1,g2,?_⟩;show stepQ P pin la a (s.put b.dst v) K;rw[stepQ_app haa];exact hall _ _ (ev_put h4) (by rw[g3];exact k3)
 |false=>
  cases has:isStore a with
  |true=>
   have hb1:isApp b=false/\isStore b=false:=by simpa[has]using h1
   rw[stepQ_sto haa has]at h;unfold stoQ at h;split at h
   ·rename_i t x y hop;obtain⟨hd,⟨id,off,hx,hl⟩,h⟩:=h;rw[hx]at h;simp only[aStore]at h;obtain⟨g1,g2,g3,g4,l,g5,g6,hk⟩:=h;rw[stepQ_qui hb1.1 hb1.2]at hk;obtain⟨hc,v,k1,k2,k3⟩:=hk;have hlb:isLoad b=true->lb=true/\id≠pin:=λe=>by
     rcases h5 with h5|h5
     ·simp[has,e]at h5
     ·exact⟨h5.2,hl h5.1⟩
    have q2:=box_quiet' hlb k2;have q1:=(box_quiet (P:=P) (l:=splice l off (s.ev y).cells) hlb q2).1;rw[q1]at k1;rw[stepQ_qui hb1.1 hb1.2];refine⟨hc,v,k1,q2,?_⟩;show stepQ P pin la a (s.put b.dst v) K;rw[stepQ_sto haa has];unfold stoQ;have hxo:x∈a.op.operands/\y∈a.op.operands:=by rw[hop];simp[Op.operands]
    have he:=ev_put (s:=s) (v:=v) h4;simp only[hop,he x hxo.1,he y hxo.2,hx,aStore,St.put_m];exact⟨hd,⟨id,off,rfl,hl⟩,g1,g2,g3,g4,l,g5,g6,by rw[put_box];exact k3⟩
   ·exact h.elim
  |false=>
   rw[stepQ_qui haa has]at h;obtain⟨hca,va,ka1,ka2,hk⟩:=h;have hea:=ev_put (s:=s) (v:=va) h3;cases hba:isApp b with
   |true=>
    rw[stepQ_app hba]at hk;obtain⟨f,hf,hk,hall⟩:=app_ev hba h3 hk;obtain⟨v',g1,g2,g3⟩:=app_quiet hf hca h4 (dstEq_comm h2) ka1 ka2;rw[stepQ_app hba];refine hall _ _ (λx hx=>rfl) ?_;show stepQ P pin la a (f s) K;rw[stepQ_qui haa has];exact⟨hca,v',g1,g2,by rw[g3];exact hk⟩
   |false=>
    cases hbs:isStore b with
    |true=>
     rw[stepQ_sto hba hbs]at hk;unfold stoQ at hk;split at hk
     ·rename_i t x y hop;have hxo:x∈b.op.operands/\y∈b.op.operands:=by rw[hop];simp[Op.operands]
      simp only[hea x hxo.1,hea y hxo.2]at hk;obtain⟨hd,⟨id,off,hx,hl⟩,hk⟩:=hk;rw[hx]at hk;simp only[aStore,St.put_m]at hk;obtain⟨g1,g2,g3,g4,l,g5,g6,hk⟩:=hk;have hla:isLoad a=true->la=true/\id≠pin:=λe=>by
       rcases h5 with h5|h5
       ·simp[hbs,e]at h5
       ·exact⟨h5.1,hl h5.2⟩
      obtain⟨q1,q2⟩:=box_quiet (P:=P) (l:=splice l off (s.ev y).cells) hla ka2;rw[stepQ_sto hba hbs];unfold stoQ;simp only[hop,hx,aStore];refine⟨hd,⟨id,off,rfl,hl⟩,g1,g2,g3,g4,l,g5,g6,?_⟩;show stepQ P pin la a (s.setBox id (splice l off (s.ev y).cells)) K;rw[stepQ_qui haa has];exact⟨hca,va,by rw[q1];exact ka1,q2,by rw[←put_box];exact hk⟩
     ·exact hk.elim
    |false=>
     rw[stepQ_qui hba hbs]at hk;obtain⟨hcb,vb,kb1,kb2,hk⟩:=hk;rw[pureV_congr hea,St.put_m]at kb1;have kb2':=quiet_congr (λx hx=>(hea x hx).symm) kb2;have heb:=ev_put (s:=s) (v:=vb) h4;rw[stepQ_qui hba hbs];refine⟨hcb,vb,kb1,kb2',?_⟩;show stepQ P pin la a (s.put b.dst vb) K;rw[stepQ_qui haa has];exact⟨hca,va,by rw[pureV_congr heb,St.put_m];exact ka1,quiet_congr heb ka2,by rw[put_comm (dstEq_comm h2)];exact hk⟩
end
structure OrdP(ops:Array Oper)(lt:Nat->Bool)(M:List Nat):Prop where
 guard:∀(i:Nat)(o:Oper),ops[i]?=some o->o.guard=none
 mask:∀(i:Nat)(o:Oper),ops[i]?=some o->M.getD i 0=maskOf M o
 back:∀(i:Nat)(o:Oper),ops[i]?=some o->∀e∈o.after,bindsAny e=true->e.on<i
 pair:∀(i:Nat)(o:Oper)(j:Nat)(a:Oper),ops[i]?=some o->ops[j]?=some a->j<i->anc M i j=true\/swapB (lt j) (lt i) a o=true
theorem pairsB_ok{lt:Nat->Bool}{M:List Nat}{i:Nat}{o:Oper}:∀{R:List Oper}{j0:Nat},pairsB lt M i o R j0=true->∀k a,R[k]?=some a->j0+k<i->anc M i (j0+k)=true\/swapB (lt (j0+k)) (lt i) a o=true
 |[],_,_,k,a,hk,_=>by simp at hk
 |b::R,j0,h,k,a,hk,hlt=>by
  simp only[pairsB,Bool.and_eq_true,Bool.or_eq_true,Nat.ble_eq]at h;cases k with
  |zero=>
   simp at hk;subst hk;rcases h.1 with(h|h)|h
   ·omega
   ·exact .inl h
   ·exact .inr h
  |succ k=>
   have:=pairsB_ok h.2 k a (by simpa using hk) (by omega);rwa[show j0+1+k=j0+(k+1)by omega]at this
theorem orderGo_ok{ops:List Oper}{lt:Nat->Bool}{M:List Nat}:∀{R:List Oper}{i0:Nat},orderGo ops lt M R i0=true->∀k o,R[k]?=some o->o.guard=none/\M.getD (i0+k) 0=maskOf M o/\(∀e∈o.after,bindsAny e=true->e.on<i0+k)/\pairsB lt M (i0+k) o ops 0=true
 |[],_,_,k,o,hk=>by simp at hk
 |b::R,i0,h,k,o,hk=>by
  simp only[orderGo,Bool.and_eq_true,beq_iff_eq,List.all_eq_true,Bool.or_eq_true,Bool.not_eq_true',Nat.blt_eq]at h;obtain⟨⟨⟨⟨h1,h2⟩,h3⟩,h4⟩,h5⟩:=h;cases k with
  |zero=>
   simp at hk;subst hk;refine⟨by cases hg:b.guard<;>simp[hg]at h1⊢,h2,λe he hb=>?_,h4⟩;rcases h3 e (by simpa using he)with h|h
   ·rw[hb]at h;cases h
   ·exact h
  |succ k=>
   have:=orderGo_ok h5 k o (by simpa using hk);rwa[show i0+1+k=i0+(k+1)by omega]at this
theorem ordP_of{ops:Array Oper}{lt:Nat->Bool}(h:orderB ops lt=true):∃M,OrdP ops lt M:=by
 refine⟨ancGo ops.toList [],?_,?_,?_,?_⟩
 ·intro i o hi;exact(orderGo_ok h i o (by rw[Array.getElem?_toList];exact hi)).1
 ·intro i o hi;have:=(orderGo_ok h i o (by rw[Array.getElem?_toList];exact hi)).2.1;simpa using this
 ·intro i o hi e he hb;have:=(orderGo_ok h i o (by rw[Array.getElem?_toList];exact hi)).2.2.1 e he hb;simpa using this
 ·intro i o j a hi hj hlt;have h4:=(orderGo_ok h i o (by rw[Array.getElem?_toList];exact hi)).2.2.2;rw[Nat.zero_add]at h4;have:=pairsB_ok h4 j a (by rw[Array.getElem?_toList];exact hj) (by omega);rwa[Nat.zero_add]at this
theorem anc_in'{ops:Array Oper}{lt:Nat->Bool}{M:List Nat}{L:Nat->Prop}(hp:OrdP ops lt M)(hc:Closed ops L):∀i o,ops[i]?=some o->(∀e∈o.after,bindsAny e=true->L e.on)->∀j,anc M i j=true->L j:=by
 intro i;induction i using Nat.strongRecOn with
 |_ i ih=>
  intro o hi ha j hj;unfold anc at hj;rw[hp.mask i o hi]at hj;rcases mask_mem _ _ _ hj with h|⟨e,h1,h2,h3⟩
  ·simp at h
  ·have h1':e∈o.after:=by simpa using h1
   have hL:=ha e h1' h2;rcases h3 with rfl|h3
   ·exact hL
   ·have hlt:=hp.back i o hi e h1' h2;have hs:=(Array.getElem?_eq_some_iff.1 hi).1;have he:ops[e.on]?=some (ops[e.on]'(by omega)):=by simp
    exact ih e.on hlt _ he (λe' he' hb=>hc _ _ he hL e' he' hb) j h3
def restQ(l:Array Bool):List Oper->Nat->List (Nat×Oper)
 |[],_=>[]
 |o::R,i=>if l.getD i false=true then restQ l R (i+1)else(i,o)::restQ l R (i+1)
theorem restQ_set{l:Array Bool}{k:Nat}(hk:k<l.size):∀(R:List Oper)(i:Nat),k<i->restQ (l.setIfInBounds k true) R i=restQ l R i
 |[],_,_=>rfl
 |o::R,i,h=>by
  have e:(l.setIfInBounds k true).getD i false=l.getD i false:=getD_set_ne false (by omega);simp only[restQ,e,restQ_set hk R (i+1) (by omega)]
theorem restQ_split{l:Array Bool}{k:Nat}{o:Oper}(hk:k<l.size)(hl:l.getD k false=false):∀(R:List Oper)(i:Nat),i<=k->R[k-i]?=some o->∃r1 r2,restQ l R i=r1++(k,o)::r2/\restQ (l.setIfInBounds k true) R i=r1++r2/\∀p∈r1,i<=p.1/\p.1<k/\R[p.1-i]?=some p.2/\l.getD p.1 false=false
 |[],i,_,h=>by simp at h
 |a::R,i,hi,h=>by
  by_cases hik:i=k
  ·subst hik;simp at h;subst h;refine⟨[],restQ l R (i+1),?_,?_,by simp⟩
   ·simp only[restQ,hl];rfl
   ·have e:(l.setIfInBounds i true).getD i false=true:=by simp[Array.getD_eq_getD_getElem?,hk]
    simp only[restQ,e,if_true,List.nil_append];exact restQ_set hk R (i+1) (by omega)
  ·obtain⟨r1,r2,h1,h2,h3⟩:=restQ_split hk hl R (i+1) (by omega) (by rw[show k-i=(k-(i+1))+1 by omega]at h;simpa using h);have e:(l.setIfInBounds k true).getD i false=l.getD i false:=getD_set_ne false (by omega);have hsub:∀p∈r1,i<=p.1/\p.1<k/\(a::R)[p.1-i]?=some p.2/\l.getD p.1 false=false:=λp hp=>by
    obtain⟨g1,g2,g3,g4⟩:=h3 p hp;refine⟨by omega,g2,?_,g4⟩;rw[show p.1-i=(p.1-(i+1))+1 by omega];simpa using g3
   cases hl2:l.getD i false with
   |true=>
    refine⟨r1,r2,?_,?_,hsub⟩
    ·simp only[restQ,hl2,if_true];exact h1
    ·simp only[restQ,e,hl2,if_true];exact h2
   |false=>
    refine⟨(i,a)::r1,r2,?_,?_,λp hp=>?_⟩
    ·simp only[restQ,hl2,Bool.false_eq_true,if_false,h1,List.cons_append]
    ·simp only[restQ,e,hl2,Bool.false_eq_true,if_false,h2,List.cons_append]
    ·rcases List.mem_cons.1 hp with rfl|hp
     ·exact⟨Nat.le_refl _,by omega,by simp,hl2⟩
     ·exact hsub p hp
theorem restQ_nil{l:Array Bool}:∀(R:List Oper)(i:Nat),(∀k,k<R.length->l.getD (i+k) false=true)->restQ l R i=[]
 |[],_,_=>rfl
 |o::R,i,h=>by
  have:=h 0 (by simp);simp only[Nat.add_zero]at this;simp only[restQ,this,if_true];exact restQ_nil R (i+1) λk hk=>by have:=h (k+1) (by simp;omega);rwa[show i+(k+1)=i+1+k by omega]at this
section
variable{P:Program}{pin:Nat}{s:St}{K:St->Prop}{lt:Nat->Bool}
theorem front_ok{i:Nat}{o:Oper}{r2:List (Nat×Oper)}:∀(r1:List (Nat×Oper)){s:St},(∀p∈r1,swapB (lt p.1) (lt i) p.2 o=true)->seqQ P pin lt (r1++(i,o)::r2) s K->stepQ P pin (lt i) o s λs'=>seqQ P pin lt (r1++r2) s' K
 |[],s,_,h=>h
 |(j,a)::r1,s,hs,h=>by
  have h:stepQ P pin (lt j) a s λs'=>seqQ P pin lt (r1++(i,o)::r2) s' K:=h;have h2:=stepQ_mono (λs' h'=>front_ok r1 (λp hp=>hs p (by simp[hp])) h') h;exact swap_ok (hs (j,a) (by simp)) h2
theorem step_opW{late:Bool}{o:Oper}(h:stepQ P pin late o s K):opW P s o K:=by
 cases ha:isApp o with
 |true=>
  rw[stepQ_app ha]at h;unfold appQ' at h;unfold isApp at ha;split at ha
  ·rename_i c hop;split at ha
   ·rename_i hcal;simp only[hop]at h;split at h
    ·rename_i t t' x y h1 h2;obtain⟨rfl,h⟩:=h;simp only[opW,hop,hcal,h1,h2];exact⟨trivial,h⟩
    ·exact h.elim
   ·cases ha
  ·cases ha
 |false=>
  cases hs:isStore o with
  |true=>
   rw[stepQ_sto ha hs]at h;unfold stoQ at h;split at h
   ·rename_i t x y hop;simp only[opW,hop];exact⟨h.1,h.2.2⟩
   ·exact h.elim
  |false=>
   rw[stepQ_qui ha hs]at h;obtain⟨hc,v,hv,_,hk⟩:=h;by_cases hb:∃t l p,o.op=.buildSlice t l p
   ·obtain⟨t,len,parts,hop⟩:=hb;simp only[pureV,hop]at hv;split at hv
    ·rename_i e hu;split at hv
     ·rename_i z hz;split at hv
      ·rename_i hcd;obtain⟨cs,h1,rfl⟩:=Option.map_eq_some_iff.1 hv;simp only[opW,hop,hu,Option.elim_some,hz];exact⟨hcd.1,hcd.2.1,hcd.2.2.1,hcd.2.2.2,cs,h1,.inr (.inl hk)⟩
      ·cases hv
     ·cases hv
    ·cases hv
   ·exact pure_opW (m0:=s.m) ⟨Nat.le_refl _,λ_ _=>rfl⟩ hv (λt l p e=>hb ⟨t,l,p,e⟩) hk
theorem any_of_seq{ops:Array Oper}{M:List Nat}(hp:OrdP ops lt M):∀(m:Nat)(l:Array Bool){s:St},l.size=ops.size->left l<=m->Closed ops (Lst l)->seqQ P pin lt (restQ l ops.toList 0) s K->anyW P ops m l s K:=by
 classical
 have hall:∀{l:Array Bool},l.size=ops.size->Region.ready .any ops l=[]->restQ l ops.toList 0=[]:=by
  intro l hsz hnil;have:∀i,i<ops.size->Lst l i:=by
   intro i;induction i using Nat.strongRecOn with
   |_ i ih=>
    intro hi;apply Decidable.byContradiction;intro hn;have:i∈Region.ready .any ops l:=mem_ready.2 ⟨(lst_false (by omega)).2 hn,ops[i],by simp[hi],λe he hb=>ih e.on (hp.back i ops[i] (by simp[hi]) e he hb) (by have:=hp.back i ops[i] (by simp[hi]) e he hb;omega)⟩;rw[hnil]at this;cases this
  exact restQ_nil _ _ λk hk=>by rw[Nat.zero_add];exact this k (by simpa using hk)
 intro m;induction m with
 |zero=>
  intro l s hsz hl hc h;have hnil:Region.ready .any ops l=[]:=by
   cases he:Region.ready .any ops l with
   |nil=>rfl
   |cons i is=>
    exfalso;have hm:i∈Region.ready .any ops l:=by rw[he];simp
    obtain⟨h1,o,ho,h2⟩:=mem_ready.1 hm;have hi:i<l.size:=by rw[hsz];exact(Array.getElem?_eq_some_iff.1 ho).1
    have:=left_pos hi ((lst_false hi).1 h1);omega
  rw[hall hsz hnil]at h;exact⟨hnil,h⟩
 |succ m ih=>
  intro l s hsz hl hc h;refine⟨λhnil=>by rw[hall hsz hnil]at h;exact h,λi hi o ho=>?_⟩;obtain⟨h1,o',ho',h2⟩:=mem_ready.1 hi;rw[ho]at ho';injection ho' with ho';subst ho';have hlt:i<l.size:=by rw[hsz];exact(Array.getElem?_eq_some_iff.1 ho).1
  have hnl:=(lst_false hlt).1 h1;have hnf:l.getD i false=false:=by simpa[Lst]using hnl
  obtain⟨r1,r2,g1,g2,g3⟩:=restQ_split (o:=o) hlt hnf ops.toList 0 (Nat.zero_le _) (by rw[Nat.sub_zero,Array.getElem?_toList];exact ho);rw[g1]at h;have hsw:∀p∈r1,swapB (lt p.1) (lt i) p.2 o=true:=λp hpr=>by
   obtain⟨_,k2,k3,k4⟩:=g3 p hpr;rw[Nat.sub_zero,Array.getElem?_toList]at k3;rcases hp.pair i o p.1 p.2 ho k3 k2 with h|h
   ·have:=anc_in' hp hc i o ho h2 p.1 h;unfold Lst at this;rw[k4]at this;cases this
   ·exact h
  have h3:=front_ok r1 hsw h;have hset:left (l.setIfInBounds i true)<=m:=by have:=left_set hlt hnl;omega
  have hc':Closed ops (Lst (l.setIfInBounds i true)):=λk o' hk hL e he hb=>by
   rw[lst_set hlt]at hL⊢;rcases hL with hL|rfl
   ·exact .inl (hc k o' hk hL e he hb)
   ·rw[ho]at hk;injection hk with hk;subst hk;exact .inl (h2 e he hb)
  simp only[opsW];unfold guardW;rw[hp.guard i o ho];refine⟨s,Silent.refl s,step_opW (stepQ_mono (λs' h'=>?_) h3)⟩;rw[←g2]at h';exact ih _ (by simpa using hsz) hset hc' h'
end
end
end Go.Proofs.Ytjfejoadcdoobaa
