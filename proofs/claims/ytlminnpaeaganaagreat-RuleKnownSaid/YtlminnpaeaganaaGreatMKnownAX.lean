/- Part of the proof of RuleKnown. No condition. -/
import Derived.Test.YtlminnpaeaganaaGreatMKnownAP
import Derived.Test.YtlminnpaeaganaaGreatMKnownAR
import Derived.Test.YtlminnpaeaganaaGreatMKnownAW
namespace Go.Proofs.YtlminnpaeaganaaGreat
set_option maxRecDepth 100000
set_option linter.all false
section
open Go Go.RowKit
variable[cQ]
section
variable{X:Ctx}{W:Hints}{F:cP}{C:b2->FuncId->List aa->Option aa}{n:Nat}{S br:Sym}{ρ b1:List aa}{ids dK:Nat->Option Nat}{s s':aA}
theorem HJ(ys:List cj)(y:Nat)(b:Bool)(e:Option (Option Nat)):(tg ys y b e).map cj.core=ys.map cj.core:=by
 unfold tg;split
 ·rename_i r ad;refine List.ext_getElem? λi=>?_;simp only[List.getElem?_map,List.getElem?_set];split
  ·rename_i aX;subst aX;split
   ·rw[ad];rfl
   grind
  ·rfl
 ·rfl
theorem D6{α:Type}:∀{L:List α}{i:Nat}{x:α}(_:L[i]?=some x)(bk:α),L=L.take i++x::L.drop (i+1)/\L.set i bk=L.take i++bk::L.drop (i+1)
 |[],i,x,h,bk=>by simp at h
 |a::L,0,x,h,bk=>by grind
 |a::L,i+1,x,h,bk=>by
  obtain⟨U,ab⟩:=D6 (L:=L) (i:=i) (by simpa using h) bk;grind
theorem Py:∀{ys:List cj}{l:List eN}{y:Nat}{r:cj}{eE:eN}(_:ys[y]?=some r)(_:l[y]?=some eE)(b:Bool)(e:Option (Option Nat)),List.zipWith cj.now (ys.set y { r with pend:=e,busy:=b }) l=(List.zipWith cj.now ys l).set y (cj.now { r with pend:=e,busy:=b } eE)
 |[],l,y,r,eE,h,_,b,e=>by simp at h
 |a::ys,[],y,r,eE,_,h,b,e=>by simp at h
 |a::ys,c::l,0,r,eE,h,bc,b,e=>by simp_all
 |a::ys,c::l,y+1,r,eE,h,bc,b,e=>by
  simp ;rw[Py (by grind) (by simpa using bc) b e]
theorem Iq{ys:List cj}{rc:List (Nat×Loop)}(h:lW F ys ρ rc){y:Nat}{r:cj}{eE:eN}(aF:ys[y]?=some r)(ad:F.cV.ys[y]?=some eE):
  ∃rc1 rc2,rc=rc1++cj.now r eE::rc2/\(∀p∈rc1++rc2,p.1≠eE.l)/\∀b e,List.zipWith cj.now (tg ys y b e) F.cV.ys++F.kv=rc1++cj.now { r with pend:=e,busy:=b } eE::rc2:=by
 have dg:(List.zipWith cj.now ys F.cV.ys)[y]?=some (cj.now r eE):=by grind
 have get:∀(i:Nat) p,(List.zipWith cj.now ys F.cV.ys)[i]?=some p->i≠y->p.1≠eE.l:=by
  intro i p ae aX;simp only[List.getElem?_zipWith]at ae;cases U:ys[i]? with
  |none=>grind
  |some jh=>
   cases ab:F.cV.ys[i]? with
   |none=>grind
   |some eh=>
    rw[U,ab]at ae;simp  at ae;subst ae;exact λe=>aX (h.ne i y eh eE ab ad e)
 refine⟨(List.zipWith cj.now ys F.cV.ys).take y,(List.zipWith cj.now ys F.cV.ys).drop (y+1)++F.kv,?_,λp ae=>?_,λb e=>?_⟩
 ·have:=(D6 dg (cj.now r eE)).1;rw[h.rc,←List.cons_append,←List.append_assoc,←this]
 ·simp  at ae;rcases ae with ae|ae|ae
  ·grind [List.mem_iff_getElem?]
  ·grind [List.mem_iff_getElem?]
  ·exact h.zK eE (List.mem_of_getElem? ad) p ae
 ·have aK:tg ys y b e=ys.set y { r with pend:=e,busy:=b }:=by grind [tg]
  rw[aK,Py aF ad b e,(D6 dg (cj.now { r with pend:=e,busy:=b } eE)).2];simp
theorem adZ(h:Rel F S ρ ids s){Y:List cj}{rc:List (Nat×Loop)}(fb:lW F Y ρ rc):Rel F ({ S with ys:=Y }:Sym) ρ ids { s with m:={ s.m with rc:=rc } }:=
 ⟨h.len,h.cU,h.slot,h.dt,h.old,h.box,h.hO,h.mv,h.arr,h.a0,h.cV,h.kY,h.bb,h.new,h.keep,h.dO,h.lG,h.mS,h.an,h.kZ,fb⟩
def IT(X:Ctx)(C:b2->FuncId->List aa->Option aa)(n:Nat)(inl:fh):Prop:=
 ∀(F:cP)(R:Out->Prop)(key:Nat)(g:FuncId)(args:List aL)(K:aL->Sym->M)(S:Sym)(ρ:List aa)(ids:Nat->Option Nat)(t:Tree)(bz:List aa)(ys:List eN)(m:Mem),
  F.P=X.P->jq X.P F.DI C->mu X.P F.DI X.hI->p7 X F.DI C->inl key g args S K=.ok t->args.length=bz.length->(∀site,Rel F (S.sub (hj 0 args) site) ρ ids (wE ys bz m))->bN X.P C n t ρ R ->
  qR X.P ys g bz m λq E m'=>∃v br b1 dK s' bw,E=s'.bb/\m'=s'.m/\K v (S.back br)=.ok bw/\Rel F br b1 dK s'/\bZ F (br.env b1 dK) v q/\bN X.P C n bw b1 R/\∃g site,Ext (S.sub g site) ρ br b1
theorem Mp{inl:fh}(h:IT X C n inl):JR X C n inl:=by
 intro F R key g args K S ρ ids s t bz aw hC gq fe bq ad au aB;refine(h (F.sub S ρ ids s s.c7) R key g args K S ρ ids t bz s.c7 s.m aw hC gq fe bq (AV au).1 (λsite=>acA ad au site) aB).mono ?_;rintro q E m' ⟨v,br,b1,dK,s',bw,rfl,rfl,k1,k2,bP,cX,g0,site,fi⟩;obtain⟨fj,gB⟩:=acC ad k2 fi.pre fi.base fi.dO fi.ys fi.bx;exact⟨v,_,b1,dK,bw,k1,fj,yV (Hm ad.a0 S ρ ids) bP,cX,gB⟩
theorem XT(l:List (Nat×aL))(t:Nat):(cF (mapA aL.kI l) t).jS=cF (mapA aL.kI l) t:=by
 have e:cF (mapA aL.kI l) t=(cF l t).kI:=hJ (by simp[aL.kI,aL.owns]) _ t;rw[e];rcases ME (cF l t)with h|⟨h,bc⟩
 ·rw[h];simp only[aL.jS]
 ·rw[h,bc]
theorem Mq{inl:fh}(iM:IT X C n inl):SS X C n inl:=by
 intro F R f bq a7 a b p K S ρ ids s t aw hC gq fe h ad aB;unfold HK at h;split at h
 ·rename_i g bf aN;split at h
  ·rename_i fn dX;split at h
   ·cases h
   ·rename_i hs;have eH:=ad.ay bq;rw[aN]at eH;unfold bZ at eH;obtain⟨aG,e,ak⟩:=eH;have hlen:=ad.rc.len;have mB:=QN ad.a0;refine VQ (rc1:=List.zipWith cj.now S.ys F.cV.ys) (rc2:=F.kv) e ⟨fn,dX,λe=>hs (.inl e),(by cases hb:fn.body<;>simp[hb]at hs⊢)⟩ ad.rc.rc ?_;intro l o U ab al aJ bm bI cS et gp;have mH:=Dy ad.a0 S ρ ids [⟨l,o,s.g⟩];have FB:=EM ad;have agD:cj.now ⟨mapA aL.kI S.g,f,a7.toList,a,b,p,none,false⟩ ⟨l,o,s.g⟩=(l,o):=by
     obtain⟨st,mJ,cC,amO,pa,amU,amP,amQ⟩:=o;simp only at aJ bm;subst aJ;subst bm;rfl
    have c1:∀(i:Nat) r,s.c7[i]?=some r->r.l≠l:=λi r aX=>by
     have aU:=(List.getElem?_eq_some_iff.1 aX).1;have aF:S.ys[i]?=some S.ys[i]:=by simp
     have hm:(List.zipWith cj.now S.ys s.c7)[i]?=some (cj.now S.ys[i] r):=by rw[List.getElem?_zipWith,aF,aX]
     refine gp (cj.now S.ys[i] r) ?_;have aK:s.m.rc=List.zipWith cj.now S.ys s.c7++F.kv:=FB.rc;rw[aK];exact List.mem_append_left _ (List.mem_of_getElem? hm)
    have fb:lW (F.sub S ρ ids s (s.c7++[⟨l,o,s.g⟩])) (S.ys++[⟨mapA aL.kI S.g,f,a7.toList,a,b,p,none,false⟩]) ρ (List.zipWith cj.now S.ys F.cV.ys++(l,o)::F.kv):=by
     refine⟨List.prefix_refl _,by show _=(s.c7++_).length;simp;omega,?_,λi y r aF j3=>?_,λi j r bR aX aC sh=>?_,λr j3 q aH=>?_⟩
     ·show _=List.zipWith cj.now _ (s.c7++_)++F.kv;rw[List.zipWith_append (by omega),sE ad.a0,wx];simp[agD]
     ·have j3:(s.c7++[⟨l,o,s.g⟩])[i]?=some r:=j3;rcases Nat.lt_or_ge i S.ys.length with aX|aX
      ·rw[List.getElem?_append_left aX]at aF;rw[List.getElem?_append_left (by omega),sE ad.a0]at j3;simp only[aA.qZ,List.getElem?_map]at j3;obtain⟨r0,U,rfl⟩:=Option.map_eq_some_iff.1 j3;exact IQ ad (ad.rc.y i y r0 aF U) _
      ·rw[List.getElem?_append_right aX]at aF;rw[List.getElem?_append_right (by omega)]at j3;have jX:i-S.ys.length=0:=by
        have:=(List.getElem?_eq_some_iff.1 aF).1;simp at this;omega
       rw[jX]at aF;rw[show i-s.c7.length=0 by omega]at j3;simp at aF j3;subst aF;subst j3;refine⟨by show o.params.toList=_;rw[U],ab,al,bI,cS,et,XT S.g,λt=>?_⟩;have aK:cF (mapA aL.kI S.g) t=(S.get t).kI:=hJ (by simp[aL.kI,aL.owns]) _ t;show bZ _ _ (cF (mapA aL.kI S.g) t) (s.g t);rw[aK];have hb:=ad.dt;have:=Oy (F:=F) (E:=S.env ρ ids) (E':=⟨ρ,[],s.m.n-F.n0,λ_=>none⟩) [] (List.prefix_refl _) (by show S.bx.length<=s.m.n-F.n0;omega) (ad.slot t);exact yV mH this
     ·have aX:(s.c7++[⟨l,o,s.g⟩])[i]?=some r:=aX;have aC:(s.c7++[⟨l,o,s.g⟩])[j]?=some bR:=aC;have key:∀(i:Nat) r,(s.c7++[⟨l,o,s.g⟩])[i]?=some r->s.c7[i]?=some r\/(i=s.c7.length/\r.l=l):=λi r aX=>by
       rcases Nat.lt_or_ge i s.c7.length with h|h
       ·rw[List.getElem?_append_left h]at aX;exact .inl aX
       ·rw[List.getElem?_append_right h]at aX;have jX:i-s.c7.length=0:=by
         have:=(List.getElem?_eq_some_iff.1 aX).1;simp at this;omega
        rw[jX]at aX;simp at aX;subst aX;exact .inr ⟨by omega,rfl⟩
      rcases key i r aX with aX|⟨aX,oN⟩<;>rcases key j bR aC with aC|⟨aC,tl⟩
      ·exact FB.ne i j r bR aX aC sh
      ·exact absurd (sh.trans tl) (c1 i r aX)
      ·exact absurd (sh.symm.trans oN) (c1 j bR aC)
      ·omega
     ·have j3:r∈s.c7++[⟨l,o,s.g⟩]:=j3;simp only[List.mem_append,List.mem_singleton]at j3;rcases j3 with j3|rfl
      ·exact FB.zK r j3 q aH
      ·have aH:q∈F.kv:=aH;exact gp q (by rw[ad.rc.rc];exact List.mem_append_right _ aH)
    have qb:jd (F.sub S ρ ids s (s.c7++[⟨l,o,s.g⟩])) (S.env ρ ids) (.cq S.ys.length::bf) (.cq l::aG):=by
     refine⟨_,_,rfl,?_,Er mH (yj ak)⟩;simp only[bZ];refine⟨l,?_,rfl⟩;show(s.c7++[⟨l,o,s.g⟩])[S.ys.length]?.map eN.l=some l;rw[List.getElem?_append_right (by omega),show S.ys.length-s.c7.length=0 by omega];rfl
    have bQ:=(AV qb).1;refine(iM (F.sub S ρ ids s (s.c7++[⟨l,o,s.g⟩])) R _ g _ _ ({ S with ys:=S.ys++[⟨mapA aL.kI S.g,f,a7.toList,a,b,p,none,false⟩] }:Sym) ρ ids t (.cq l::aG) (s.c7++[⟨l,o,s.g⟩]) { s.m with rc:=List.zipWith cj.now S.ys F.cV.ys++(l,o)::F.kv } aw hC gq fe h bQ (λsite=>Ip ad mH fb (QO qb) site) aB).mono ?_;rintro q E m' ⟨v,br,b1,dK,s',bw,rfl,rfl,k1,k2,bP,cX,g0,site,fi⟩;have k1:(match br.ys[S.ys.length]? with
     |some y=>if y.busy then die "range" else K (xl y.pend) { S.back br with bx:=br.bx.map (ga.map (aL.qx S.ys.length)),ys:=br.ys.take S.ys.length }
     |none=>die "range")=.ok bw:=k1
    split at k1
    ·rename_i mK vm;split at k1
     ·cases k1
     ·rename_i JF;have BG:br.ys.map cj.core=(S.ys++[(⟨mapA aL.kI S.g,f,a7.toList,a,b,p,none,false⟩:cj)]).map cj.core:=fi.ys;have afe:br.ys.length=S.ys.length+1:=by
       have:=congrArg List.length BG;simpa using this
      have tw:br.ys=br.ys.take S.ys.length++[mK]:=by
       have:=(D6 vm mK).1;rwa[List.drop_eq_nil_of_le (by omega)]at this
      have SU:(br.ys.take S.ys.length).map cj.core=S.ys.map cj.core:=by rw[List.map_take,BG,List.map_append,←@List.length_map _ _ S.ys cj.core,List.take_left]
      have agE:s'.m.rc=List.zipWith cj.now (br.ys.take S.ys.length) F.cV.ys++cj.now mK ⟨l,o,s.g⟩::F.kv:=by
       rw[k2.rc.rc];show List.zipWith cj.now br.ys (s.c7++[⟨l,o,s.g⟩])++F.kv=_;rw[show List.zipWith cj.now br.ys (s.c7++[⟨l,o,s.g⟩])=List.zipWith cj.now (br.ys.take S.ys.length++[mK]) (s.c7++[⟨l,o,s.g⟩])from by rw[←tw],List.zipWith_append (by simp;omega),sE ad.a0,wx];simp only[List.zipWith_cons_cons,List.zipWith_nil_left,List.append_assoc,List.cons_append,List.nil_append]
      have bU:∀p∈List.zipWith cj.now (br.ys.take S.ys.length) F.cV.ys++F.kv,p.1≠l:=by
       intro p ae;simp only[List.mem_append]at ae;rcases ae with ae|ae
       ·obtain⟨i,aX⟩:=List.mem_iff_getElem?.1 ae;rw[←wx (s:=s),←sE ad.a0]at aX;simp only[List.getElem?_zipWith]at aX;cases ab:s.c7[i]? with
        |none=>rw[ab]at aX;cases al:(br.ys.take S.ys.length)[i]?<;>rw[al]at aX<;>simp at aX
        |some eh=>
         cases al:(br.ys.take S.ys.length)[i]? with
         |none=>rw[ab,al]at aX;simp at aX
         |some jh=>
          rw[ab,al]at aX;simp only[Option.some.injEq]at aX;subst aX;exact c1 i eh ab
       ·exact gp p (by rw[ad.rc.rc];exact List.mem_append_right _ ae)
      obtain⟨fj,gB⟩:=HI (bx:=br.bx.map (ga.map (aL.qx S.ys.length))) (Y:=br.ys.take S.ys.length) ad k2 fi.pre fi.base fi.dO fi.bx (by simp) (λi b hb=>by
       rw[List.getElem?_map]at hb;obtain⟨gf,ix,rfl⟩:=Option.map_eq_some_iff.1 hb;exact adY (Zi ad.a0 S ρ ids _ (by omega)) (k2.box i gf ix)) (ad.rc.Gf SU fi.pre) SU
      refine⟨if mK.busy then .busy else if mK.pend.isSome then .done else .ready,xl mK.pend,_,_,agE,?_,bU,_,b1,dK,bw,k1,fj,cX,gB⟩;rw[if_neg JF];split<;>simp
    ·cases k1
  ·cases h
 ·cases h
theorem RL{F:cP}{E:Env}:∀(a7:List Nat)(args:List aL)(bz:List aa)(g:List (Nat×aL))(jg:Nat->aa),jd F E args bz->(∀t,bZ F E (cF g t) (jg t))->∀t,bZ F E (cF (y2 g a7 args) t) (uR jg a7 bz t)
 |[],args,bz,g,jg,_,h=>by simpa only[y2,uR]using h
 |p::a7,[],bz,g,jg,au,h=>by simp only[jd]at au;subst au;simpa only[y2,uR]using h
 |p::a7,v::args,bz,g,jg,au,h=>by
  obtain⟨q,r,rfl,U,ab⟩:=au;simp only[y2,uR];refine RL a7 args r ((p,v)::g) _ ab λt=>?_;simp only[cF];by_cases e:p=t
  ·subst e;rw[if_pos (Nat.beq_refl _),if_pos rfl];exact U
  ·rw[if_neg (λk=>e (Nat.eq_of_beq_eq_true k)),if_neg (Ne.symm e)];exact h t
theorem acD(e:eJ):xl (sO e)=e:=by cases e<;>rfl
theorem Zj(e:eJ):(sO e).isSome=!(iH e).isNone:=by cases e<;>rfl
theorem QP(hm:X.P.follows .mixedOrders=true):∀d,IT X C n (vf X W d)/\JS X C n (vg X W d)
 |0=>⟨λF R key g args K S ρ ids t bz ys m aw hC gq fe h hlen lU aB=>(by simp only[vf]at h;cases h),λF R key y args K S ρ ids s t bz aw hC gq fe h ad au aB=>(by simp only[vg]at h;cases h)⟩
 |d+1=>by
  obtain⟨zD,tE⟩:=QP hm d;have aq:∀{DI},jq X.P DI C->mu X.P DI X.hI->p7 X DI C->ri X DI C n (vf X W d) (vg X W d):=λhC gq fe=>⟨hC,gq,Mp zD,tE,Mq zD,fe⟩;refine⟨λF R key g args K S ρ ids t bz ys m aw hC gq fe h hlen lU aB=>?_,λF R key y args K S ρ ids s t bz aw hC gq fe h ad au aB=>?_⟩
  ·simp only[vf]at h;split at h
   ·cases h
   ·rename_i fn dX;split at h
    ·cases h
    ·rename_i c ah;split at h
     ·cases h
     ·rename_i aV;simp only[not_or,Bool.not_eq_false,Nat.not_lt,Bool.and_eq_true,Bool.not_eq_true']at aV;split at h
      ·cases h
      ·have Kq:=o8 (X:=X) (F:=F) aw hm (aq hC gq fe) c h (lU (S.site*1000000+key+1)) aB;refine Mi dX ah (by omega) aV.1.1 aV.1.2 (oZ Kq λe s' ao=>?_);obtain⟨br,b1,dK,bw,aK,aO,bS,b8⟩:=ao;have key:(match pA X br fn.results.toList with
         |some af=>K (pB af) (S.back br)
         |none=>die "x")=.ok bw->∃pv,pt X.P s' fn.results.toList=some pv/\∃kS m',leaves s' pv kS m m'/\∃v pK pL uZ l6 tO,s'.bb=l6.bb/\m'=l6.m/\K v (S.back pK)=.ok tO/\Rel F pK pL uZ l6/\bZ F (pK.env pL uZ) v kS/\bN X.P C n tO pL R/\∃g site,Ext (S.sub g site) ρ pK pL:=λU=>by
        split at U
        ·rename_i af e0;obtain⟨q,g1,g2⟩:=Es (X:=X) aO e0;exact⟨q,g1,q,s'.m,.inl ⟨rfl,rfl⟩,_,br,b1,dK,s',bw,rfl,rfl,U,aO,g2,bS,_,_,b8⟩
        ·cases U
       cases e with
       |normal=>exact⟨.inl rfl,key aK⟩
       |exit i=>cases aK
       |ret=>exact⟨.inr rfl,key aK⟩
  ·simp only[vg]at h;split at h
   ·cases h
   ·rename_i r aF;split at h
    ·cases h
    ·rename_i ah;simp only[not_or,Bool.not_eq_true,Bool.not_eq_false,Decidable.not_not,ne_eq]at ah;obtain⟨dS,c2,c3,c4,ot⟩:=ah;split at h
     ·cases h
     ·have agF:=(List.getElem?_eq_some_iff.1 aF).1;have aU:y<F.cV.ys.length:=by rw[←ad.rc.len];exact agF
      have j3:F.cV.ys[y]?=some F.cV.ys[y]:=by simp
      generalize F.cV.ys[y]=zM at j3;have Cr:s.c7[y]?=some { zM with g:=λt=>(zM.g t).sub s.bb }:=by rw[sE ad.a0];simp[aA.qZ,j3]
      have mA:=IQ ad (ad.rc.y y r zM aF j3) [];rw[List.append_nil]at mA;generalize agG:({ zM with g:=λt=>(zM.g t).sub s.bb }:eN)=eE at Cr mA;have n9:eE.l=zM.l:=by rw[←agG]
      have Y9:eE.o=zM.o:=by rw[←agG]
      have mH:rj F (F.sub S ρ ids s s.c7):=by have:=Dy ad.a0 S ρ ids [];rwa[List.append_nil]at this
      have amf:=(AV au).1;have zd:eE∈s.c7:=List.mem_of_getElem? Cr;obtain⟨amg,amh,cy,dM,gC⟩:=Iq (EM ad) aF (show(F.sub S ρ ids s s.c7).cV.ys[y]?=some eE from Cr);have SV:eE.o.params.toList.length=bz.length:=by rw[mA.a7];omega
      refine⟨eE,.ready,none,zd,by rw[j3,n9];rfl,?_,by rw[←SV];simp,?_⟩
      ·rw[cy];have:cj.now r eE=(eE.l,{ eE.o with state:=.ready,pending:=none }):=by simp[cj.now,dS,c2,xl,iH]
       rw[this];simp
      refine VO zd (by rw[mA.a7];exact mA.lt) SV (by rw[mA.kV];exact mA.LY) (by rw[mA.body];exact mA.LZ) (by rw[mA.kV];exact c4) (by rw[mA.body];exact ot) ?_;have lU:Rel (F.sub S ρ ids s s.c7) (S.sub (y2 r.g r.a7 args) (S.site*1000000+key+1)) ρ ids (ED s.c7 eE.g eE.o.params.toList bz s.m):=by
       refine Ip ad mH (EM ad) (λt=>?_) _;rw[mA.a7];refine RL r.a7 args bz r.g eE.g (Er mH au) (λt=>?_) t;have hb:=ad.dt;have:=(Im (F:=F.sub S ρ ids s s.c7) (E:=⟨ρ,[],s.m.n-F.n0,λ_=>none⟩) (E':=S.env ρ ids) [] (List.prefix_refl _) (by show s.m.n-F.n0<=S.bx.length;omega)).ow (mA.g t);rwa[mA.own t]at this
      have aff:=o8 (X:=X) (F:=F.sub S ρ ids s s.c7) aw hm (aq hC gq fe) r.kV h lU aB;rw[mA.kV];refine oZ aff λe s1 kQ=>?_;obtain⟨ba,bY,kP,t1,aK,aO,bS,b8⟩:=kQ;cases e with
      |exit i=>cases aK
      |ret=>cases aK
      |normal=>
       refine⟨rfl,?_⟩;simp only at aK;split at aK
       ·rename_i eh vz;split at aK
        ·cases aK
        ·rename_i hA;simp only[not_or,Bool.not_eq_true,Decidable.not_not,ne_eq]at hA;obtain⟨rc1,rc2,gr,p2,p3⟩:=Iq aO.rc vz (show(F.sub S ρ ids s s.c7).cV.ys[y]?=some eE from Cr);have afg:cj.now eh eE=(eE.l,{ eE.o with state:=.ready,pending:=none }):=by simp[cj.now,hA.1,hA.2,xl,iH]
         refine⟨rc1,rc2,none,by rw[gr,afg],p2,?_⟩;have TD:=aO.rc.Gf (HJ ba.ys y true none) (List.prefix_refl bY);have aiK:=p3 true none;rw[aiK]at TD;have afh:=o8 (X:=X) (F:=F.sub S ρ ids s s.c7) aw hm (aq hC gq fe) r.body aK (adZ aO TD) bS;rw[mA.body];refine oZ afh λe s2 Lq=>?_;obtain⟨br,b1,dK,bw,f1,f2,f3,f4⟩:=Lq;have BG:br.ys.map cj.core=S.ys.map cj.core:=(f4.ys.trans (HJ ba.ys y true none)).trans b8.ys;have afe:br.ys.length=S.ys.length:=by
          have:=congrArg List.length BG;simpa using this
         have ir:br.ys[y]?=some br.ys[y]:=by simp
         obtain⟨nZ,n1,j7,iD,L0⟩:=Iq f2.rc ir (show(F.sub S ρ ids s s.c7).cV.ys[y]?=some eE from Cr);have nY:ρ<+:b1:=b8.pre.trans f4.pre;have SW:(tg br.ys y false (sO e)).map cj.core=S.ys.map cj.core:=(HJ br.ys y false (sO e)).trans BG;have TE:=ad.rc.Gf SW nY;have Gg:=L0 false (sO e);have Gg:List.zipWith cj.now (tg br.ys y false (sO e)) s.c7++F.kv=nZ++cj.now { br.ys[y]with pend:=sO e,busy:=false } eE::n1:=Gg;rw[sE ad.a0,wx]at Gg;rw[Gg]at TE;obtain⟨fj,gB⟩:=HI ad f2 nY (f4.base.trans b8.base) (f4.dO.trans b8.dO) (Nat.le_trans b8.bx f4.bx) rfl (λi b hb=>Jp (Hm ad.a0 S ρ ids) (f2.box i b hb)) TE SW;have afi:cj.now { br.ys[y]with pend:=sO e,busy:=false } eE=(eE.l,{ eE.o with state:=if(iH e).isNone then .ready else .done,pending:=iH e }):=by
          simp only[cj.now,acD,Zj];cases(iH e).isNone<;>rfl
         rw[afi]at fj;refine⟨nZ,n1,_,_,j7,iD,_,_,b1,dK,bw,f1,fj,?_,f3,gB⟩;unfold bZ;exact⟨rfl,rfl⟩
       ·cases aK
end
end
section
open Go Go.RowKit
variable[cQ]
def flagsOf(eM:TypeId)(fn:Func):List Bool:=fn.params.toList.map (λt=>decide (t=eM))++List.replicate fn.nfree false
def mV:List Bool->Nat->List aL
 |[],_=>[]
 |b::bs,i=>(if b=true then .c8 else .e (.var i))::mV bs (i+1)
def dd:List Bool->List aa->Bool
 |[],[]=>true
 |true::bs,.ptr 0 0::amU=>dd bs amU&&!bs.contains true
 |false::bs,a::amU=>a.plain&&dd bs amU
 |_,_=>false
def wK:List Bool->List aa->Nat
 |true::_,.ptr i _::_=>i
 |_::bs,_::amU=>wK bs amU
 |_,_=>0
theorem VZ(a b:List Bool)(i:Nat):mV (a++b) i=mV a i++mV b (i+a.length):=by
 induction a generalizing i with
 |nil=>rfl
 |cons x a az=>grind [mV]
theorem Wl(k i:Nat):mV (List.replicate k false) i=Bm k i:=by
 induction k generalizing i with
 |zero=>rfl
 |succ k az=>grind [mV,Bm]
theorem V0(eM:TypeId)(l:List TypeId)(i:Nat):mV (l.map λt=>decide (t=eM)) i=AW eM l i:=by
 induction l generalizing i with
 |nil=>rfl
 |cons t l az=>simp[mV,AW,az]
theorem Mr(bs:List Bool)(i:Nat):(mV bs i).length=bs.length:=by
 induction bs generalizing i with
 |nil=>rfl
 |cons b bs az=>simp[mV,az]
theorem XU(bs:List Bool)(i t:Nat):(mV bs i)[t]?=bs[t]?.map λb=>if b=true then .c8 else .e (.var (i+t)):=by
 induction bs generalizing i t with
 |nil=>rfl
 |cons b bs az=>grind [mV]
theorem Ho{DI:List aa->Prop}{m:Mem}:∀{bs:List Bool}{amU pM:List aa},dd bs amU=true->im DI m amU pM->amU.length=bs.length/\pM.length=bs.length /\
  ∀(t:Nat),(bs[t]?=some true->pM[t]?=some (.ptr (wK bs pM) 0)/\wK bs pM<m.n/\m.β (wK bs pM)=.inv DI)/\(bs[t]?=some false->∃a,amU[t]?=some a/\pM[t]?=some a/\a.plain=true)
 |[],[],pM,h,au=>by grind [im]
 |[],_::_,pM,h,au=>by trivial
 |b::bs,[],pM,h,au=>by grind [dd]
 |true::bs,a::amU,pM,h,au=>by
  have:a=.ptr 0 0/\dd bs amU=true/\bs.contains true=false:=by
   unfold dd at h;grind
  obtain⟨rfl,U,ab⟩:=this;obtain⟨q,aG,rfl,g1,g2⟩:=au;obtain⟨k1,k2,bP⟩:=Ho U g2;rcases g1 with⟨rfl,ae⟩|⟨_,i,rfl,aX,hb⟩
  ·trivial
  grind [wK]
 |false::bs,a::amU,pM,h,au=>by
  have bc:a.plain=true/\dd bs amU=true:=by grind [dd]
  obtain⟨q,aG,rfl,g1,g2⟩:=au;obtain⟨k1,k2,bP⟩:=Ho bc.2 g2;have aH:q=a:=by
   rcases g1 with⟨rfl,_⟩|⟨rfl,_⟩;all_goals trivial
  grind [wK]
section
variable{X:Ctx}{W:Hints}{C:b2->FuncId->List aa->Option aa}{n:Nat}
theorem Pz{DI:List aa->Prop}{R:Out->Prop}{f:FuncId}{t:Tree}{args args':List aa}{m:Mem}{fn:Func}{K:Func->Sym->M}{Q:aa->List b9->Mem->Prop}(hm:X.P.follows .mixedOrders=true)(hC:jq X.P DI C)(gq:mu X.P DI X.hI)(fe:p7 X DI C)(dX:X.P.funcs[f]?=some fn)
  (h:D7 X W f K=.ok t) (gN:dd (flagsOf X.eM fn) args=true) (au:im DI m args args') (aB:bN X.P C n t args R)
  (fin:∀(F:cP)(S:Sym)(ρ:List aa)(ids:Nat->Option Nat)(s:aA)(t:Tree),F.P=X.P->F.n0=m.n->F.hG=m.an->F.lH=m.β->F.cV=⟨m.an,m.n,[]⟩->F.kv=m.rc->K fn S=.ok t->Rel F S ρ ids s->bN X.P C n t ρ R ->
   ∃s1,dW s s1/\∃pv,pt X.P s1 fn.results.toList=some pv/\∃kS m',leaves s1 pv kS m m'/\Q kS s1.bb m'):gL X.P f args' m Q:=by
 intro φ af w sd ai
 suffices ao:(∀i l,i<m.n->m.β i=.cells l->e5 m.n m.an l)->gL X.P f args' m Q by
  refine ao (λi l aX hb=>?_) φ af w sd ai;obtain⟨b,cs,e,_,_,ad⟩:=sd.cells aX (by rw[hb];simp);rw[hb]at ad;exact ui (λi b vx=>Nat.lt_of_not_le λhle=>by rw[sd.dt i hle]at vx;cases vx) (λi b vx=>(sd.arr i b vx).1) l _ ad
 clear ai sd af w φ;intro agH;obtain⟨k1,k2,bP⟩:=Ho gN au;unfold D7 at h;split at h
 ·cases h
 ·rename_i cC zn;rw[dX]at zn;injection zn with zn;subst zn;split at h
  ·cases h
  ·rename_i c ah;split at h
   ·cases h
   ·rename_i aV;simp only[not_or,Bool.not_eq_false,Nat.not_lt,Bool.and_eq_true,Bool.not_eq_true']at aV;have hlen:(flagsOf X.eM fn).length=fn.params.size+fn.nfree:=by simp[flagsOf]
    have aN:AW X.eM fn.params.toList 0++Bm fn.nfree fn.params.size=mV (flagsOf X.eM fn) 0:=by
     unfold flagsOf;rw[VZ,V0,Wl];simp
    unfold RM at h;rw[aN]at h;let F:cP:=⟨X.P,m.n,m.an,m.β,wK (flagsOf X.eM fn) args',DI,⟨m.an,m.n,[]⟩,λ_=>none,λ_=>none,m.rc,[]⟩;have lU:Rel F { g:=hj 0 (mV (flagsOf X.eM fn) 0),bx:=[],bd:=[],ys:=[],cd:=fn.params.size+fn.nfree,cU:=[],ey:=0,site:=0,base:=0,dO:=0,bb:=false } args (λ_=>none) (entry args' m):=by
     refine⟨by rw[k1,hlen],λi aX=>(by simp at aX),λt=>?_,rfl,λi aX=>rfl,λi b hb=>(by simp at hb),λk id aq=>(by cases aq),λk j id aq=>(by cases aq),λk a aq=>(by simp at aq),rfl,⟨Nat.le_refl _,Nat.le_refl _⟩,λe he=>(by cases he),λ_=>rfl,λ_ k id aq=>(by cases aq),λ_ k aq=>(by simp at aq),rfl,Nat.le_refl _,Nat.le_refl _,Nat.le_refl _,agH,⟨List.nil_prefix,rfl,rfl,λi y r aF=>(by simp at aF),λi j r bR aX=>absurd (show([]:List eN)[i]?=some r from aX) (by simp),λr ad=>absurd (show r∈([]:List eN)from ad) (by simp)⟩⟩;simp only[Sym.get];rw[rR _ 0 t (Nat.zero_le _),Nat.sub_zero,List.getD_eq_getElem?_getD];show bZ F _ _ ((args'[t]?).getD aa.undef);rcases Nat.lt_or_ge t (flagsOf X.eM fn).length with ak|ak
     ·rw[XU];have e:(flagsOf X.eM fn)[t]?=some (flagsOf X.eM fn)[t]:=by simp[ak]
      cases hb:(flagsOf X.eM fn)[t]with
      |true=>
       rw[hb]at e;obtain⟨g1,g2,g3⟩:=(bP t).1 e;rw[e,g1];simp only[Option.map_some,Option.getD_some,if_true];unfold bZ;exact⟨rfl,g2,g3⟩
      |false=>
       rw[hb]at e;obtain⟨a,g1,g2,g3⟩:=(bP t).2 e;rw[e,g2];simp only[Option.map_some,Option.getD_some,Bool.false_eq_true,if_false];unfold bZ;have h2:aR.den args (.var (0+t))=a:=by simp only[aR.den,List.getD_eq_getElem?_getD,Nat.zero_add,g1,Option.getD_some]
       exact⟨h2.symm,by show(args.getD (0+t) .bad).plain=true;have:args.getD (0+t) .bad=a:=h2;rw[this];exact g3⟩
     ·rw[List.getElem?_eq_none (by rw[Mr];exact ak)];simp only[Option.getD_none,bZ]
    have hw:=QP (X:=X) (W:=W) (C:=C) (n:=n) hm 12;have aq:ri X F.DI C n (vf X W 12) (vg X W 12):=⟨hC,gq,Mp hw.1,hw.2,Mq hw.1,fe⟩;have Kq:=o8 (X:=X) (F:=F) rfl hm aq c h lU aB;refine GQ dX ah (by omega) aV.1.1 aV.1.2 (GZ (oZ Kq λe s' ao=>?_));obtain⟨br,b1,dK,bw,aK,aO,bS,b8⟩:=ao;cases e with
    |normal=>obtain⟨s1,U,ab⟩:=fin F br b1 dK s' bw rfl rfl rfl rfl rfl rfl aK aO bS;exact⟨s1,U,.inl rfl,ab⟩
    |exit i=>cases aK
    |ret=>obtain⟨s1,U,ab⟩:=fin F br b1 dK s' bw rfl rfl rfl rfl rfl rfl aK aO bS;exact⟨s1,U,.inr rfl,ab⟩
theorem Jq{F:cP}{S:Sym}{ρ:List aa}{ids:Nat->Option Nat}{s:aA}{m:Mem}(h:Rel F S ρ ids s)(he:F.cV=⟨m.an,m.n,[]⟩)(ad:F.kv=m.rc):s.m.rc=m.rc:=by rw[h.rc.rc,he,ad];simp
theorem XV{DI:List aa->Prop}{R:Out->Prop}{f:FuncId}{t:Tree}{args args':List aa}{m:Mem}{fn:Func}(hm:X.P.follows .mixedOrders=true)(hC:jq X.P DI C)(gq:mu X.P DI X.hI)(fe:p7 X DI C)(dX:X.P.funcs[f]?=some fn)
  (h:IU X W f=.ok t) (gN:dd (flagsOf X.eM fn) args=true) (au:im DI m args args') (aB:bN X.P C n t args R):FC X.P f args' m λv=>R (.val v):=by
 refine Pz hm hC gq fe dX h gN au aB λF S ρ ids s t f1 f2 f3 f4 f5 f6 U ad aB=>?_;unfold TF at U;split at U
 ·obtain⟨s2,gr,p2,ji,kD,oH,t2,g1,g2,g3,g4⟩:=o2 (X:=X) U ad aB;simp only[]at g1;split at g1
  ·rename_i xp Kr;split at g1
   ·rename_i v zN;injection g1 with g1;subst g1;obtain⟨q,j7,iD⟩:=Es (X:=X) g2 Kr;obtain⟨L0,Vm⟩:=wJ zN iD;obtain⟨o,tP,cz⟩:=g3 gP;simp[eval]at tP;have rB:s2.bb=[]:=g2.bb (.inr (by rw[f3,f5]));have aI:m.n<=s2.m.n:=by rw[g2.dt,f2];omega
    have ami:q=v.den kD:=L0;refine⟨s2,gr,q,j7,q,m,.inr ⟨rB,Nat.le_refl _,Nat.le_refl _,aI,(Jq g2 f5 f6).symm,(Ag _ _ q Vm).symm,λi aX=>.inl ⟨aX,rfl,by rw[g2.old i (by omega),f4]⟩⟩,?_,Vm,rB,rfl⟩;grind
   ·cases g1
  ·cases g1
 ·cases U
theorem MY{DI:List aa->Prop}{R:Out->Prop}{f:FuncId}{t:Tree}{args args':List aa}{m:Mem}{fn:Func}{r:Option (Nat×Nat)}(hm:X.P.follows .mixedOrders=true)(hC:jq X.P DI C)(gq:mu X.P DI X.hI)(fe:p7 X DI C)(dX:X.P.funcs[f]?=some fn)
  (h:Ir X W r f=.ok t) (gN:dd (flagsOf X.eM fn) args=true) (au:im DI m args args') (aB:bN X.P C n t args R):
  gL X.P f args' m λv E m'=>∃p,R (.val p)/\p.plain=true/\E=[]/\m'={ m with an:=m'.an }/\m.an<=m'.an/\rD r p v m.an m'.an:=by
 refine Pz hm hC gq fe dX h gN au aB λF S ρ ids s t f1 f2 f3 f4 f5 f6 U ad aB=>?_;unfold TG at U;split at U
 ·split at U
  ·obtain⟨s2,gr,p2,ji,kD,oH,t2,g1,g2,g3,g4⟩:=o2 (X:=X) U ad aB;simp only[]at g1;split at g1
   ·rename_i xp Kr;split at g1
    ·rename_i k aq;split at g1
     ·rename_i a au;split at g1
      ·cases g1
      rename_i akM;have oI:a.born.j2=true:=by grind
      obtain⟨t3,al,rfl⟩:=ig g1;obtain⟨x,aj,afj⟩:=g3.av;split at al
      ·rename_i v zN;injection al with al;subst al;obtain⟨o,tP,cz⟩:=afj gP;simp only[eval,Option.some.injEq]at tP;subst tP;obtain⟨q,j7,iD⟩:=Es (X:=X) g2 Kr;have rB:s2.bb=[]:=g2.bb (.inr (by rw[f3,f5]));have aI:m.n<=s2.m.n:=by rw[g2.dt,f2];omega
       have fb:=Jq g2 f5 f6;obtain⟨cs,hcs⟩:=g2.arr k a au;obtain⟨cy,dM,gC,jF,kB,kC⟩:=hcs;have RN:=(show a.rel (ji.env kD oH) k cs from⟨cy,dM,gC,jF,kB,kC⟩).plain;have Ls:a.c.den kD=.agg cs:=dM;have aiL:isNil kD a.born cs=some (oH k).isNone:=kB;simp only[Prim.run,iU,Ls,aiL]at aj;have key:∃y eR,bZ F (ji.env kD oH) (.own k) y/\x.plain=true/\x.one=true/\y.one=true/\m.an<=eR/\zq x y m.an eR/\y.anon m.n eR=y:=by
        cases cr:oH k with
        |none=>
         rw[cr]at aj;simp  at aj;subst aj;exact⟨.bC,m.an,(by simp only[bZ];exact⟨a,cs,au,⟨cy,dM,gC,jF,kB,kC⟩,by grind [la,Sym.env]⟩),rfl,rfl,rfl,Nat.le_refl _,.inr ⟨rfl,rfl⟩,by rfl⟩
        |some id=>
         rw[cr]at aj;have aj:aa.sl none a.sz 0 (cs.length/a.sz) cs=x:=by
          cases hb:a.born with
          |map=>rw[hb]at oI;cases oI
          |it=>rw[hb]at oI;cases oI
          |_=>rw[hb]at aj;simpa using aj
         subst aj;have h3:=(g2.hO k id cr).1;rw[f3]at h3;exact⟨.sl (some id) a.sz 0 (cs.length/a.sz) cs,id+1,(by simp only[bZ];exact⟨a,cs,au,⟨cy,dM,gC,jF,kB,kC⟩,by rw[la oI];simp[Sym.env,cr]⟩),(by simpa only[aa.plain]using RN),rfl,rfl,by omega,
          .inl ⟨a.sz,_,cs,id,rfl,rfl,h3,by omega⟩,by simp only[aa.anon];rw[if_pos (by omega),vZ _ _ cs RN]⟩
       obtain⟨y,eR,w1,w2,Cs,w3,w4,Vn,Vo⟩:=key;have hle:=Env.p0 ji kD oH x true;obtain⟨v1,v2⟩:=fO g2 x w2;have uniq:∀{dj},bZ F (ji.env kD oH) (.own k) dj->dj=y:=λbc=>by
        simp only[bZ]at bc w1;obtain⟨eD,dS,fj,gB,dI⟩:=bc;obtain⟨a2,c2,d1,d2,d3⟩:=w1;rw[fj]at d1;injection d1 with d1;subst d1;have:=c6.EK gB d2;subst this;rw[dI,d3]
       have finish:∀p,v.den (kD++[x])=p->p.plain=true->rD r p q m.an eR->q.anon m.n eR=q->∃s1,dW s s1/\∃pv,pt X.P s1 fn.results.toList=some pv/\∃kS m',leaves s1 pv kS m m'/\∃p,R (.val p)/\p.plain=true/\s1.bb=[]/\m'={ m with an:=m'.an }/\m.an<=m'.an/\rD r p kS m.an m'.an:=λp aK aO bS b8=>
        ⟨s2,gr,q,j7,q,{ m with an:=eR },.inr ⟨rB,Nat.le_refl _,w4,aI,fb.symm,b8.symm,λi aX=>.inl ⟨aX,rfl,by rw[g2.old i (by rw[f2];exact aX),f4]⟩⟩,p,by rw[←aK];exact cz,aO,rB,rfl,w4,bS⟩
       cases r with
       |none=>
        have ai:pB xp=.own k:=by
         unfold E1 at aq;split at aq
         ·injection aq with aq;subst aq;assumption
         ·rename_i e _;cases e
         ·cases aq
        simp only[RP,aL.cu,Option.some.injEq]at zN;subst zN;rw[ai]at iD;have:=uniq iD;subst this;exact finish x v2 w2 Vn Vo
       |some z7=>
        obtain⟨dZ,j⟩:=z7;have ai:∃l,pB xp=.agg l/\l[j]?=some (.own k):=by
         unfold E1 at aq;split at aq
         ·rename_i e _;cases e
         ·rename_i eu j5 l aK aO;injection aK with aK;injection aK with _ aK;subst aK;split at aq
          ·split at aq
           ·rename_i ak;injection aq with aq;subst aq;exact⟨l,aO,ak⟩
           ·cases aq
          ·cases aq
         ·cases aq
        obtain⟨l,gk,bQ⟩:=ai;rw[gk]at iD zN;simp only[bZ]at iD;obtain⟨aG,rfl,er⟩:=iD;have tl:j<l.length:=(List.getElem?_eq_some_iff.1 bQ).1;have hlen:=mi er;have jB:aG[j]?=some aG[j]:=by simp
        have aF:=uniq ((jL.1 er).2 j _ _ bQ jB).1;have xN:bZ F ((ji.bind true).env (kD++[x]) oH) (.agg (l.set j (.e (.var ji.cd)))) (.agg (aG.set j x)):=by
         simp only[bZ];refine⟨_,rfl,QQ (cJ.mono hle er) ?_ Cs j⟩;simp only[bZ];exact⟨v2.symm,v1⟩
        obtain⟨d1,d2⟩:=wJ zN xN;refine finish (.agg (aG.set j x)) d1.symm d2 ⟨aG.set j x,x,y,rfl,by simp[List.getElem?_set];omega,?_,Vn⟩ ?_
        ·rw[List.set_set];congr 1;rw[←aF];exact(List.set_getElem_self _).symm
        ·have BP:bG (aG.set j x)=true:=by simpa only[aa.plain]using d2
         simp only[aa.anon];congr 1;rw[DU];refine List.ext_getElem? λi=>?_;rw[List.getElem?_map];cases aX:aG[i]? with
         |none=>rfl
         |some z=>
          simp ;by_cases e:i=j
          ·subst e;rw[jB]at aX;injection aX with aX;rw[←aX,aF];exact Vo
          ·refine Ag _ _ z ((hH _).1 BP z (List.mem_of_getElem? (i:=i) ?_)).1;rw[List.getElem?_set_ne (λh=>e h.symm)];exact aX
      ·cases al
     ·cases g1
    ·cases g1
   ·cases g1
  ·split at U
   ·rename_i UG;injection U with U;subst U;rename_i af e0 _ _ _ heq;obtain⟨q,j7,iD⟩:=Es (X:=X) ad e0;rw[heq]at iD;simp only[bZ,aR.den]at iD;obtain⟨rfl,_⟩:=iD;obtain⟨o,tP,cz⟩:=aB gP;simp only[eval,aS.den,aR.den,Option.some.injEq]at tP;subst tP;have rB:s.bb=[]:=ad.bb (.inr (by rw[f3,f5]));have aI:m.n<=s.m.n:=by rw[ad.dt,f2];omega
    exact⟨s,dW.refl s,.bC,j7,.bC,m,.inr ⟨rB,Nat.le_refl _,Nat.le_refl _,aI,(Jq ad f5 f6).symm,by simp only[aa.anon],λi aX=>.inl ⟨aX,rfl,by rw[ad.old i (by rw[f2];exact aX),f4]⟩⟩,.bC,cz,rfl,rB,rfl,Nat.le_refl _,.inr ⟨rfl,rfl⟩⟩
   ·cases U
 ·cases U
theorem Oz{p v:aa}{a a' n:Nat}(h:zq p v a a')(ae:p.plain=true):v.anon n a=p:=by
 rcases h with⟨sz,len,cs,id,rfl,rfl,U,ab⟩|⟨rfl,rfl⟩;all_goals grind [aa.plain,aa.anon,vZ]
theorem Zk{r:Option (Nat×Nat)}{p v:aa}{a a' n:Nat}(h:rD r p v a a')(ae:p.plain=true):v.anon n a=p:=by
 cases r with
 |none=>exact Oz h ae
 |some z7=>
  obtain⟨a7,x,y,rfl,U,rfl,ab⟩:=h;have ah:bG a7=true:=by assumption
  simp only[aa.anon];congr 1;rw[DU];refine List.ext_getElem? λi=>?_;grind [Oz,Ag,hH]
theorem XW{R:aa->Prop}{f:FuncId}{args':List aa}{m:Mem}{r:Option (Nat×Nat)}
  (h:gL X.P f args' m λv E m'=>∃p,R p/\p.plain=true/\E=[]/\m'={ m with an:=m'.an }/\m.an<=m'.an/\rD r p v m.an m'.an):FC X.P f args' m R:=by
 intro φ af w hm ai;refine(h φ af w hm ai).mono ?_;rintro e w' ⟨v,pv,E,m',bn,rfl,eW,eX,eo,p,cn,ae,rfl,he,l7,nj⟩;have ix:∀i b,φ.box i=some b->i<m.n:=λi b aX=>Nat.lt_of_not_le λhle=>(by rw[hm.dt i hle]at aX;cases aX);have Cn:∀i b,φ.arr i=some b->i<m.an:=λi b aX=>(hm.arr i b aX).1;refine⟨v,p,[],m,bn.cut m.n m.an,rfl,?_,?_,?_,cn,ae,rfl,rfl⟩
 ·have:=aY.anon (n:=m.n) (an:=m.an) eX pv v eW;grind [Zk]
 ·refine H4 (m':=m) eX (by rw[he]) (by grind) (λi aX g=>by rw[he]at g;exact g) λi af aX ad=>?_;have ad:m3 bn w' (m.β i) af:=by rw[he]at ad;exact ad
  cases ah:m.β i with
  |cells l=>
   rw[ah]at ad;obtain⟨b,cs,bS,g1,g2,g3⟩:=hm.cells aX (by grind);rw[ah]at g3;exact bl.cut l af ad (ui ix Cn l _ g3)
  |inv I=>
   rw[ah]at ad;obtain⟨l,g1,g2,g3,g4⟩:=ad;refine⟨l,g1,g2,g3,?_⟩;have:=bl.anon (n:=m.n) (an:=m.an) eX l af g4;grind [ug]
  |hole=>rw[ah]at ad;trivial
 grind [DT]
end
section
variable(P:Program)(eM:TypeId)(cA:FuncId->Option Tree)(nI:b2->FuncId->List aa->Option aa)(n:Nat)
def jD:Nat->b2->FuncId->List aa->Option aa
 |0,_,_,_=>none
 |k+1,ω,g,args=>match cA g with
  |none=>nI ω g args
  |some t=>match P.funcs[g]? with
   |none=>none
   |some fn=>if dd (flagsOf eM fn) args=true then match eval P (jD k) n t ω args with
     |some (.val v)=>if v.plain=true then some v else none
     |_=>none
    else none
end
structure RQ(P:Program)(eM:TypeId)(hI:zr)(own:FuncId->Option (Option (Nat×Nat)))(g:FuncId)(t:Tree)(X:Ctx)(W:Hints)(fn:Func):Prop where
 p:X.P=P
 CG:X.eM=eM
 aP:X.hI=hI
 cf:∀g' r,mW X.nb g'=some r->own g'=some r.1
 L1:P.funcs[g]?=some fn
 da:fn.name ≠ "runtime.NumGoroutine"
 cT:fn.body.isSome
 tr:match own g with
  |none=>IU X W g=.ok t
  |some r=>Ir X W r g=.ok t
structure E2(P:Program)(eM:TypeId)(hI:zr)(own:FuncId->Option (Option (Nat×Nat)))(cA:FuncId->Option Tree):Prop where
 tr:∀g t,cA g=some t->∃X W fn,RQ P eM hI own g t X W fn
 cf:∀g r,own g=some r->(cA g).isSome
theorem C9{P:Program}{eM:TypeId}{hI:zr}{own:FuncId->Option (Option (Nat×Nat))}{cA:FuncId->Option Tree}{nI:b2->FuncId->List aa->Option aa}{n:Nat}{DI:List aa->Prop}(hm:P.follows .mixedOrders=true)(ek:E2 P eM hI own cA)(aT:jq P DI nI)(gq:mu P DI hI):
  ∀k,jq P DI (jD P eM cA nI n k)/\∀g r,own g=some r->wi P DI (jD P eM cA nI n k) g r
 |0=>⟨⟨λg args h=>(by simp_all[jD]),λω g args v h=>(by trivial),λω g args v h=>(by trivial)⟩,λg r _ args h=>(by simp_all[jD])⟩
 |k+1=>by
  obtain⟨aq,aiM⟩:=C9 (n:=n) hm ek aT gq k;have run:∀g args t fn,cA g=some t->P.funcs[g]?=some fn->(∀ω,(jD P eM cA nI n (k+1) ω g args).isSome)->dd (flagsOf eM fn) args=true/\bN P (jD P eM cA nI n k) n t args λo=>∃v,o=.val v/\∃ω,jD P eM cA nI n (k+1) ω g args=some v:=by
   intro g args t fn a1 dX h;have e:∀ω,jD P eM cA nI n (k+1) ω g args=if dd (flagsOf eM fn) args=true then match eval P (jD P eM cA nI n k) n t ω args with
     |some (.val v)=>if v.plain=true then some v else none
     |_=>none
    else none:=λω=>by grind [jD]
   have gN:dd (flagsOf eM fn) args=true:=by
    have:=h gP;grind
   refine⟨gN,λω=>?_⟩;have U:=h ω;grind
  have ju:∀{X:Ctx}{g t W fn},RQ P eM hI own g t X W fn->p7 X DI (jD P eM cA nI n k):=λfz g' r ad=>by rw[fz.p];exact aiM g' r.1 (fz.cf g' r ad)
  refine⟨⟨λg args h args' m au=>?_,λω g args v h=>?_,λω g args v h=>?_⟩,λg r ad args h args' m au=>?_⟩
  ·cases a1:cA g with
   |none=>
    have e:∀ω,jD P eM cA nI n (k+1) ω g args=nI ω g args:=λω=>by grind [jD]
    have:=aT.zG g args (λω=>by grind) args' m au;grind
   |some t=>
    obtain⟨X,W,fn,fz⟩:=ek.tr g t a1;obtain⟨gN,aB⟩:=run g args t fn a1 fz.L1 h;have ar:=ju fz;obtain⟨rfl,rfl,rfl,_,dX,hs,hb,vk⟩:=fz;have key:FC X.P g args' m λv=>∃bg,Out.val v=.val bg/\∃ω,jD X.P X.eM cA nI n (k+1) ω g args=some bg:=by
     cases aN:own g with
     |none=>grind [XV]
     |some r=>rw[aN]at vk;exact XW (R:=λv=>∃bg,Out.val v=.val bg/\∃ω,jD X.P X.eM cA nI n (k+1) ω g args=some bg) (MY hm aq gq ar dX vk gN au aB)
    grind
  ·simp only[jD]at h;split at h
   ·exact aT.plain _ _ _ _ h
   grind
  ·cases a1:cA g with
   |none=>
    simp only[jD,a1]at h;exact aT.fn _ _ _ _ h
   |some t=>
    obtain⟨X,W,fn,fz⟩:=ek.tr g t a1;exact⟨fn,fz.L1,fz.da,fz.cT⟩
  ·obtain⟨t,a1⟩:=Option.isSome_iff_exists.1 (ek.cf g r ad);obtain⟨X,W,fn,fz⟩:=ek.tr g t a1;obtain⟨gN,aB⟩:=run g args t fn a1 fz.L1 h;have ar:=ju fz;obtain⟨rfl,rfl,rfl,_,dX,hs,hb,vk⟩:=fz;grind [MY]
end
section
open Go Go.RowKit
structure x8 where
 g:FuncId
 s:List Nat:=[]
 k:List (Nat×Nat×mz):=[]
 o:List (Nat×Nat):=[]
 c:List (Nat×Nat):=[]
 r:List (FuncId×Option (Nat×Nat)×Nat×Bool):=[]
 i:List FuncId:=[]
 t:List (Nat×Nat×Nat):=[]
 h:List (Nat×Nat):=[]
structure iN where
 P:Program
 aP:zr
 c5:List FuncId
 cp:List (Nat×Nat×Nat)
 own:FuncId->Option (Option (Nat×Nat))
 rows:List x8
def iN.X(T:iN)(w:x8):Ctx:={ P:=T.P,inl:=T.c5++w.i,own:=w.o,TK:=w.c,nb:=w.r,xw:=w.h,eM:=23,hI:=T.aP }
def iN.W(T:iN)(w:x8):Hints:={ sites:=w.s,cp:=T.cp,thaw:=w.t,KA:=w.k }
def Gq:M->Option Tree
 |.ok t=>some t
 |_=>none
def iN.tree(T:iN)(w:x8):Option Tree:=match T.own w.g with
 |none=>Gq (IU (T.X w) (T.W w) w.g)
 |some q=>Gq (Ir (T.X w) (T.W w) q w.g)
def iN.find(T:iN):List x8->FuncId->Option Tree
 |[],_=>none
 |w::l,g=>if w.g=g then T.tree w else T.find l g
def iN.cA(T:iN)(g:FuncId):Option Tree:=T.find T.rows g
def iN.ok(T:iN):Bool:=T.rows.all λw=>w.r.all (λx=>decide (T.own x.1=some x.2.1))&&(match T.P.funcs[w.g]? with
 |some fn=>fn.name != "runtime.NumGoroutine" && fn.body.isSome
 |none=>false)
theorem iN.DW{T:iN}{g:FuncId}{t:Tree}:∀{l:List x8},T.find l g=some t->∃w∈l,w.g=g/\T.tree w=some t
 |[],h=>by cases h
 |w::l,h=>by
  simp only[iN.find]at h;split at h
  ·exact⟨w,by simp,by assumption,h⟩
  ·obtain⟨w',hm,h⟩:=iN.DW h;exact⟨w',by simp[hm],h⟩
theorem NU{g:FuncId}{r:Option (Nat×Nat)×Nat×Bool}:∀{l:List (FuncId×Option (Nat×Nat)×Nat×Bool)},mW l g=some r->(g,r)∈l
 |[],h=>by cases h
 |(f,q)::l,h=>by
  simp only[mW]at h;split at h
  ·rename_i e;injection h with h;subst e h;simp
  ·simp[NU h]
theorem PW{m:M}{t:Tree}(h:Gq m=some t):m=.ok t:=by
 unfold Gq at h;split at h
 ·injection h with h;rw[h]
 ·cases h
section
variable[cQ]
theorem iN.S5(T:iN)(h:T.ok=true)(ar:∀g r,T.own g=some r->(T.cA g).isSome):E2 T.P 23 T.aP T.own T.cA:=by
 refine⟨λg t a1=>?_,ar⟩;obtain⟨w,hm,rfl,hw⟩:=iN.DW a1;have aq:=List.all_eq_true.1 h w hm;simp only[Bool.and_eq_true]at aq;obtain⟨U,ab⟩:=aq;split at ab
 ·rename_i fn dX;simp only[Bool.and_eq_true,bne_iff_ne,ne_eq]at ab;refine⟨T.X w,T.W w,fn,rfl,rfl,rfl,λg' r ad=>?_,dX,ab.1,ab.2,?_⟩
  ·have:=List.all_eq_true.1 U _ (NU ad);simpa using this
  ·unfold iN.tree at hw;split at hw
   ·rename_i e;first|exact PW hw|(rw[e];exact PW hw)
   ·rename_i q e;first|exact PW hw|(rw[e];exact PW hw)
 ·cases ab
end
def ag(i:Nat):aS:=.e (.var i)
def aD(i j:Nat):aS:=.e (.proj (.var i) j)
def aM(k:Int):aS:=.e (.bu (.int .i64 k))
def ae(i:Nat):Pos:=⟨false,i,0,none,false⟩
def ao(a b:Nat)(p:List Pos)(l:List Nat)(bd Vi:List Nat:=[]):Nat×Nat×mz:=(a,b,⟨p,bd,l,Vi,false⟩)
end
section
open Go Go.RowKit
@[simp]def iy(i:Nat):aS:=.agg [.e (.proj (.var i) 0),.e (.proj (.var i) 1)]
@[simp]def jC(i:Nat):aS:=.agg [.e (.proj (.var i) 0),.e (.proj (.var i) 1),.e (.proj (.var i) 2)]
@[simp]def k0(i:Nat):aS:=.agg [.e (.proj (.var i) 0),.e (.proj (.var i) 1),.e (.proj (.var i) 2),.e (.proj (.var i) 3),.e (.proj (.var i) 4)]
def t14:Tree:=.av (.agg 2 (ag 0)) (.av (.agg 5 (ag 1)) (.av (.agg 5 (ag 2)) (.call 56 [iy 3,.e (.bu .bC),.lit 5 2 [aD 4 0,aD 4 1,aD 4 2,aD 4 3,aD 4 4,aD 5 0,aD 5 1,aD 5 2,aD 5 3,aD 5 4]] (.av (.ext (ag 6) 0) (.av (.ext (ag 6) 1) (.av (.agg 2 (ag 7)) (.av (.bin .neq 32 (ag 8) (aM 0)) (.ite (.var 10) (.ret (.bD [.e (.bu .bC),ag 8])) (.av (.len 25 (aD 9 1)) (.join 0 (.loop 1 [.e (.bu (.agg [])),aM 0] (.av (.bin .lss 3 (ag 13) (ag 11)) (.ite (.var 14) (.av (.j2 []) (.call 57 [iy 9,ag 13,k0 4] (.av (.len 38 (ag 16)) (.join 2 (.loop 3 [aM 0,ag 12,ag 15] (.av (.bin .lss 3 (ag 18) (ag 17)) (.ite (.var 21) (.av (.row 2 (ag 16) (ag 18)) (.av (.ins 43 2 (.var 20) [aD 22 0,aD 22 1]) (.av (.bin .add 3 (ag 18) (aM 1)) (.jump 3 [ag 24,ag 19,ag 23])))) (.jump 2 [ag 19,ag 20])))) (.call 57 [iy 9,ag 13,k0 5] (.av (.len 38 (ag 20)) (.join 3 (.av (.bK 2 .map (.var 19)) (.loop 4 [ag 22,.e (.bu (.bool false)),aM 0] (.av (.bin .lss 3 (ag 25) (ag 21)) (.ite (.var 26) (.av (.row 2 (ag 20) (ag 25)) (.av (.keys 2 (ag 23)) (.join 5 (.loop 6 [ag 24,ag 28] (.pick 2 (.var 30) (.ite (.proj (.var 31) 0) (.av (.lI (.var 31)) (.av (.mI 2 (.var 32)) (.join 7 (.ite (.var 29) (.jump 7 [.e (.bu (.bool true))]) (.av (.bin .eql 43 (iy 33) (iy 27)) (.jump 7 [ag 34]))) (.jump 6 [ag 34,ag 32])))) (.jump 5 [ag 29])))) (.av (.bin .add 3 (ag 25) (aM 1)) (.jump 4 [ag 23,ag 29,ag 30]))))) (.jump 3 [ag 24]))))) (.join 4 (.ite (.var 22) (.av (.one (ag 13)) (.av (.push 1 8 (.var 18) (.lit 1 1 [ag 23])) (.jump 4 [ag 24]))) (.jump 4 [ag 18])) (.av (.bin .add 3 (ag 13) (aM 1)) (.jump 1 [ag 23,ag 24])))))))))) (.jump 0 [ag 12])))) (.av (.bK 1 .cZ (.var 12)) (.ret (.bD [ag 13,aM 0])))))))))))))
def t37:Tree:=.av (.agg 2 (ag 0)) (.av (.agg 5 (ag 1)) (.av (.agg 5 (ag 2)) (.call 56 [iy 3,.e (.bu .bC),.lit 5 2 [aD 4 0,aD 4 1,aD 4 2,aD 4 3,aD 4 4,aD 5 0,aD 5 1,aD 5 2,aD 5 3,aD 5 4]] (.av (.ext (ag 6) 0) (.av (.ext (ag 6) 1) (.av (.agg 2 (ag 7)) (.av (.bin .neq 32 (ag 8) (aM 0)) (.ite (.var 10) (.ret (.bD [.e (.bu .bC),ag 8])) (.av (.len 25 (aD 9 1)) (.join 0 (.loop 1 [aM 0,.e (.bu (.agg []))] (.av (.bin .lss 3 (ag 12) (ag 11)) (.ite (.var 14) (.call 57 [iy 9,ag 12,k0 5] (.call 57 [iy 9,ag 12,k0 4] (.av (.len 38 (ag 16)) (.join 2 (.loop 3 [aM 0,ag 13] (.av (.bin .lss 3 (ag 18) (ag 17)) (.ite (.var 20) (.av (.row 2 (ag 16) (ag 18)) (.av (.len 38 (ag 15)) (.join 4 (.loop 5 [aM 0,ag 19] (.av (.bin .lss 3 (ag 23) (ag 22)) (.ite (.var 25) (.av (.row 2 (ag 15) (ag 23)) (.join 6 (.av (.len 22 (aD 5 0)) (.av (.bin .add 3 (aD 26 0) (ag 27)) (.av (.bin .leq 3 (aD 21 0) (ag 28)) (.ite (.var 29) (.av (.len 22 (aD 4 0)) (.av (.bin .add 3 (aD 21 0) (ag 30)) (.av (.bin .leq 3 (aD 26 0) (ag 31)) (.jump 6 [ag 32])))) (.jump 6 [.e (.bu (.bool false))]))))) (.join 7 (.ite (.var 27) (.av (.bin .sub 3 (aD 26 0) (aD 21 0)) (.av (.push 1 8 (.var 24) (.lit 1 1 [ag 28])) (.jump 7 [ag 29]))) (.jump 7 [ag 24])) (.av (.bin .add 3 (ag 23) (aM 1)) (.jump 5 [ag 29,ag 28]))))) (.jump 4 [ag 24])))) (.av (.bin .add 3 (ag 18) (aM 1)) (.jump 3 [ag 24,ag 23]))))) (.jump 2 [ag 19])))) (.av (.bin .add 3 (ag 12) (aM 1)) (.jump 1 [ag 19,ag 18])))))) (.jump 0 [ag 13])))) (.av (.qz (.var 12)) (.av (.qA .cZ (.var 13)) (.ret (.bD [ag 14,aM 0]))))))))))))))
namespace PP
def t58:Tree:=.join 0 (.jump 0 []) (.av (.deref 4 (ag 5)) (.join 1 (.loop 2 [.e (.bu (.agg [])),aM 0] (.av (.bin .lss 3 (ag 8) (aM 4)) (.ite (.var 9) (.av (.idx 142 (.agg [aD 6 0,aD 6 1,aD 6 2,aD 6 3]) (ag 8)) (.join 3 (.ite (.var 10) (.av (.one (ag 8)) (.av (.push 1 8 (.var 7) (.lit 1 1 [ag 11])) (.jump 3 [ag 12]))) (.jump 3 [ag 7])) (.av (.bin .add 3 (ag 8) (aM 1)) (.jump 2 [ag 11,ag 12])))) (.jump 1 [ag 7])))) (.av (.bK 1 .cZ (.var 7)) (.ret (ag 8)))))
def t103:Tree:=.join 0 (.jump 0 []) (.av (.deref 1 (ag 2)) (.av (.deref 2 (ag 1)) (.call 91 [aD 6 0] (.av (.deref 2 (ag 1)) (.av (.deref 1 (ag 2)) (.av (.row 3 (aD 8 1) (aD 9 0)) (.av (.deref 5 (ag 3)) (.call 92 [ag 7,jC 10,k0 11,.e (.bu (.int .u8 0))] (.ret (.bD [ag 12,aD 5 0]))))))))))
end PP
end
namespace PP
open Go Go.RowKit
variable[cQ]
def pn(l:List aa):Prop:=False
def nU:b2->FuncId->List aa->Option aa:=λ_ _ _=>none
theorem yi:jq cl pn nU:=⟨λg args h=>(by have:=h gP;cases this),λω g args v h=>(by cases h),λω g args v h=>(by cases h)⟩
theorem adL:(cl.funcs[9999]?).isSome=false:=by kernel_rfl
theorem Rs:mu cl pn ⟨9999,none,none⟩:=⟨λh=>(by rw[adL]at h;cases h),λf h=>(by cases h),λf h=>(by cases h)⟩
end PP
section
open Go Go.RowKit
def UZ:List (Nat×Nat×Nat):=[(10,2,9999),(10,12,14),(16,5,8),(35,8,3),(45,6,8),(47,9,9),(48,7,9),(50,4,13),(50,15,8),(50,17,8),(57,1,11),(76,6,18),(77,5,8),(78,2,5),(78,3,5),(96,1,7),(103,1,13),(125,1,9),(130,7,13),(130,10,28),(164,3,12)]
def UY:List FuncId:=[85,75,76,100,101,127,128,129,164]
def S4:List x8:=[{g:=91},
 {g:=92,s:=[1005,700027,700027002004,700027002004004012,700027010005,700027010005004012],k:=[ao 0 13 [] [8],ao 700027 125 [ae 7] [7,3,6],ao 700027 250 [ae 7,ae 23] [3,4,6,22,23,7],ao 700027 32051 [ae 7] [3,4,6,22,7,23],ao 700027002004 13 [] [],ao 700027002004 26 [ae 13] [2,5,1,6,3,4,12,13],ao 700027002004004012 13 [] [8],ao 700027010005 13 [] [],ao 700027010005 26 [ae 13] [2,5,1,6,3,4,12,13],ao 700027010005004012 13 [] [8]]},
 {g:=96},
 {g:=121,k:=[ao 0 6 [ae 5] [5]]},
 {g:=122},
 {g:=123},
 {g:=130,k:=[ao 0 28 [ae 27] [27,3,6,5,4,7,11],ao 0 61 [] [6,7,5,11,3],ao 0 122 [ae 31] [3,6,5,4,29,7,11,30,31],ao 0 15666 [ae 51] [51,3,6,5,4,29,7,11,30,31],ao 0 124 [ae 84] [84,6,7,5],ao 0 126 [ae 10] [10]]},
 {g:=131,s:=[2003],k:=[(2003,3,⟨[],[0],[],[],true⟩),(2003,6,⟨[ae 2,ae 3],[0],[0,3,2],[],true⟩)],c:=[(0,1002)],r:=[(163,none,1,false)]},
 {g:=163,o:=[(0,5)]}]
namespace PP
def tj:FuncId->Option (Option (Nat×Nat)):=λg=>if g=58 then some none else if g=163 then some none else none
noncomputable def xW:iN:=⟨cl,⟨9999,none,none⟩,UY,UZ,tj,S4++[{g:=103,k:=[ao 0 2 [] [3,2,1]]},
 {g:=58,k:=[ao 0 2 [] [5],ao 0 29 [⟨false,8,0,some (1,.cZ),false⟩] [8],ao 0 58 [⟨false,8,0,some (1,.cZ),false⟩,ae 23] [22,23,8],ao 0 7475 [⟨false,8,0,some (1,.cZ),false⟩] [22,8,23]]}]⟩
noncomputable def cA(g:FuncId):Option Tree:=xW.cA g
theorem J3:(xW.cA 58).isSome=true:=by kernel_rfl
theorem J4:(xW.cA 163).isSome=true:=by kernel_rfl
theorem EH[cQ]:E2 cl 23 ⟨9999,none,none⟩ tj cA:=xW.S5 (by kernel_rfl) λg r h=>by
 replace h:tj g=some r:=h;unfold tj at h;split at h
 ·rename_i e;subst e;exact J3
 split at h
 ·rename_i e;subst e;exact J4
 cases h
noncomputable def E(P:Program)(k:Nat)(ω:b2)(g:FuncId)(a:List aa):Option aa:=jD P 23 cA nU 4096 k ω g a
theorem IH[cQ](k:Nat):jq cl pn (E cl k):=(C9 (by kernel_rfl) EH yi Rs k).1
end PP
end
section
open Go Go.Conc Go.RowKit
theorem Hg{DI:List aa->Prop}{m:Mem}:∀{l:List aa},(∀p∈l,p.plain=true)->im DI m l l
 |[],_=>rfl
 |p::a7,h=>⟨p,a7,rfl,.inl ⟨rfl,h p (by simp)⟩,Hg λq aH=>h q (by simp[aH])⟩
theorem YY(w:World):c0 iK ⟨λ_=>.hole,0,0,wo w⟩ w:=by
 refine⟨λi aX=>absurd aX (Nat.not_lt_zero i),λ_ _=>rfl,λi b h=>(by cases h),λi j b h=>(by cases h),λi j b h=>(by cases h),λi j b h=>(by cases h),λl o ak=>?_⟩;unfold wo at ak;obtain⟨aG,U,ab⟩:=List.mem_filterMap.1 ak;split at ab
 ·rename_i o' eC;injection ab with ab;injection ab with al aJ;subst al;subst aJ;exact eC
 ·cases ab
theorem YZ{k:Nat}{ah eg:List aa}{i:Nat}{b:Bool}(U:bG ah=true)(ab:bG eg=true)(h:∀ω,PP.E cl k ω 103 [.ca,.bJ none 0 ah,.bJ none 0 [.int .i64 (i:Int)],.bJ none 0 eg,.ca]=some (.bD [.bool b,.int .i64 (i:Int)])):Jd ah eg i b:=by
 intro V ae ip pp k1 k2 bP
 letI:=jx
 have ao:=(PP.IH k).zG 103 _ (λω=>by rw[h ω];rfl);have ah:=@Mk jx cl 103 [.ca,.bJ none 0 ah,.bJ none 0 [.int .i64 (i:Int)],.bJ none 0 eg,.ca] [.pointer none,ae,ip,pp,.pointer none] V (λv=>v=.bD [.bool b,.int .i64 (i:Int)]) (λm=>by
  refine @gL.mono jx _ _ _ _ _ _ (ao _ m (Hg λp ae=>?_)) λpv E m' ⟨⟨ω,Ve⟩,_,ej,hm⟩=>⟨?_,ej,hm⟩
  ·simp only[List.mem_cons,List.not_mem_nil,or_false]at ae;rcases ae with rfl|rfl|rfl|rfl|rfl<;>simp[aa.plain,bG,aa.one,U,ab]
  ·rw[h ω]at Ve;exact(Option.some.inj Ve).symm) ⟨_,_,rfl,rfl,_,_,rfl,k1,_,_,rfl,k2,_,_,rfl,bP,_,_,rfl,rfl,rfl⟩
 refine @lb.mono jx _ _ _ _ _ _ ah λe w' ⟨v,pv,bn,he,ai,eW,_⟩=>?_;subst eW;obtain⟨af,rfl,mN,fI,rfl,lv,qD,ei,rfl,dG,ak⟩:=ai;have lv:mN=.bool b:=lv;have dG:qD=.int .i64 (i:Int):=dG;have ak:ei=[]:=ak;subst lv dG ak;exact he
def lS(l:List Nat):aa:=if l.isEmpty then .bC else .sl none 1 0 l.length (l.map λi:Nat=>aa.int .i64 (i:Int))
theorem Rr{bs:Nat->Bool}(ah eg:List aa)(U:bG ah=true)(ab:bG eg=true)(ω:b2):PP.E cl 3 ω 58 [.agg ah,.agg eg,.ca,.ca,.ca,.bJ none 0 [.bool (bs 0),.bool (bs 1),.bool (bs 2),.bool (bs 3)]]=some (lS ((List.range 4).filter bs)):=by
 have gN:dd (flagsOf 23 ta) [.agg ah,.agg eg,.ca,.ca,.ca,.bJ none 0 [.bool (bs 0),.bool (bs 1),.bool (bs 2),.bool (bs 3)]]=true:=by
  have e:flagsOf 23 ta=[false,false,false,false,false,false]:=by kernel_rfl
  rw[e];simp[dd,aa.plain,bG,aa.one,U,ab]
 have ad:(List.range 4).filter bs=(if bs 0 then[0]else[])++((if bs 1 then[1]else[])++((if bs 2 then[2]else[])++(if bs 3 then[3]else[]))):=by
  simp only[List.range,List.range.loop,List.filter];cases bs 0<;>cases bs 1<;>cases bs 2<;>cases bs 3<;>rfl
 have key:eval cl (jD cl 23 PP.cA PP.nU 4096 2) 4096 PP.t58 ω [.agg ah,.agg eg,.ca,.ca,.ca,.bJ none 0 [.bool (bs 0),.bool (bs 1),.bool (bs 2),.bool (bs 3)]]=some (.val (lS ((List.range 4).filter bs))):=by
  rw[ad];generalize bs 0=gf;generalize bs 1=fj;generalize bs 2=gB;generalize bs 3=dI;cases gf<;>cases fj<;>cases gB<;>cases dI<;>kernel_rfl
 have a1:PP.cA 58=some PP.t58:=by kernel_rfl
 have e:∀k args,jD cl 23 PP.cA PP.nU 4096 (k+1) ω 58 args=if dd (flagsOf 23 ta) args=true then match eval cl (jD cl 23 PP.cA PP.nU 4096 k) 4096 PP.t58 ω args with
   |some (.val v)=>if v.plain=true then some v else none
   |_=>none
  else none:=λk args=>by simp only[jD,a1,ID]<;>rfl
 have aO:jD cl 23 PP.cA PP.nU 4096 3 ω 58 [.agg ah,.agg eg,.ca,.ca,.ca,.bJ none 0 [.bool (bs 0),.bool (bs 1),.bool (bs 2),.bool (bs 3)]]=some (lS ((List.range 4).filter bs)):=by
  rw[e 2,if_pos gN];rw[key];dsimp only;rw[if_pos];unfold lS;split
  ·rfl
  ·simp only[aa.plain];generalize(List.range 4).filter bs=l;induction l with
   |nil=>rfl
   |cons a l az=>simp[bG,aa.plain,aa.one,az]
 exact aO
theorem aeF:@wi jx cl PP.pn (PP.E cl 3) 58 none:=(@C9 jx cl _ _ _ _ _ _ _ (by kernel_rfl) (@PP.EH jx) (@PP.yi jx) (@PP.Rs jx) 3).2 58 none rfl
theorem adE:EG:=by
 intro ah eg bs V x1 mN mp U ab oq k1 k2
 letI:=jx
 have hm:c0 iK ⟨λ_=>.hole,0,0,wo V⟩ V:=YY V;have ao:=aeF [.agg ah,.agg eg,.ca,.ca,.ca,.bJ none 0 [.bool (bs 0),.bool (bs 1),.bool (bs 2),.bool (bs 3)]] (λω=>by rw[Rr (bs:=bs) ah eg U ab ω];rfl) [.agg ah,.agg eg,.ca,.ca,.ca,.bJ none 0 [.bool (bs 0),.bool (bs 1),.bool (bs 2),.bool (bs 3)]] ⟨λ_=>.hole,0,0,wo V⟩ (Hg λp ae=>?_) iK [x1,mN,.pointer none,.pointer none,.pointer none,mp] V hm ⟨_,_,rfl,oq,_,_,rfl,k1,_,_,rfl,rfl,_,_,rfl,rfl,_,_,rfl,rfl,_,_,rfl,k2,rfl⟩
 ·refine ao.mono λe w' ⟨v,pv,E,m',bn,he,ai,eX,bh,p,ω,ae,_,ej,e',_,ar⟩=>⟨v,he,?_⟩;rw[Rr (bs:=bs) ah eg U ab ω]at ae;have ae:=(Option.some.inj ae).symm;generalize(List.range 4).filter bs=l at ae;cases l with
  |nil=>
   refine .inl ⟨rfl,?_⟩;subst ae;rcases ar with⟨_,_,_,_,h,_⟩|⟨_,rfl⟩
   ·cases h
   ·exact ai
  |cons i0 fY=>
   refine .inr ⟨by simp,?_⟩;subst ae;rcases ar with⟨sz,len,cs,id,h,rfl,_⟩|⟨h,_⟩
   ·have h:aa.sl none 1 0 (i0::fY).length ((i0::fY).map λi:Nat=>aa.int .i64 (i:Int))=.sl none sz 0 len cs:=h;injection h with _ eD _ a2 a3;subst eD a2 a3;obtain⟨_,a,cap,rfl,lg,bq⟩:=ai;rcases bq with⟨h,_⟩|⟨b,rfl,cD,dA⟩
    ·cases h
    ·obtain⟨au,cur,ety,Fe,_⟩:=cD;refine⟨b,cap,cur,ety,(0,0),?_,lg,rfl,Fe,λk i aq=>?_⟩
     ·refine Nat.le_of_not_lt λhb=>?_;refine(bh.rest b hb (By b) λo FJ=>?_).2 (.inr ⟨_,au⟩);have zd:(b,o)∈m'.rc:=by
       rw[e'];exact List.mem_filterMap.2 ⟨b,List.mem_range.2 hb,by rw[FJ]⟩
      have:=eX.gw b o zd;rw[Fe]at this;cases this
     ·obtain⟨c,ah,ad⟩:=r5.1 dA k (aa.int .i64 ((i:Nat):Int)) (by rw[List.getElem?_map,aq];rfl);have ad:c=Value.int .i64 ((i:Nat):Int):=ad;subst ad;simpa[World.cell?,Fe]using ah
   ·cases h
 ·simp only[List.mem_cons,List.not_mem_nil,or_false]at ae;rcases ae with rfl|rfl|rfl|rfl|rfl|rfl<;>simp[aa.plain,bG,aa.one,U,ab]
end
end Go.Proofs.YtlminnpaeaganaaGreat
