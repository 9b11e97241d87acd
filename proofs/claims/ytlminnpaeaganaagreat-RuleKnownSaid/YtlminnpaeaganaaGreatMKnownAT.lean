/- Part of the proof of RuleKnown. No condition. -/
import Derived.Test.YtlminnpaeaganaaGreatMKnownAS
namespace Go.Proofs.YtlminnpaeaganaaGreat
set_option maxRecDepth 100000
set_option linter.all false
section
open Go Go.RowKit
variable[cQ]
mutual
theorem G9(i:Nat)(l:List aa):∀p:aa,p.plain=true->p.cx i l=p
 |.int _ _,_ | .bool _,_ | .str _,_ | .ca,_ | .eL,_ | .bC,_=>by simp only[aa.cx]
 |.undef,h | .bad,h | .dead _,h | .cq _,h | .ptr _ _,h | .aV _ _ _,h=>by simp[aa.plain]at h
 |.mp _ _ _ _,h=>by simp only[aa.cx]
 |.sl none _ _ _ cs,h=>by simp only[aa.cx,vU i l cs (by simpa only[aa.plain]using h)]
 |.sl (some _) _ _ _ cs,h=>by simp[aa.plain]at h
 |.bJ none _ cs,h=>by simp only[aa.cx,vU i l cs (by simpa only[aa.plain]using h)]
 |.bJ (some _) _ cs,h=>by simp[aa.plain]at h
 |.fn _ cs,h=>by simp only[aa.cx,vU i l cs (by simpa only[aa.plain]using h)]
 |.agg cs,h=>by simp only[aa.cx,vU i l cs (by simpa only[aa.plain]using h)]
 |.bD cs,h=>by simp only[aa.cx,MJ i l cs (by simpa only[aa.plain]using h)]
theorem vU(i:Nat)(l:List aa):∀c:List aa,bG c=true->jP i l c=c
 |[],_=>rfl
 |p::a7,h=>by
  simp only[bG,Bool.and_eq_true]at h;simp only[jP,G9 i l p h.1.1,vU i l a7 h.2]
theorem MJ(i:Nat)(l:List aa):∀c:List aa,jO c=true->jP i l c=c
 |[],_=>rfl
 |p::a7,h=>by
  simp only[jO,Bool.and_eq_true]at h;simp only[jP,G9 i l p h.1,MJ i l a7 h.2]
end
mutual
theorem W9{n a i:Nat}(aX:n<=i)(l:List aa):∀q:aa,q.cT n a->q.cx i l=q
 |.int _ _,_ | .bool _,_ | .str _,_ | .undef,_ | .bad,_ | .ca,_ | .eL,_ | .bC,_ | .dead _,_ | .cq _,_=>by simp only[aa.cx]
 |.ptr j o,h=>by
  simp only[aa.cT]at h;simp only[aa.cx];rw[if_neg (by omega)]
 |.aV j o z,h=>by
  simp only[aa.cT]at h;simp only[aa.cx];rw[if_neg (by omega)]
 |.sl id _ _ _ cs,h=>by
  have:e5 n a cs:=by cases id<;>simp only[aa.cT]at h<;>first|exact h|exact h.2
  simp only[aa.cx,vV aX l cs this]
 |.bJ id _ cs,h=>by
  have:e5 n a cs:=by cases id<;>simp only[aa.cT]at h<;>first|exact h|exact h.2
  simp only[aa.cx,vV aX l cs this]
 |.fn _ cs,h=>by simp only[aa.cx,vV aX l cs (by simpa only[aa.cT]using h)]
 |.agg cs,h=>by simp only[aa.cx,vV aX l cs (by simpa only[aa.cT]using h)]
 |.bD cs,h=>by simp only[aa.cx,vV aX l cs (by simpa only[aa.cT]using h)]
 |.mp _ _ _ _,h=>by simp only[aa.cx]
theorem vV{n a i:Nat}(aX:n<=i)(l:List aa):∀c:List aa,e5 n a c->jP i l c=c
 |[],_=>by simp only[jP]
 |p::a7,h=>by
  simp only[e5]at h;simp only[jP,W9 aX l p h.1,vV aX l a7 h.2]
end
theorem ZF(i:Nat)(l:List aa):xQ (aa.cx i l) where
 plain:=λq h=>G9 i l q h
 undef:=by simp only[aa.cx]
 agg:=λc=>by simp only[aa.cx,ur]
 bD:=λc=>by simp only[aa.cx,ur]
 fn:=λf c=>by simp only[aa.cx,ur]
 sl:=λ_ _ _ c=>by simp only[aa.cx,ur]
 bJ:=λ_ c=>by simp only[aa.cx,ur]
 cq:=λ_=>by simp only[aa.cx]
 one:=λq h _=>by
  cases q with
  |ptr j o=>simp only[aa.cx];split<;>exact .inl rfl
  |aV j o z=>simp only[aa.cx];split<;>(try split)<;>first|exact .inl rfl|exact .inr rfl
  |undef=>simp[aa.one]at h
  |bad=>simp[aa.one]at h
  |agg _=>simp[aa.one]at h
  |bD _=>simp[aa.one]at h
  |_=>exact .inl rfl
section
variable{X:Ctx}{F:cP}{C:b2->FuncId->List aa->Option aa}{n:Nat}{R:Out->Prop}{S:Sym}{ρ:List aa}{ids:Nat->Option Nat}{s:aA}{K:Sym->M}{t:Tree}{o:Oper}{m0:Mem}{inl yl:fh}{lx:Option Nat}{key:Nat}{E:Env}
theorem HV(i:Nat)(l:List aL):(S.oA i l).env ρ ids=S.env ρ ids:=by simp[Sym.env,Sym.oA,Sym.dD]
theorem Rel.cx(h:Rel F S ρ ids s){i:Nat}{l:List aL}{a7:List aS}(hb:S.bx[i]?=some (.cells l))(ae:hT l=some a7)(aX:S.dO<=i):
  ∃s1,dW s s1/\s1.m.n=s.m.n/\Rel F (S.oA i l) ρ ids s1:=by
 obtain⟨aG,U,ab⟩:=h.box i _ hb;have cD:=(sG ae ab).2;have aU:i<S.bx.length:=(List.getElem?_eq_some_iff.1 hb).1;refine⟨s.cx (F.n0+i) aG,Wx s U cD (by rw[h.a0,h.dO];omega) (λe he=>(h.kY e he).2),rfl,?_⟩;have tr:j8 F (S.env ρ ids) (S.env ρ ids) (aL.cx i l) (aa.cx (F.n0+i) aG):=by
  refine⟨ZF _ _,List.prefix_refl _,λ_=>rfl,rfl,rfl,rfl,λ_ _ _=>rfl,λ_=>by simp only[aL.cx],λg c=>by simp only[aL.cx,Aw],λc=>by simp only[aL.cx,Aw],λc=>by simp only[aL.cx,Aw],λ_ _ c=>by simp only[aL.cx,Aw],λc _=>by simp only[aL.cx,Aw],λj o q aH=>?_,λj o z q aH=>?_,λq aH=>?_,λk q aH=>?_,λk x fo q aH=>?_⟩
  ·unfold bZ at aH;rw[aH.1];by_cases aC:j=i
   ·subst aC;simp only[aL.cx,aa.cx,if_true];refine⟨?_,.inr rfl⟩;unfold bZ;exact⟨aG,ab,cD,rfl⟩
   ·simp only[aL.cx,aa.cx,aC,if_false];rw[if_neg (by omega)];refine⟨?_,.inr rfl⟩;unfold bZ;exact⟨rfl,aH.2⟩
  ·unfold bZ at aH;rw[aH.1];by_cases aC:j=i
   ·subst aC;simp only[aL.cx,aa.cx,if_true,(mi ab).symm];split
    ·rename_i ak;refine⟨?_,.inr rfl⟩;unfold bZ;exact⟨aG,rfl,ab,cD,by rw[(mi ab).symm];exact ak⟩
    ·exact⟨by simp only[bZ],.inl rfl⟩
   ·simp only[aL.cx,aa.cx,aC,if_false];rw[if_neg (by omega)];refine⟨?_,.inr rfl⟩;unfold bZ;exact⟨rfl,aH.2⟩
  ·unfold bZ at aH;rw[aH.1];simp only[aa.cx];rw[if_neg (by have:=aH.2.1;omega)]
  ·have iX:=aH;unfold bZ at aH;obtain⟨b,lz,g1,g2,g3⟩:=aH;have ek:aa.cx (F.n0+i) aG q=q:=by
    rw[g3];unfold mO;split
    ·split<;>simp only[aa.cx,vU _ _ _ g2.plain]
    ·simp only[aa.cx]
   rw[ek];exact⟨iX,.inr (by rw[g3];exact wm _ _ _ _)⟩
  ·have iX:=aH;unfold bZ at aH;obtain⟨b,lz,eG,dZ,gJ,g1,g2,g3,g4,g5,g6,g7,g8⟩:=aH;have ek:aa.cx (F.n0+i) aG q=q:=by
    rw[g8];simp only[aa.cx,vU _ _ _ (qJ g2.plain _)]
   rw[ek];exact⟨iX,.inr (by rw[g8];rfl)⟩
 refine⟨h.len,h.cU,λt=>?_,by show s.m.n=_;simp[Sym.oA,Sym.dD,h.dt],λj aC=>?_,λj b aC=>?_,λk id aq=>⟨(h.hO k id aq).1,(h.hO k id aq).2.1,by simpa[Sym.oA,Sym.dD]using(h.hO k id aq).2.2⟩,h.mv,by rw[HV];exact h.arr,h.a0,h.cV,h.kY,h.bb,h.new,h.keep,h.dO,h.lG,by simpa[Sym.oA,Sym.dD]using h.mS,h.an,h.kZ,h.rc⟩
 ·have:(S.oA i l).get t=aL.cx i l (S.get t):=by
   simp only[Sym.get,Sym.oA,Sym.dD];exact hJ rfl _ t
  rw[this,HV];exact tr.ow (h.slot t)
 ·simp only[aA.cx];rw[if_neg (by omega),h.old j aC];cases ix:F.lH j with
  |cells c=>simp only[di.cx];rw[←ur,vV (by omega:F.n0<=F.n0+i) aG c (h.kZ j c aC ix)]
  |inv I=>rfl
  |hole=>rfl
 ·rw[HV];simp only[Sym.oA,List.getElem?_set,List.getElem?_map,List.length_map]at aC;split at aC
  ·rename_i dL;subst dL;simp only[aU,if_true,Option.some.injEq]at aC;subst aC;trivial
  ·rename_i dL;obtain⟨gf,ix,rfl⟩:=Option.map_eq_some_iff.1 aC;have qk:=h.box j gf ix;simp only[aA.cx];rw[if_neg (by omega)];cases gf with
   |cells c=>
    obtain⟨c',aK,aO⟩:=qk;rw[aK];exact⟨_,rfl,tr.nx aO⟩
   |c8=>rw[show s.m.β (F.n0+j)=.inv F.DI from qk];rfl
   |gone=>trivial
def Cz(X:Ctx)(F:cP)(C:b2->FuncId->List aa->Option aa)(n:Nat)(R:Out->Prop)(K:Sym->M)(S:Sym)(ρ:List aa)(s:aA):Prop:=
 ∃s1,dW s s1/\s1.m.n=s.m.n/\hS X F C n R K S ρ s1
theorem Ext.bind'(S:Sym)(ρ:List aa)(v:aa)(cU:Bool)(k:Nat)(x:aR):Ext S ρ ((S.bind cU).hK k x) (ρ++[v]):=
 ⟨List.prefix_append _ _,rfl,rfl,rfl,rfl,rfl,by simp[Sym.hK,Sym.dD,Sym.bind],by simp[Sym.hK,Sym.dD,Sym.bind]⟩
theorem Yf{sz:Nat}{b:e9}{cs:List aa}{v:aa}(ah:bG cs=true)(h:iU ρ sz b (.agg cs)=some v):v.plain=true/\v.one=true:=by
 simp only[iU]at h;split at h
 ·injection h with h;subst h;trivial
 ·split at h
  ·injection h with h;subst h;trivial
  ·cases h
  ·injection h with h;subst h;trivial
 ·cases h
theorem Aj{b:e9}{cs:List aa}(hb:∀x,b=.dyn x->x.ok ρ)(v:aa):isNil (ρ++[v]) b cs=isNil ρ b cs:=yd (List.prefix_append _ _) hb
theorem ac1{k:Nat}(h:Kz k S K=.ok t)(ad:Rel F S ρ ids s)(aB:bN X.P C n t ρ R):Cz X F C n R K S ρ s:=by
 unfold Kz at h;split at h
 ·rename_i a au;obtain⟨bw,a1,rfl⟩:=ig h;obtain⟨v,ai,aB⟩:=aB.av;obtain⟨cs,ah⟩:=ad.arr k a au;have h2:a.c.den ρ=.agg cs:=ah.2.1;simp only[Prim.run,h2]at ai;obtain⟨gr,p2⟩:=Yf ah.plain ai;have hb:=ad.bind v true λ_=>p2;obtain⟨g1,g2⟩:=fO ad v gr;have gv:=c6.rel.mono (Env.p0 S ρ ids v true) au ah;obtain⟨s1,cy,dM,gC⟩:=Rel.bK hb (x:=.var S.cd) au gv g1 (by
   rw[g2];simp only[iU]at ai⊢;rw[Aj (ρ:=ρ) (b:=a.born) (cs:=cs) ah.2.2.2.2.2 v];exact ai)
  exact⟨s1,cy,dM,_,_,_,bw,a1,gC,aB,Ext.bind' S ρ v true k _⟩
 ·cases h
theorem Cz.of(h:hS X F C n R K S ρ s):Cz X F C n R K S ρ s:=⟨s,dW.refl s,rfl,h⟩
theorem o2:∀{d:Nat}{ck:List Nat}{S:Sym}{ρ:List aa}{ids:Nat->Option Nat}{s:aA}{t:Tree},kj d ck S K=.ok t->Rel F S ρ ids s->bN X.P C n t ρ R->Cz X F C n R K S ρ s
 |0,ck,S,ρ,ids,s,t,h,ad,aB=>by trivial
 |d+1,[],S,ρ,ids,s,t,h,ad,aB=>by exact Cz.of ⟨S,ρ,ids,t,h,ad,aB,Ext.refl S ρ⟩
 |d+1,k::ck,S,ρ,ids,s,t,h,ad,aB=>by
  simp only[kj]at h;split at h
  ·split at h
   ·obtain⟨s1,cy,dM,ba,bY,kP,t1,U,ab,al,aJ⟩:=ac1 (X:=X) h ad aB;obtain⟨s2,gr,p2,ji,kD,oH,t2,g1,g2,g3,g4⟩:=o2 U ab al;exact⟨s2,cy.trans gr,p2.trans dM,ji,kD,oH,t2,g1,g2,g3,aJ.trans g4⟩
   ·exact o2 h ad aB
  ·split at h
   ·rename_i c hb;have dB:S.bx[k/2]?=some (.cells c):=by grind
    split at h
    ·split at h
     ·rename_i a7 ae;split at h
      ·cases h
      ·obtain⟨s1,cy,dM,gC⟩:=ad.cx dB ae (by omega);obtain⟨s2,gr,p2,ji,kD,oH,t2,g1,g2,g3,g4⟩:=o2 h gC aB;have aj:Ext S ρ (S.oA (k/2) c) ρ:=⟨List.prefix_refl _,rfl,rfl,rfl,rfl,rfl,by grind [Sym.oA],by simp[Sym.oA,Sym.dD]⟩;exact⟨s2,cy.trans gr,p2.trans dM,ji,kD,oH,t2,g1,g2,g3,aj.trans g4⟩
     ·cases h
    ·exact o2 h ad aB
   ·exact o2 h ad aB
end
end
section
open Go Go.RowKit
variable[cQ]
section
variable{X:Ctx}{F:cP}{C:b2->FuncId->List aa->Option aa}{n:Nat}{R:Out->Prop}{S:Sym}{ρ:List aa}{ids:Nat->Option Nat}{s:aA}{K:Sym->M}{t:Tree}{o:Oper}{m0:Mem}{inl yl:fh}{lx:Option Nat}{key:Nat}{E:Env}
def hM(X:Ctx)(F:cP)(C:b2->FuncId->List aa->Option aa)(n:Nat)(R:Out->Prop)(K:Sym->M)(S:Sym)(ρ:List aa)(s:aA)(o:Oper):Prop:=
 ∃s1,dW s s1/\eQ X.P s1 o λs'=>hS X F C n R K S ρ s'
theorem jI(hb:∀t l p,o.op≠.buildSlice t l p)(h:jr X F C n R K S ρ s s.m o):hM X F C n R K S ρ s o:=by
 obtain⟨pv,U,ab⟩:=h;exact⟨s,dW.refl s,H5 (m0:=s.m) ⟨Nat.le_refl _,λ_ _=>rfl⟩ U hb ab⟩
theorem nL{ba:Sym}{bY:List aa}{s':aA}(aj:Ext S ρ ba bY)(h:hS X F C n R K ba bY s'):hS X F C n R K S ρ s':=by
 obtain⟨br,b1,dK,bw,U,ab,al,aJ⟩:=h;exact⟨br,b1,dK,bw,U,ab,al,aj.trans aJ⟩
theorem abe{ba:Sym}{bY:List aa}{s1:aA}(ao:dW s s1)(aj:Ext S ρ ba bY)(h:hM X F C n R K ba bY s1 o):hM X F C n R K S ρ s o:=by
 obtain⟨s2,U,ab⟩:=h;exact⟨s2,ao.trans U,uC (λs' _ h=>nL aj h) ab⟩
theorem Ey{ck:List Nat}{d:Nat}{fy:Sym->M}(h:kj d ck S fy=.ok t)(ad:Rel F S ρ ids s)(aB:bN X.P C n t ρ R)
  (aq:∀ba bY kP s1 t1,fy ba=.ok t1->Rel F ba bY kP s1->bN X.P C n t1 bY R->hM X F C n R K ba bY s1 o):hM X F C n R K S ρ s o:=by
 obtain⟨s1,cy,dM,ba,bY,kP,t1,U,ab,al,aJ⟩:=o2 (X:=X) h ad aB;grind [abe]
theorem AO{ck:List Nat}{fy:Sym->M}(h:thaw none key ck S fy=.ok t)(ad:Rel F S ρ ids s)(aB:bN X.P C n t ρ R)
  (aq:∀ba bY kP s1 t1,fy ba=.ok t1->Rel F ba bY kP s1->bN X.P C n t1 bY R->hM X F C n R K ba bY s1 o):hM X F C n R K S ρ s o:=by
 unfold thaw at h;grind [Ey]
theorem Hr(ad:Rel F S ρ ids s){a:c6}{cs:List aa}{len:Nat}(au:a.c.ok ρ)(ah:a.c.den ρ=.agg cs)(bX:0<a.sz)(ak:cs.length=len*a.sz)(hb:isNil ρ a.born cs=some false)(aV:∀y,a.born=.dyn y->y.ok ρ)
  (h:K (S.sP a o.dst)=.ok t) (aB:bN X.P C n t ρ R) (oI:a.born.j2=true:=by rfl):hS X F C n R K S ρ (s.pc o.dst a.sz len cs):=by
 have hdiv:cs.length/a.sz=len:=by simp_all
 obtain⟨U,ab⟩:=ad.Fa (x:=some s.m.an) (s':={ s with m:={ s.m with an:=s.m.an+1 } }) au ah bX (by grind) (by rw[hb];rfl) aV rfl rfl rfl (Nat.le_succ _) (λid e=>by grind) rfl rfl rfl;refine⟨_,ρ,_,t,h,U.put o.dst (v:=.own S.bd.length) ?_,aB,?_⟩
 ·simp_all[bZ,Sym.env,la,eA]
 ·have aj:Ext S ρ ({ S with bd:=S.bd++[some a] }:Sym) ρ:=⟨List.prefix_refl _,rfl,rfl,rfl,rfl,rfl,Nat.le_refl _,rfl⟩;exact aj.put _ _
theorem Yg(ad:Rel F S ρ ids s){a:c6}(au:a.c.ok ρ)(ah:a.c.den ρ=.agg [])(bX:0<a.sz)(hb:isNil ρ a.born []=some true)(aV:∀y,a.born=.dyn y->y.ok ρ)
  (h:K (S.sP a o.dst)=.ok t) (aB:bN X.P C n t ρ R):hS X F C n R K S ρ (s.put o.dst .bC):=by
 obtain⟨U,ab⟩:=ad.Fa (x:=none) (s':=s) au ah bX (by simp) (by rw[hb];rfl) aV rfl rfl rfl (Nat.le_refl _) (λid e=>by cases e) rfl rfl rfl;refine⟨_,ρ,_,t,h,U.put o.dst (v:=.own S.bd.length) ?_,aB,?_⟩
 ·refine⟨a,[],by grind [Sym.env],ab,?_⟩;simp[Sym.env,eA,mO]
 ·have aj:Ext S ρ ({ S with bd:=S.bd++[some a] }:Sym) ρ:=⟨List.prefix_refl _,rfl,rfl,rfl,rfl,rfl,Nat.le_refl _,rfl⟩;exact aj.put _ _
theorem BA(ad:Rel F S ρ ids s){a:c6}{cs:List aa}{it:Bool}(bL:a.born=if it then .it else .map)(au:a.c.ok ρ)(ah:a.c.den ρ=.agg cs)(bX:0<a.sz)(ak:cs.length=cs.length/a.sz*a.sz)
  (h:K (S.sP a o.dst)=.ok t) (aB:bN X.P C n t ρ R):hS X F C n R K S ρ (s.qa o.dst it a.sz cs):=by
 obtain⟨U,ab⟩:=ad.Fa (x:=some s.m.an) (s':={ s with m:={ s.m with an:=s.m.an+1 } }) au ah bX ak (by rw[bL];cases it<;>rfl) (λy e=>by grind) rfl rfl rfl (Nat.le_succ _) (λid e=>by grind) rfl rfl rfl;refine⟨_,ρ,_,t,h,U.put o.dst (v:=.own S.bd.length) ?_,aB,?_⟩
 ·refine⟨a,cs,by grind [Sym.env],ab,?_⟩;have:(({ S with bd:=S.bd++[some a] }:Sym).env ρ (eA ids S.bd.length (some s.m.an))).ids S.bd.length=some s.m.an:=by simp[Sym.env,eA]
  rw[this,bL];cases it<;>rfl
 ·have aj:Ext S ρ ({ S with bd:=S.bd++[some a] }:Sym) ρ:=⟨List.prefix_refl _,rfl,rfl,rfl,rfl,rfl,Nat.le_refl _,rfl⟩;exact aj.put _ _
theorem dh{x y:aR}(h:x.b y=true):x.den ρ=y.den ρ:=by
 induction x generalizing y with
 |var i=>cases y<;>simp[aR.b]at h;subst h;rfl
 |proj x j az=>cases y<;>simp[aR.b]at h;grind [aR.den]
 |bu v=>
  cases y with
  |bu u=>
   simp only[aR.b]at h;unfold Cx at h;grind
  |_=>trivial
theorem abf{ty:TypeId}{l c:Operand}(aE:o.op=.makeSlice ty l c)(h:D8 X none o ty l c S K=.ok t)(ad:Rel F S ρ ids s)(aB:bN X.P C n t ρ R):hM X F C n R K S ρ s o:=by
 unfold D8 at h;simp  at h;split at h
 ·rename_i e hu;split at h
  ·rename_i a b z au hb bO;split at h
   ·rename_i hx;obtain⟨dS,c2,c3,c4,ot⟩:=hx;obtain⟨bw,a1,rfl⟩:=ig h;obtain⟨v,ai,aB⟩:=aB.av;have ak:=ad.ay l;have ah:=ad.ay c;rw[au]at ak;rw[hb]at ah;simp only[bZ]at ak ah;have gv:s.ay c=s.ay l:=by grind [dh]
    simp only[Prim.run,tL,aS.den]at ai;split at ai
    ·rename_i k aq;split at ai
     ·rename_i lp;injection ai with ai;subst ai;have er:s.ay l=.int .i64 k:=by rw[ak.1];exact aq
      have amv:bG (e8 z k.toNat)=true:=by
       have:∀j,bG (e8 z j)=true:=λj=>by
        induction j with
        |zero=>rfl
        |succ j az=>exact C0 c2 az
       grind
      obtain⟨g1,g2⟩:=fO ad (.agg (e8 z k.toNat)) (by assumption);have agP:=ad.bind (.agg (e8 z k.toNat)) false (by simp);refine⟨s,dW.refl s,?_⟩;simp only[eQ,aE,hu,er,gv];refine⟨z,bO,c3,c4,ot,lp.1,Int.le_refl _,lp.2.1,lp.2.2,?_⟩;exact nL (Ext.bind S ρ _ false) (Hr (a:=⟨X.P.cellsOf e,.real,.var S.cd⟩) agP g1 g2 (by grind) (by rw[yf,c3]) rfl (λy e=>by cases e) a1 aB)
     ·cases ai
    ·cases ai
   ·cases h
  ·cases h
 ·cases h
theorem ac2{e:TypeId}{x:Operand}(aE:o.op=.box e x)(h:uP X e (S.ay x) S (λc S=>K (S.gu o.dst c))=.ok t)(ad:Rel F S ρ ids s)(aB:bN X.P C n t ρ R):hM X F C n R K S ρ s o:=by
 obtain⟨c,ba,bY,t1,U,ab,al,aJ,bm,bI,cS⟩:=Ax h ad (ad.ay x) aB;refine⟨s,dW.refl s,?_⟩;simp only[eQ,aE];refine⟨cS,ba.gu o.dst c,bY,ids,t1,U,ab.gu o.dst bI,al,aJ.trans ?_⟩;have aj:Ext ba bY (ba.mq c) bY:=⟨List.prefix_refl _,rfl,rfl,rfl,rfl,rfl,by simp[Sym.mq],rfl⟩;exact aj.put _ _
theorem ZG{e:TypeId}{z:List aa}(aE:o.op=.alloc e)(bO:ki X.P e=some z)(ae:bG z=true)(h:K (S.gu o.dst (oJ z))=.ok t)(ad:Rel F S ρ ids s)(aB:bN X.P C n t ρ R):hM X F C n R K S ρ s o:=by
 refine⟨s,dW.refl s,?_⟩;simp only[eQ,aE];refine⟨z,bO,S.gu o.dst (oJ z),ρ,ids,t,h,ad.gu o.dst (wB ae),aB,?_⟩;have aj:Ext S ρ (S.mq (oJ z)) ρ:=⟨List.prefix_refl _,rfl,rfl,rfl,rfl,rfl,by simp[Sym.mq],rfl⟩;exact aj.put _ _
theorem ZH{l:List aL}{aG:List aa}(h:cJ F E l aG)(ao:l.all aL.E5=true):aG.all aa.one=true:=by
 rw[List.all_eq_true]at ao⊢;intro q aH;obtain⟨j,aC⟩:=List.mem_iff_getElem?.1 aH;have aU:j<l.length:=by grind [mi]
 have ai:l[j]?=some l[j]:=by simp[aU]
 refine((jL.1 h).2 j _ q ai aC).2.resolve_left λe=>?_;have:=ao l[j] (by simp);rw[e]at this;cases this
theorem Nb{sz:Nat}{y:aa}{m:Nat}{news:List aa}(aF:y.plain=true)(h:wO sz y=some (m,news)):bG news=true:=by
 unfold wO at h;split at h
 ·injection h with h;injection h with _ h;subst h;rfl
 ·rename_i id iL off len cs;split at h
  ·injection h with h;injection h with _ h;subst h;cases id with
   |none=>assumption
   |some i=>trivial
  ·cases h
 ·cases h
theorem Nc{l:List aa}(h:bG l=true)(id:Nat):∀c∈l,w8 id c:=λc ah=>Dn _ c ((hH _).1 h c ah).1
theorem Hs{l:List aa}(h:bG l=true):l.all aa.one=true:=List.all_eq_true.2 λq aH=>((hH _).1 h q aH).2
theorem Rel.Sa(h:Rel F S ρ ids s){k:Nat}{a:c6}{c':aR}{cs':List aa}{x:Option Nat}(au:S.bd.getD k none=some a)(cr:ids k=none)(hA:c'.ok ρ)(oT:c'.den ρ=.agg cs')(bX:0<a.sz)(ak:cs'.length=cs'.length/a.sz*a.sz)(aI:isNil ρ a.born cs'=some x.isNone)
  (aV:∀y,a.born=.dyn y->y.ok ρ) {s':aA} (aN:s'.g=s.g) (fW:s'.m.β=s.m.β) (Cw:s'.m.n=s.m.n) (l7:s.m.an<=s'.m.an) (aj:∀id,x=some id->s.m.an<=id/\id<s'.m.an) (aT:s'.a0=s.a0) (he:s'.bb=s.bb) (fb:s'.m.rc=s.m.rc):
  Rel F (S.dm k true { a with c:=c' }) ρ (eA ids k x) s'/\c6.rel ((S.dm k true { a with c:=c' }).env ρ (eA ids k x)) k { a with c:=c' } cs':=by
 have vl:=Ai au;have gM:c6.rel ((S.dm k true { a with c:=c' }).env ρ (eA ids k x)) k { a with c:=c' } cs':=⟨hA,oT,bX,ak,by simpa[Sym.env,eA]using aI,aV⟩;have zs:∀j,j≠k->((S.dm k true { a with c:=c' }).env ρ (eA ids k x)).ids j=ids j:=λj aC=>by simp[Sym.env,eA,aC]
 have kH:∀j b,j≠k->(S.env ρ ids).bd.getD j none=some b->((S.dm k true { a with c:=c' }).env ρ (eA ids k x)).bd.getD j none=some b:=λj b aC hb=>by
  simp only[Sym.env,Sym.dm,Sym.dD];rw[o5,if_neg (λe=>aC e.1)];exact hb
 have lU:∀j b l,j≠k->c6.rel (S.env ρ ids) j b l->c6.rel ((S.dm k true { a with c:=c' }).env ρ (eA ids k x)) j b l:=λj b l aC hb=>by
  obtain⟨g1,g2,g3,g4,g5,g6⟩:=hb;exact⟨g1,g2,g3,g4,by rw[zs j aC];exact g5,g6⟩
 have tr:j8 F (S.env ρ ids) ((S.dm k true { a with c:=c' }).env ρ (eA ids k x)) (aL.q2 k true) (λq=>q):=by
  refine⟨R8,List.prefix_refl _,λx=>rfl,rfl,rfl,rfl,λ_ _ _=>rfl,λ_=>by simp only[aL.q2],λg l=>by simp only[aL.q2,qQ],λl=>by simp only[aL.q2,qQ],λl=>by simp only[aL.q2,qQ],λ_ _ l=>by simp only[aL.q2,qQ],λl _=>by simp only[aL.q2,qQ],λi o q aH=>?_,λi o z q aH=>?_,λq aH=>rfl,λj q aH=>?_,λj y fo q aH=>?_⟩
  ·have iX:=aH;unfold bZ at iX;refine⟨?_,.inr (by rw[iX.1];rfl)⟩;show bZ F _ (aL.ptr i o) _;unfold bZ;exact⟨iX.1,by have:=iX.2;simpa[Sym.env,Sym.dm,Sym.dD]using this⟩
  ·have iX:=aH;unfold bZ at iX;refine⟨?_,.inr (by rw[iX.1];rfl)⟩;show bZ F _ (aL.aV i o z) _;unfold bZ;exact⟨iX.1,by have:=iX.2;simpa[Sym.env,Sym.dm,Sym.dD]using this⟩
  ·unfold bZ at aH;obtain⟨b,lz,g1,g2,g3⟩:=aH;by_cases ev:j=k
   ·simp only[aL.q2,ev,and_self,if_true];exact⟨by simp only[bZ],.inl trivial⟩
   ·simp only[aL.q2,ev,false_and,if_false];refine⟨?_,.inr (by rw[g3];exact wm _ _ _ _)⟩;unfold bZ;exact⟨b,lz,kH j b ev g1,lU j b lz ev g2,by rw[zs j ev];exact g3⟩
  ·unfold bZ at aH;obtain⟨b,lz,eG,dZ,gJ,g1,g2,g3,g4,g5,g6,g7,g8⟩:=aH;by_cases ev:j=k
   ·simp only[aL.q2,ev,if_true];exact⟨by simp only[bZ],.inl trivial⟩
   ·simp only[aL.q2,ev,if_false];refine⟨?_,.inr (by rw[g8];rfl)⟩;unfold bZ;exact⟨b,lz,eG,dZ,gJ,kH j b ev g1,lU j b lz ev g2,by rw[zs j ev];exact g3,g4,g5,g6,g7,g8⟩
 refine⟨⟨h.len,h.cU,λt=>?_,by rw[Cw];simpa[Sym.dm,Sym.dD]using h.dt,λi aX=>by rw[fW];exact h.old i aX,λi b hb=>?_,λj eG aC=>?_,λj j5 eG aC jB=>?_,λj b hb=>?_,by rw[aT];exact h.a0,h.cV,by rw[he];exact h.kY,λlA=>?_,λlA j eG aC h3=>?_,λlA j aC=>?_,h.dO,by simpa[Sym.dm,Sym.dD]using h.lG,by simpa[Sym.dm,Sym.dD]using h.mS,Nat.le_trans h.an l7,h.kZ,by rw[fb];exact h.rc⟩,gM⟩
 ·have:(S.dm k true { a with c:=c' }).get t=aL.q2 k true (S.get t):=by
   simp only[Sym.get,Sym.dm,Sym.dD];exact hJ rfl _ t
  rw[this,aN];exact tr.ow (h.slot t)
 ·simp only[Sym.dm,Sym.dD,List.getElem?_map]at hb;obtain⟨gf,ix,rfl⟩:=Option.map_eq_some_iff.1 hb;have qk:=h.box i gf ix;rw[fW];cases gf with
  |cells l=>
   obtain⟨aG,aK,aO⟩:=qk;exact⟨_,aK,by have:=tr.nx aO;simpa using this⟩
  |c8=>exact qk
  |gone=>trivial
 ·simp only[eA]at aC;split at aC
  ·rename_i e;subst e;obtain⟨U,ab⟩:=aj eG aC;exact⟨by have:=h.an;have:=h.cV.1;omega,ab,by simpa[Sym.dm,Sym.dD]using vl⟩
  ·obtain⟨U,ab,al⟩:=h.hO j eG aC;exact⟨U,by omega,by simpa[Sym.dm,Sym.dD]using al⟩
 ·simp only[eA]at aC jB;split at aC<;>split at jB
  ·omega
  ·obtain⟨U,ab⟩:=aj eG aC;have:=(h.hO j5 eG jB).2.1;omega
  ·obtain⟨U,ab⟩:=aj eG jB;have:=(h.hO j eG aC).2.1;omega
  ·exact h.mv j j5 eG aC jB
 ·by_cases ev:j=k
  ·subst ev;have:b={ a with c:=c' }:=by
    simp only[Sym.dm,Sym.dD]at hb;rw[o5,if_pos ⟨rfl,vl⟩]at hb;injection hb with hb;exact hb.symm
   subst this;exact⟨cs',gM⟩
  ·have dB:S.bd.getD j none=some b:=by
    simp only[Sym.dm,Sym.dD]at hb;rw[o5,if_neg (λe=>ev e.1)]at hb;exact hb
   obtain⟨l,er⟩:=h.arr j b dB;exact⟨l,lU j b l ev er⟩
 ·rw[he];exact h.bb (A9 lA)
 ·simp only[Sym.dm,Sym.dD,Bool.or_eq_false_iff]at lA;simp only[eA]at aC;split at aC
  ·obtain⟨U,ab⟩:=aj eG aC;have:=h.an;omega
  ·exact h.new lA.1 j eG aC h3
 ·simp only[Sym.dm,Sym.dD,Bool.or_eq_false_iff,decide_eq_false_iff_not]at lA;have ab:j<S.base:=aC;obtain⟨g1,g2⟩:=h.keep lA.1 j ab;refine⟨?_,by simp only[eA];rw[if_neg (by omega)];exact g2⟩;simp only[Sym.dm,Sym.dD];rw[o5,if_neg (λe=>by omega)];exact g1
end
end
section
open Go Go.RowKit
variable[cQ]
section
variable{X:Ctx}{F:cP}{C:b2->FuncId->List aa->Option aa}{n:Nat}{R:Out->Prop}{S:Sym}{ρ:List aa}{ids:Nat->Option Nat}{s:aA}{K:Sym->M}{t:Tree}{o:Oper}{m0:Mem}{inl yl:fh}{lx:Option Nat}{key:Nat}{E:Env}
theorem qW{ba:Sym}{bY:List aa}(k:Nat)(all:Bool)(a:c6):Ext ba bY (ba.dm k all a) bY:=
 ⟨List.prefix_refl _,rfl,rfl,rfl,rfl,rfl,by simp[Sym.dm,Sym.dD],by simp[Sym.dm,Sym.dD]⟩
theorem Xa{b:e9}{cs cs':List aa}(ao:b.still=true)(h:isNil ρ b cs=some false)(bU:cs'≠[]):isNil ρ b cs'=some false:=by
 cases b with
 |real=>rfl
 |cZ=>
  cases cs' with
  |nil=>grind
  |cons _ _=>rfl
 |dyn x=>cases ao
 |map=>cases ao
 |it=>cases ao
theorem Ht{b:e9}{cs:List aa}(ao:b.still=true)(h:isNil ρ b cs=some true):b=.cZ/\cs=[]:=by
 cases b with
 |real=>grind [isNil]
 |cZ=>grind [isNil]
 |dyn x=>cases ao
 |map=>cases ao
 |it=>cases ao
theorem qM{b:e9}(h:b.still=true):b.j2=true:=by cases b<;>first|rfl|cases h
theorem Yh{c:Call}{ty:TypeId}{x y:Operand}(aE:o.op=.call c)(de:c.callee=.builtin .append)(dA:c.argTypes=⟨[ty,ty]⟩)(F2:c.args.toList=[x,y])(h:Dl X none o ty x y S K=.ok t)(ad:Rel F S ρ ids s)(aB:bN X.P C n t ρ R):hM X F C n R K S ρ s o:=by
 unfold Dl at h;simp only[Option.isSome_none,Bool.false_eq_true,if_false]at h;split at h
 ·rename_i e hu;split at h
  ·rename_i hx;obtain⟨dS,c2,c3⟩:=hx;refine Ey h ad aB λS ρ ids s t h ad aB=>?_;split at h
   ·rename_i L9 ai7;obtain⟨aF,hyp⟩:=ad.cu ai7;have hW:∀fy:aA->Prop,eQ X.P s o fy=(ty=ty/\uB X.P s o.dst ty (s.ay x) (s.ay y) fy):=λfy=>by grind [eQ]
    refine⟨s,dW.refl s,?_⟩;rw[hW];refine⟨rfl,?_⟩;simp only[uB,hu];refine⟨dS,c2,c3,?_⟩;have hd:=ad.ay x;split at h
    ·rename_i k LC;rw[LC]at hd;unfold bZ at hd;obtain⟨a,cs,U,ab,al⟩:=hd;split at h
     ·rename_i a' kR;have:a'=a:=by have:=kR.symm.trans U;injection this
      subst this;split at h
      ·rename_i Le;obtain⟨bX,pg⟩:=Le;obtain⟨bw,a1,rfl⟩:=ig h;obtain⟨v,ai,aB⟩:=aB.av;have h2:a'.c.den ρ=.agg cs:=ab.2.1;simp only[Prim.run,h2,←aF]at ai;unfold uW at ai;split at ai
       ·rename_i gD m news xo tM;injection xo with xo;subst xo;split at ai
        ·rename_i lp;obtain⟨fj,gB,dI⟩:=lp;injection ai with ai;subst ai;have q8:=Nb hyp tM;have cD:=C0 ab.plain q8;have hb:=ad.bind (.agg (cs++news)) false (by simp);obtain⟨g1,g2⟩:=fO ad (.agg (cs++news)) (by simpa only[aa.plain]using cD);have ha:=c6.rel.mono (Env.p0 S ρ ids (.agg (cs++news)) false) U ab;have eb:=ab.2.2.1;have hlen:=ab.2.2.2.1;have er:(cs++news).length=(cs++news).length/a'.sz*a'.sz/\(cs++news).length/a'.sz=cs.length/a'.sz+m:=by
          have e:(cs++news).length=(cs.length/a'.sz+m)*a'.sz:=by rw[List.length_append,fj,Nat.add_mul,←hlen]
          have aO:(cs++news).length/a'.sz=cs.length/a'.sz+m:=by rw[e];exact Nat.mul_div_cancel _ eb
          exact⟨by rw[aO];exact e,aO⟩
         have agQ:X.P.cellsOf e=a'.sz:=bX.symm;rw[agQ,tM];refine⟨Hs q8,?_⟩;cases cr:ids k with
         |some id=>
          rw[show(S.env ρ ids).ids k=some id from cr,la (qM pg)]at al;simp only[al];refine⟨trivial,trivial,gB,dI,Nc cD id,?_⟩;have fK:=ab.2.2.2.2.1;rw[show(S.env ρ ids).ids k=some id from cr]at fK;have bU:cs++news≠[]\/a'.born=.real:=by
           cases zZ:a'.born with
           |real=>exact .inr rfl
           |cZ=>
            refine .inl λe=>?_;have:cs=[]:=(List.append_eq_nil_iff.1 e).1;rw[zZ,this]at fK;simp[isNil]at fK
           |dyn y=>rw[zZ]at pg;cases pg
           |map=>rw[zZ]at pg;cases pg
           |it=>rw[zZ]at pg;cases pg
          have qv:isNil (ρ++[.agg (cs++news)]) a'.born (cs++news)=some false:=by
           rcases bU with bU|bU
           ·exact Xa (cs:=cs) pg ((Aj (ρ:=ρ) ab.2.2.2.2.2 _).trans fK) bU
           ·rw[bU];rfl
          obtain⟨eh,r2⟩:=hb.gY (k:=k) (id:=id) (c':=.var S.cd) (all:=true) (EE:=[.kill id]) U ha cr (λe he=>by simp only[List.mem_singleton]at he;subst he;exact⟨rfl,trivial⟩) g1 g2 er.1 qv (λe=>by cases e);refine⟨_,_,ids,bw,a1,eh.put o.dst (v:=.own k) ?_,aB,(Ext.bind S ρ (.agg (cs++news)) false).trans ((qW k true _).put _ _)⟩;unfold bZ;refine⟨_,cs++news,?_,r2,?_⟩
          ·simp only[Sym.env,Sym.dm,Sym.dD];rw[o5,if_pos ⟨rfl,Ai U⟩]
          ·rw[show((S.bind false).dm k true { a' with c:=.var S.cd }).env (ρ++[.agg (cs++news)]) ids=⟨ρ++[.agg (cs++news)],((S.bind false).dm k true { a' with c:=.var S.cd }).bd,((S.bind false).dm k true { a' with c:=.var S.cd }).bx.length,ids⟩from rfl];rw[la (qM pg)];simp only[cr,er.2]
         |none=>
          rw[show(S.env ρ ids).ids k=none from cr,la (qM pg)]at al;have fK:=ab.2.2.2.2.1;rw[show(S.env ρ ids).ids k=none from cr]at fK;obtain⟨ix,hcs⟩:=Ht pg fK;subst hcs;simp only[List.length_nil,Nat.zero_div,Nat.zero_add,List.nil_append]at gB dI er hb g1 g2 ha⊢;simp only[al];refine⟨gB,dI,?_⟩;by_cases hm:m=0
          ·rw[if_pos hm];have nf:news=[]:=List.eq_nil_of_length_eq_zero (by rw[fj,hm];simp);subst nf;obtain⟨eh,r2⟩:=hb.Sa (k:=k) (c':=.var S.cd) (cs':=[]) (x:=none) (s':=s) U cr g1 g2 eb (by simp) (by rw[ix];rfl) (λy e=>by rw[ix]at e;cases e) rfl rfl rfl (Nat.le_refl _) (λid e=>by cases e) rfl rfl rfl;refine⟨_,_,_,bw,a1,eh.put o.dst (v:=.own k) ?_,aB,(Ext.bind S ρ (.agg []) false).trans ((qW k true _).put _ _)⟩;unfold bZ;refine⟨_,[],?_,r2,?_⟩
           ·simp only[Sym.env,Sym.dm,Sym.dD];rw[o5,if_pos ⟨rfl,Ai U⟩]
           ·simp[Sym.env,eA,mO]
          ·rw[if_neg hm];have nf:news≠[]:=λe=>by
            rw[e]at fj;simp only[List.length_nil]at fj;rcases Nat.mul_eq_zero.1 fj.symm with aK|aK
            ·exact hm aK
            ·omega
           obtain⟨eh,r2⟩:=hb.Sa (k:=k) (c':=.var S.cd) (cs':=news) (x:=some s.m.an) (s':={ s with m:={ s.m with an:=s.m.an+1 } }) U cr g1 g2 eb er.1 (by
            rw[ix];cases news with
            |nil=>exact absurd rfl nf
            |cons _ _=>rfl) (λy e=>by rw[ix]at e;cases e) rfl rfl rfl (Nat.le_succ _) (λid e=>by injection e with e;subst e;exact⟨Nat.le_refl _,Nat.lt_succ_self _⟩) rfl rfl rfl
           refine⟨_,_,_,bw,a1,eh.put o.dst (v:=.own k) ?_,aB,(Ext.bind S ρ (.agg news) false).trans ((qW k true _).put _ _)⟩;unfold bZ;refine⟨_,news,?_,r2,?_⟩
           ·simp only[Sym.env,Sym.dm,Sym.dD];rw[o5,if_pos ⟨rfl,Ai U⟩]
           ·rw[la (qM pg)];simp[Sym.env,eA,er.2]
        ·cases ai
       ·cases ai
      ·cases h
     ·cases h
    ·rename_i LC;rw[LC]at hd;unfold bZ at hd;have xG:s.ay x=.bC:=hd.1;obtain⟨bw,a1,rfl⟩:=ig h;obtain⟨v,ai,aB⟩:=aB.av;simp only[Prim.run,aR.den,←aF]at ai;unfold uW at ai;split at ai
     ·rename_i gD m news xo tM;injection xo with xo;subst xo;split at ai
      ·rename_i lp;obtain⟨fj,gB,dI⟩:=lp;injection ai with ai;subst ai;have q8:=Nb hyp tM;simp only[List.length_nil,Nat.zero_div,Nat.zero_add,List.nil_append]at gB dI aB;have hb:=ad.bind (.agg news) false (by simp);obtain⟨g1,g2⟩:=fO ad (.agg news) (by simpa only[aa.plain]using q8);rw[tM,xG];refine⟨Hs q8,gB,dI,?_⟩;refine nL (Ext.bind S ρ (.agg news) false) ?_;by_cases hm:m=0
       ·rw[if_pos hm];have nf:news=[]:=List.eq_nil_of_length_eq_zero (by rw[fj,hm];simp);subst nf;exact Yg (a:=⟨X.P.cellsOf e,.cZ,.var S.cd⟩) hb g1 g2 c2 rfl (λy e=>by cases e) a1 aB
       ·rw[if_neg hm];have nf:news≠[]:=λe'=>by
         rw[e']at fj;simp only[List.length_nil]at fj;rcases Nat.mul_eq_zero.1 fj.symm with aK|aK
         ·exact hm aK
         ·omega
        exact Hr (a:=⟨X.P.cellsOf e,.cZ,.var S.cd⟩) hb g1 g2 c2 fj (by
         cases news with
         |nil=>exact absurd rfl nf
         |cons _ _=>rfl) (λy e=>by cases e) a1 aB
      ·cases ai
     ·cases ai
    ·cases h
   ·cases h
  ·cases h
 ·cases h
end
end
section
open Go Go.RowKit
variable[cQ]
theorem Xb(l:List aa)(off:Nat)(v:aa)(af:List aa)(h:off+(v::af).length<=l.length):fa (l.set off v) (off+1) af=fa l off (v::af):=by grind [fa,List.take_succ_eq_append_getElem,List.take_set_of_le,List.drop_set_of_lt]
theorem I4(id sz len:Nat):∀(af:List aa)(off:Nat)(cs:List aa),bG cs=true->bG af=true->off+af.length<=cs.length->aa.sub (nd id off af) (.sl (some id) sz 0 len cs)=.sl (some id) sz 0 len (fa cs off af)
 |[],off,cs,_,_,h=>by simp_all[nd,fa]
 |v::af,off,cs,ah,ai,h=>by
  simp[bG]at ai;simp  at h;simp[nd,aa.sub,aa.bW,if_true,pS _ cs ah,setAt];have gv:bG (cs.set off v)=true:=(hH _).2 λp ae=>by grind [hH]
  rw[I4 id sz len af (off+1) _ gv ai.2 (by simp;omega),Xb cs off v af (by grind)]
theorem V8{l af:List aa}{off:Nat}(h:off+af.length<=l.length):(fa l off af).length=l.length:=by grind [fa]
theorem V9{l af:List aa}{off:Nat}(h:bG l=true)(ai:bG af=true):bG (fa l off af)=true:=C0 (C0 (uh h _) ai) (qJ h _)
theorem I5{id:Nat}{e:b9}:∀{af:List aa}{off:Nat},e∈nd id off af->e.id=id/\∃v∈af,∃p,e=.wr id p v
 |[],_,h=>by cases h
 |v::af,off,h=>by
  simp[nd]at h;rcases h with rfl|h
  ·exact⟨rfl,v,by simp,off,rfl⟩
  ·obtain⟨U,u,ab,p,al⟩:=I5 h;grind
section
variable{X:Ctx}{F:cP}{C:b2->FuncId->List aa->Option aa}{n:Nat}{R:Out->Prop}{S:Sym}{ρ:List aa}{ids:Nat->Option Nat}{s:aA}{K:Sym->M}{t:Tree}{o:Oper}{m0:Mem}{inl yl:fh}{lx:Option Nat}{key:Nat}{E:Env}
theorem NO{ty:TypeId}{x y:Operand}{i off:Nat}(aj:S.ay x=.ptr i off)(h:uP X ty (S.ay y) S (λc S=>match S.bx[i]? with
  |some (ga.cells l)=>if c.length=X.P.cellsOf ty/\c.all aL.E5=true/\off+c.length<=l.length/\(lx.all λb=>decide (off=0)&&decide (b<=i)&&decide (l.length=c.length))then K (S.hq i (AX l off c))else die "x"
  |_=>die "x")=.ok t)(ad:Rel F S ρ ids s)(aB:bN X.P C n t ρ R):
  s.ay x=.ptr (F.n0+i) off/\i<S.bx.length/\(s.ay y).cells.length=X.P.cellsOf ty/\(s.ay y).cells.all aa.one=true/\∃l,s.m.β (F.n0+i)=.cells l/\off+(s.ay y).cells.length<=l.length/\(∀b,lx=some b->off=0/\b<=i/\l.length=(s.ay y).cells.length)/\hS X F C n R K S ρ (s.hq (F.n0+i) (fa l off (s.ay y).cells)):=by
 have hd:=ad.ay x;rw[aj]at hd;obtain⟨c,ba,bY,t1,U,ab,al,aJ,bm,bI,cS⟩:=Ax h ad (ad.ay y) aB;dsimp only at U;split at U
 ·rename_i l hb;split at U
  ·rename_i hx;obtain⟨dS,c2,c3,c4⟩:=hx;obtain⟨aG,g1,g2⟩:=ab.box i _ hb;have F7:=mi bI;have sh:=mi g2;refine⟨hd.1,hd.2,by grind,ZH bI c2,aG,g1,by grind,λb se=>?_,?_⟩
   ·grind
   ·exact⟨_,_,ids,t1,U,ab.hq hb (NL g2 bI off),al,aJ.trans ⟨List.prefix_refl _,rfl,rfl,rfl,rfl,rfl,by simp[Sym.hq],rfl⟩⟩
  ·cases U
 ·cases U
theorem ZI{ty:TypeId}{x y:Operand}(aE:o.op=.store ty x y)(h:DC X none o ty x y S K=.ok t)(ad:Rel F S ρ ids s)(aB:bN X.P C n t ρ R):hM X F C n R K S ρ s o:=by
 unfold DC at h;split at h
 ·cases h
 ·rename_i aV;have nX:o.dst=none:=by cases bq:o.dst<;>simp[bq]at aV⊢
  have c1:(X.P.info? ty).isSome:=by cases bq:X.P.info? ty<;>simp[bq]at aV⊢
  split at h
  ·rename_i i off aj;obtain⟨aK,aO,bS,b8,l,en,l9,_,ue⟩:=NO (lx:=none) aj h ad aB;refine⟨s,dW.refl s,?_⟩;simp only[eQ,aE];refine⟨nX,?_⟩;rw[aK];exact⟨by rw[ad.dt];omega,c1,bS,b8,l,en,l9,ue⟩
  ·split at h
   ·cases h
   ·rename_i Le;have eb:X.P.cellsOf ty≠0:=by grind
    refine Ey h ad aB λS ρ ids s t h ad aB=>?_;obtain⟨c,ba,bY,t1,U,ab,al,aJ,bm,bI,cS⟩:=Ax h ad (ad.ay y) aB;dsimp only at U;split at U
    ·rename_i k e fo aj;have hd:=ab.ay x;rw[aj]at hd;obtain⟨a,cs,id,dZ,gJ,cy,dM,gC,jF,kB,kC,qH,x7⟩:=hd;split at U
     ·rename_i a' a7 kR gy;have:a'=a:=by have:=kR.symm.trans cy;injection this
      subst this;split at U
      ·cases U
      ·rename_i Gm;have hA:c.length=X.P.cellsOf ty/\fo+c.length<=a'.sz:=by
        simp  at Gm;exact⟨Gm.1,by omega⟩
       have oI:a'.born.j2=true:=by
        simp  at Gm;simpa using Gm.2.2
       obtain⟨t2,a1,rfl⟩:=ig U;obtain⟨v,ai,Bo⟩:=al.av;obtain⟨qw,rK⟩:=sG gy bI;have F7:=mi bI;have h2:a'.c.den bY=.agg cs:=dM.2.1;have ai8:e.den bY=.int gJ dZ:=jF;simp only[Prim.run,vd,h2,ai8]at ai;rw[show ep bY a7=(s.ay y).cells from qw.symm]at ai;split at ai
       ·rename_i lp;injection ai with ai;subst ai;have cD:=V9 (off:=dZ.toNat*a'.sz+fo) dM.plain rK;have hlen:(fa cs (dZ.toNat*a'.sz+fo) (s.ay y).cells).length=cs.length:=V8 lp;have hb:=ab.bind (.agg (fa cs (dZ.toNat*a'.sz+fo) (s.ay y).cells)) false (by simp);obtain⟨g1,g2⟩:=fO ab (.agg (fa cs (dZ.toNat*a'.sz+fo) (s.ay y).cells)) (by simpa only[aa.plain]using cD);have Ls:=c6.rel.mono (Env.p0 ba bY ids (.agg (fa cs (dZ.toNat*a'.sz+fo) (s.ay y).cells)) false) cy dM;have fK:=dM.2.2.2.2.1;have bU:fa cs (dZ.toNat*a'.sz+fo) (s.ay y).cells≠[]:=λe'=>by
         have:=congrArg List.length e';rw[hlen]at this;rw[this]at qH;simp at qH
        have qv:isNil (bY++[.agg (fa cs (dZ.toNat*a'.sz+fo) (s.ay y).cells)]) a'.born (fa cs (dZ.toNat*a'.sz+fo) (s.ay y).cells)=some false:=by
         rw[Aj (ρ:=bY) dM.2.2.2.2.2];have hcs:cs≠[]:=λe'=>by rw[e']at qH;simp at qH
         cases zZ:a'.born with
         |real=>rfl
         |cZ=>
          cases fM:fa cs (dZ.toNat*a'.sz+fo) (s.ay y).cells with
          |nil=>exact absurd fM bU
          |cons _ _=>rfl
         |dyn z=>
          rw[zZ]at fK;simp only[isNil,Sym.env]at fK⊢;cases bO:z.den bY with
          |bool b=>
           rw[bO]at fK;cases b
           ·rfl
           ·cases cs with
            |nil=>exact absurd rfl hcs
            |cons _ _=>simp at fK
          |_=>rw[bO]at fK;simp at fK
         |map=>rfl
         |it=>rfl
        obtain⟨eh,r2⟩:=hb.gY (k:=k) (id:=id) (c':=.var ba.cd) (all:=false) (EE:=nd id (dZ.toNat*a'.sz+fo) (s.ay y).cells) cy Ls gC (λe he=>by
          obtain⟨CO,u,hF,p,rfl⟩:=I5 he;exact⟨rfl,λn an=>AL n an u ((hH _).1 rK u hF).1⟩) g1 g2 (by rw[hlen];exact dM.2.2.2.1) qv (λ_=>by rw[la oI,la oI];simp only;rw[hlen];exact I4 id a'.sz _ _ _ cs dM.plain rK lp)
        refine⟨s,dW.refl s,?_⟩;simp only[eQ,aE];refine⟨nX,?_⟩;rw[x7];refine⟨c1,Nat.pos_of_ne_zero eb,by rw[←F7];exact hA.1,Hs rK,by rw[List.length_drop];omega,Nc rK id,?_⟩;exact⟨_,_,ids,t2,a1,eh,Bo,aJ.trans ((Ext.bind ba bY _ false).trans (qW k false _))⟩
       ·cases ai
     ·cases U
    ·cases U
  ·injection h with h;subst h;exact(QZ aB).elim
  ·cases h
theorem Sb{c:List aL}{c':List aa}{a7:List aS}(h:cJ F E c c')(ae:hT c=some a7):c'=ep E.ρ a7/\bG c'=true:=sG ae h
theorem VL{ty:TypeId}{len:Nat}{parts:Array (Nat×Operand)}(aE:o.op=.buildSlice ty len parts)(h:Ab X none key o ty len parts S K=.ok t)(ad:Rel F S ρ ids s)(aB:bN X.P C n t ρ R):hM X F C n R K S ρ s o:=by
 unfold Ab at h;split at h
 ·rename_i e hu;split at h
  ·rename_i z bO;split at h
   ·rename_i hx;obtain⟨dS,c2,c3,c4,ot⟩:=hx;split at h
    ·obtain⟨cs,ba,bY,t1,U,ab,al,aJ,bm,bI⟩:=Ec ad parts (λ_=>e) h aB;split at U
     ·rename_i l ak;obtain⟨aG,g1,g2⟩:=AN bI (Iw (wB dS) len) ak;refine⟨s,dW.refl s,?_⟩;simp only[eQ,aE,hu,Option.elim_some,bO];exact⟨c2,c3,c4,ot,aG,g1,.inr (.inr ⟨_,bY,ids,t1,U,ab.dz o.dst _ _ g2,al,aJ.trans (Ext.dz _ _ _ _ _ _)⟩)⟩
     ·cases U
    refine AO h ad aB λS ρ ids s t h ad aB=>?_;obtain⟨cs,ba,bY,t1,U,ab,al,aJ,bm,bI⟩:=Ec ad parts (λ_=>e) h aB;split at U
    ·rename_i l ak;obtain⟨aG,g1,g2⟩:=AN bI (Iw (wB dS) len) ak;have hlen:aG.length=len*X.P.cellsOf e:=by rw[G1 g1,yf,c3]
     split at U
     ·rename_i a7 gy;obtain⟨qw,rK⟩:=Sb g2 gy;refine⟨s,dW.refl s,?_⟩;simp only[eQ,aE,hu,Option.elim_some,bO];refine⟨c2,c3,c4,ot,aG,g1,?_⟩;split at U
      ·simp only[Option.isSome_none,Bool.false_eq_true,if_false]at U;obtain⟨t2,a1,rfl⟩:=ig U;obtain⟨v,ai,Bo⟩:=al.av;simp only[Prim.run,Option.some.injEq]at ai;have iw:v=.agg aG:=by rw[←ai];congr 1;exact qw.symm
       subst iw;have hb:=ab.bind (.agg aG) false (by simp);obtain⟨v1,v2⟩:=fO ab (.agg aG) (by simpa only[aa.plain]using rK);exact .inl (nL (aJ.trans (Ext.bind ba bY _ false)) (Hr (a:=⟨X.P.cellsOf e,.real,.var ba.cd⟩) hb v1 v2 (by rw[←c3];exact c4) hlen rfl (λy e=>by cases e) a1 Bo))
      ·refine .inr (.inl ⟨_,bY,ids,t1,U,ab.put o.dst ?_,al,aJ.put _ _⟩);unfold bZ;exact⟨aG,rfl,g2,rK,hlen⟩
     ·cases U
    ·cases U
   ·cases h
  ·cases h
 ·cases h
theorem VM{b:Nat}{ty:TypeId}{len:Nat}{parts:Array (Nat×Operand)}(aE:o.op=.buildSlice ty len parts)(h:Ab X (some b) key o ty len parts S K=.ok t)(ad:Rel F S ρ ids s)(aB:bN X.P C n t ρ R):jr X F C n R K S ρ s m0 o:=by
 unfold Ab at h;split at h
 ·rename_i e hu;split at h
  ·rename_i z bO;split at h
   ·rename_i hx;obtain⟨dS,c2,c3,c4,ot⟩:=hx;simp only[Option.isNone_some,Bool.false_and,Bool.false_eq_true,if_false]at h;unfold thaw at h;split at h
    ·obtain⟨cs,ba,bY,t1,U,ab,al,aJ,bm,bI⟩:=Ec ad parts (λ_=>e) h aB;split at U
     ·rename_i l ak;obtain⟨aG,g1,g2⟩:=AN bI (Iw (wB dS) len) ak;have hlen:aG.length=len*X.P.cellsOf e:=by rw[G1 g1,yf,c3]
      split at U
      ·rename_i a7 gy;obtain⟨qw,rK⟩:=Sb g2 gy;split at U
       ·simp only[Option.isSome_some,if_true]at U;cases U
       ·refine⟨.sl none (X.P.cellsOf e) 0 len aG,?_,_,bY,ids,t1,U,ab.put o.dst ?_,al,aJ.put _ _⟩
        ·simp only[bV,aE,hu,bO];rw[if_pos ⟨c2,c3,c4,ot⟩,g1];rfl
        ·unfold bZ;exact⟨aG,rfl,g2,rK,hlen⟩
      ·cases U
     ·cases U
    ·simp only[Option.isSome_some,if_true]at h;cases h
   ·cases h
  ·cases h
 ·cases h
end
end
section
open Go Go.RowKit
variable[cQ]
def FC(P:Program)(f:FuncId)(args:List aa)(m:Mem)(R:aa->Prop):Prop:=gL P f args m λv E m'=>R v/\v.plain=true/\E=[]/\m'=m
def agR(DI:List aa->Prop)(m:Mem)(p q:aa):Prop:=(q=p/\p.plain=true)\/(p=.ptr 0 0/\∃i,q=.ptr i 0/\i<m.n/\m.β i=.inv DI)
def im(DI:List aa->Prop)(m:Mem):List aa->List aa->Prop
 |[],l=>l=[]
 |p::a7,l=>∃q aG,l=q::aG/\agR DI m p q/\im DI m a7 aG
structure jq(P:Program)(DI:List aa->Prop)(C:b2->FuncId->List aa->Option aa):Prop where
 zG:∀g args,(∀ω,(C ω g args).isSome)->∀args' m,im DI m args args'->FC P g args' m λv=>∃ω,C ω g args=some v
 plain:∀ω g args v,C ω g args=some v->v.plain=true
 fn:∀ω g args v,C ω g args=some v->∃fn,P.funcs[g]?=some fn/\fn.name ≠ "runtime.NumGoroutine" /\ fn.body.isSome
def Qs(P:Program)(DI:List aa->Prop)(g:FuncId):Prop:=∀x m,wY x=true->gL P g [x] m λv E m'=>v=.ptr m.n 0/\E=[]/\m'=⟨ea m.β m.n (.inv DI),m.n+1,m.an,m.rc⟩
def Sc(P:Program)(f:FuncId):Prop:=∀cs m,cs.all zh=true->cs.length<1099511627776 ->
 (∀id,gL P f [.sl (some id) 1 0 cs.length cs] m λv E m'=>v=.undef/\E=nd id 0 (lP cs)/\m'={ m with β:=λi=>(m.β i).sub (nd id 0 (lP cs)) }) /\
 gL P f [.bC] m λv E m'=>v=.undef/\E=[]/\m'=m
def Sd(P:Program)(f:FuncId):Prop:=∀cs m,cs.all zh=true->cs.length<1099511627776 ->
 (∀id,gL P f [.sl (some id) 1 0 cs.length cs] m λv E m'=>v=.sl none 1 0 (E4 cs).length (E4 cs)/\E=[.kill id]/\m'={ m with β:=λi=>(m.β i).sub [.kill id] }) /\
 gL P f [.bC] m λv E m'=>v=.bC/\E=[]/\m'=m
structure mu(P:Program)(DI:List aa->Prop)(g:zr):Prop where
 new:(P.funcs[g.new]?).isSome->Qs P DI g.new
 qz:∀f,g.qz=some f->Sc P f
 qA:∀f,g.qA=some f->Sd P f
def Bp:aa->aa
 |.ptr _ _=>.ptr 0 0
 |p=>p
theorem Xc{p:aa}(h:p.plain=true):Bp p=p:=by cases p<;>first|rfl|trivial
theorem Dq{DI:List aa->Prop}{m:Mem}:∀{a7 bz:List aa},im DI m a7 bz->bz.map Bp=a7
 |[],bz,h=>by grind [im]
 |p::a7,bz,h=>by
  obtain⟨q,aG,rfl,U,ab⟩:=h;simp[Dq ab];rcases U with⟨rfl,ae⟩|⟨rfl,i,rfl,_⟩
  ·exact Xc ae
  ·rfl
section
variable{X:Ctx}{F:cP}{C:b2->FuncId->List aa->Option aa}{n:Nat}{R:Out->Prop}{S:Sym}{ρ:List aa}{ids:Nat->Option Nat}{s:aA}{K:Sym->M}{t:Tree}{o:Oper}{m0:Mem}{inl yl:fh}{lx:Option Nat}{key:Nat}{E:Env}
def jd(F:cP)(E:Env):List aL->List aa->Prop
 |[],l=>l=[]
 |v::af,l=>∃q aG,l=q::aG/\bZ F E v q/\jd F E af aG
theorem Ak:∀{a:List aL}{a':List aa}{b:List aL}{a6:List aa},jd F E a a'->jd F E b a6->jd F E (a++b) (a'++a6)
 |[],a',b,a6,h,k=>by grind [jd]
 |v::a,a',b,a6,h,k=>by
  obtain⟨q,r,rfl,U,al⟩:=h;exact⟨q,r++a6,rfl,U,Ak al k⟩
theorem qX(ad:Rel F S ρ ids s):∀(l:List Operand),jd F (S.env ρ ids) (l.map S.ay) (l.map s.ay)
 |[]=>rfl
 |x::l=>⟨_,_,rfl,ad.ay x,qX ad l⟩
theorem yj:∀{a:List aL}{a':List aa},cJ F E a a'->jd F E a a'
 |[],a',h=>by assumption
 |v::a,a',h=>by
  obtain⟨q,r,rfl,U,_,al⟩:=h;exact⟨q,r,rfl,U,yj al⟩
theorem uo(ad:Rel F S ρ ids s)(aI:lf F lx m0 s){m:Mem}(hm:pw m0 m):∀{l:List aL}{aG:List aa}{a7:List aS},yO lx S l=some a7->jd F (S.env ρ ids) l aG->im F.DI m (ep ρ a7) aG
 |[],aG,a7,h,ai=>by
  simp[yO]at h;subst h;exact ai
 |v::l,aG,a7,h,ai=>by
  obtain⟨q,r,rfl,U,ab⟩:=ai;have hold:∀i,i<F.n0->F.lH i=.inv F.DI->i<m.n/\m.β i=.inv F.DI:=λi aX hb=>by
   have jX:i<m0.n:=by
    cases lx with
    |none=>subst aI;rw[ad.dt];omega
    |some b=>rw[aI.1];omega
   refine⟨Nat.lt_of_lt_of_le jX hm.1,?_⟩;have ao:s.m.β i=.inv F.DI:=by rw[ad.old i aX];exact hb
   have e:=Q0 aI;rw[hm.2 i jX,←e.2 i jX,ao]
  simp only[yO]at h;split at h
  ·rename_i iv ak;injection h with h;subst h;exact⟨q,r,rfl,.inr ⟨rfl,F.d0,U.1,hold F.d0 U.2.1 U.2.2⟩,uo ad aI hm ak ab⟩
  ·rename_i i iv ak;split at h
   ·rename_i hb;split at h
    ·rename_i BR;injection h with h;subst h;refine⟨q,r,rfl,.inr ⟨rfl,F.n0+i,U.1,?_⟩,uo ad aI hm ak ab⟩;have nt:=ad.box i _ hb;have jX:F.n0+i<m0.n:=by
      have aU:i<S.bx.length:=U.2;cases lx with
      |none=>subst aI;rw[ad.dt];omega
      |some b=>
       simp  at BR;rw[aI.1];omega
     refine⟨Nat.lt_of_lt_of_le jX hm.1,?_⟩;have e:=Q0 aI;rw[hm.2 _ jX,←e.2 _ jX];exact nt
    ·cases h
   ·cases h
  ·rename_i iv _ _ ak;split at h
   ·rename_i p ae;injection h with h;subst h;obtain⟨aK,aO⟩:=wJ ae U;have Ga:q=p.den ρ:=aK;exact⟨q,r,rfl,.inl ⟨Ga,by grind⟩,uo ad aI hm ak ab⟩
   ·cases h
  ·cases h
def zq(p v:aa)(a a':Nat):Prop:=(∃sz len cs id,p=.sl none sz 0 len cs/\v=.sl (some id) sz 0 len cs/\a<=id/\id<a')\/(p=.bC/\v=.bC)
def rD(path:Option (Nat×Nat))(p v:aa)(a a':Nat):Prop:=match path with
 |none=>zq p v a a'
 |some (_,j)=>∃a7 x y,p=.agg a7/\a7[j]?=some x/\v=.agg (a7.set j y)/\zq x y a a'
def wi(P:Program)(DI:List aa->Prop)(C:b2->FuncId->List aa->Option aa)(g:FuncId)(path:Option (Nat×Nat)):Prop:=
 ∀args,(∀ω,(C ω g args).isSome)->∀args' m,im DI m args args'->gL P g args' m λv E m'=>∃p ω,C ω g args=some p/\p.plain=true/\E=[]/\m'={ m with an:=m'.an }/\m.an<=m'.an/\rD path p v m.an m'.an
def p7(X:Ctx)(DI:List aa->Prop)(C:b2->FuncId->List aa->Option aa):Prop:=∀g r,mW X.nb g=some r->wi X.P DI C g r.1
theorem QQ{l:List aL}{aG:List aa}(h:cJ F E l aG){v:aL}{q:aa}(ai:bZ F E v q)(aH:q.one=true)(j:Nat):cJ F E (l.set j v) (aG.set j q):=by grind [jL]
theorem PR{r:Bool}{sz:Nat}{y:aR}{KK:c6->Sym->M}{v:aa}{a a':Nat}(h:y9 r sz (.e y) S KK=.ok t)(ad:Rel F S ρ ids s)(aB:bN X.P C n t ρ R)(ar:zq (y.den ρ) v a a')(aF:y.ok ρ):
  ∃(bd:c6)(ba:Sym)(bY:List aa)(t1:Tree)(cs:List aa)(xid:Option Nat),KK bd ba=.ok t1/\Rel F ba bY ids s/\bN X.P C n t1 bY R/\Ext S ρ ba bY/\ba.bd=S.bd/\bd.c.ok bY/\bd.c.den bY=.agg cs/\0<bd.sz/\cs.length=cs.length/bd.sz*bd.sz/\isNil bY bd.born cs=some xid.isNone/\(∀y,bd.born=.dyn y->y.ok bY) /\
   v=(match xid with|some id=>.sl (some id) bd.sz 0 (cs.length/bd.sz) cs|none=>.bC)/\(∀id,xid=some id->a<=id/\id<a')/\bd.born.j2=true:=by
 have ae:(y.den ρ).plain=true:=aR.jJ aF;unfold y9 at h;split at h
 ·cases h
 ·obtain⟨t1,U,rfl⟩:=ig h;obtain⟨c,ah,aB⟩:=aB.av;simp only[Prim.run,aS.den]at ah;have key:∃cs,c=.agg cs/\bG cs=true/\cs.length=cs.length/sz*sz/\∃xid:Option Nat,(r=true->xid.isNone=false)/\EI (y.den ρ)=some (.bool xid.isNone)/\(xid=none->cs=[])/\v=(match xid with|some id=>.sl (some id) sz 0 (cs.length/sz) cs|none=>.bC)/\∀id,xid=some id->a<=id/\id<a':=by
   rcases ar with⟨iL,len,cs,id,aK,aO,bS,b8⟩|⟨aK,aO⟩
   ·rw[aK]at ah ae⊢;simp only[po]at ah;split at ah
    ·rename_i bq;injection ah with ah;obtain⟨rfl,ak⟩:=bq;have aV:cs.length/iL=len:=by grind [Nat.mul_div_cancel]
     exact⟨cs,ah.symm,by assumption,by grind,some id,λ_=>rfl,rfl,λh=>(by cases h),(by rw[aO,aV]),λeG h=>(by grind)⟩
    ·cases ah
   ·rw[aK]at ah⊢;simp only[po]at ah;split at ah
    ·cases ah
    ·rename_i bq;injection ah with ah;exact⟨[],ah.symm,rfl,by simp,none,λh=>absurd h bq,rfl,λ_=>rfl,aO,λid h=>(by cases h)⟩
  obtain⟨cs,rfl,cD,hlen,xid,k1,k2,bP,cX,fi⟩:=key;have hb:=ad.bind (.agg cs) false (by simp);obtain⟨g1,g2⟩:=fO ad (.agg cs) (by assumption);split at U
  ·refine⟨_,_,_,t1,cs,xid,U,hb,aB,Ext.bind S ρ _ false,rfl,g1,g2,by grind,hlen,?_,λy aF=>(by cases aF),cX,fi,rfl⟩;grind [isNil]
  ·obtain⟨t2,ab,rfl⟩:=ig U;obtain⟨b,oK,aB⟩:=aB.av;have h2:y.den (ρ++[.agg cs])=y.den ρ:=(aR.j9 (List.prefix_append _ _) aF).1;simp only[Prim.run,aS.den]at oK;rw[h2,k2]at oK;injection oK with oK;subst oK;have dB:=hb.bind (.bool xid.isNone) true (λ_=>rfl);obtain⟨g3,g4⟩:=fO hb (.bool xid.isNone) rfl;obtain⟨aK,aO⟩:=aR.j9 (List.prefix_append (ρ++[aa.agg cs]) [.bool xid.isNone]) g1;refine⟨_,_,_,t2,cs,xid,ab,dB,aB,(Ext.bind S ρ _ false).trans (Ext.bind _ _ _ true),rfl,aO,aK.trans g2,by grind,hlen,?_,λy aF=>(by grind),cX,fi,rfl⟩;grind [isNil]
theorem NP{r:Option (Nat×Nat)×Nat×Bool}{d:Option Tmp}{p v:aa}{m':Mem}(h:uI r (.var S.cd) d S.var K=.ok t)(ad:Rel F S ρ ids s)(aB:bN X.P C n t (ρ++[p]) R)(ae:p.plain=true)(ar:rD r.1 p v s.m.an m'.an)(hm:m'={ s.m with an:=m'.an })(l7:s.m.an<=m'.an):
  ∃pK pL uZ tO,K pK=.ok tO/\Rel F pK pL uZ ({ s with m:=m' }.put d v)/\bN X.P C n tO pL R/\Ext S ρ pK pL:=by
 have hb:=ad.bind p false (by simp);obtain⟨g1,g2⟩:=fO ad p ae;have fin:∀{ba:Sym}{bY:List aa}{bd:c6}{cs:List aa}{xid:Option Nat},Rel F ba bY ids s->bd.c.ok bY->bd.c.den bY=.agg cs->0<bd.sz->cs.length=cs.length/bd.sz*bd.sz->isNil bY bd.born cs=some (Option.isNone xid)->(∀y,bd.born=.dyn y->y.ok bY)->(∀id,xid=some id->s.m.an<=id/\id<m'.an)->bd.born.j2=true ->
   Rel F ({ ba with bd:=ba.bd++[some bd] }:Sym) bY (eA ids ba.bd.length xid) { s with m:=m' }/\bZ F (({ ba with bd:=ba.bd++[some bd] }:Sym).env bY (eA ids ba.bd.length xid)) (.own ba.bd.length) (match xid with|some id=>.sl (some id) bd.sz 0 (cs.length/bd.sz) cs|none=>.bC):=by
  intro ba bY bd cs xid cy dM gC jF kB kC qH x7 GK;obtain⟨j7,iD⟩:=cy.Fa (x:=xid) dM gC jF kB kC qH (s':={ s with m:=m' }) rfl (by rw[hm]) (by rw[hm]) l7 x7 rfl rfl (by rw[hm]);refine⟨j7,?_⟩;refine⟨bd,cs,by grind [Sym.env],iD,?_⟩;simp only[Sym.env,eA,if_true];grind [la]
 obtain⟨path,sz,b⟩:=r;cases path with
 |none=>
  simp only[uI]at h;obtain⟨bd,ba,bY,t1,cs,xid,U,cy,dM,gC,jF,kB,kC,qH,x7,Ma,LD,Gn,LF,GK⟩:=PR (X:=X) h (show Rel F S.var (ρ++[p]) ids s from hb) aB (by rw[g2];exact ar) g1;obtain⟨j7,iD⟩:=fin cy kB kC qH x7 Ma LD LF GK;rw[←Gn]at iD;refine⟨_,bY,_,t1,U,j7.put d iD,dM,?_⟩;have aj:Ext S ρ S.var (ρ++[p]):=Ext.bind S ρ p false;have aF:Ext ba bY ({ ba with bd:=ba.bd++[some bd] }:Sym) bY:=⟨List.prefix_refl _,rfl,rfl,rfl,rfl,rfl,Nat.le_refl _,rfl⟩;exact((aj.trans gC).trans aF).put _ _
 |some z7=>
  obtain⟨dZ,j⟩:=z7;simp only[uI]at h;obtain⟨a7,x,y,rfl,aO,rfl,ar⟩:=ar;obtain⟨t1,U,rfl⟩:=ig h;obtain⟨c,ah,aB⟩:=aB.av;simp only[Prim.run,aS.den,g2,vc]at ah;split at ah
  ·rename_i ak;injection ah with ah;subst ah;have Gp:Rel F S.var (ρ++[.agg a7]) ids s:=hb;have oK:=Gp.bind (.agg a7) false (by simp);obtain⟨g3,g4⟩:=fO Gp (.agg a7) ae;have BP:bG a7=true:=by simpa only[aa.plain]using ae
   have Gk:=((hH a7).1 BP x (List.mem_of_getElem? aO));have Fb:aR.den ((ρ++[.agg a7])++[.agg a7]) (.proj (.var S.var.cd) j)=x:=by
    show cM (aR.den ((ρ++[.agg a7])++[.agg a7]) (.var S.var.cd)) j=x;rw[g4];simp[cM,List.getD_eq_getElem?_getD,aO]
   have agS:aR.ok ((ρ++[.agg a7])++[.agg a7]) (.proj (.var S.var.cd) j):=⟨g3,by
    have:cM (aR.den ((ρ++[.agg a7])++[.agg a7]) (.var S.var.cd)) j=x:=Fb;rw[this];exact Gk.1⟩
   obtain⟨bd,ba,bY,t1,cs,xid,ab,cy,dM,gC,jF,kB,kC,qH,x7,Ma,LD,Gn,LF,GK⟩:=PR (X:=X) U oK aB (by rw[Fb];exact ar) agS;obtain⟨j7,iD⟩:=fin cy kB kC qH x7 Ma LD LF GK;rw[←Gn]at iD;have aj:Ext S ρ S.var (ρ++[.agg a7]):=Ext.bind S ρ _ false;have dG:Ext S.var (ρ++[.agg a7]) (S.var.bind false) ((ρ++[.agg a7])++[.agg a7]):=Ext.bind _ _ _ false;have aF:Ext ba bY ({ ba with bd:=ba.bd++[some bd] }:Sym) bY:=⟨List.prefix_refl _,rfl,rfl,rfl,rfl,rfl,Nat.le_refl _,rfl⟩;obtain⟨d1,d2⟩:=aR.j9 gC.pre g3;refine⟨_,bY,_,t1,ab,j7.put d (v:=.agg (((List.range dZ).map λi=>aL.e (.proj (.var S.var.cd) i)).set j (.own ba.bd.length))) ?_,dM,(((aj.trans dG).trans gC).trans aF).put _ _⟩;refine⟨_,rfl,QQ ?_ iD ?_ j⟩
   ·exact ym (by show aR.den bY _=_;rw[d1,g4]) d2 ak
   ·rw[Gn];cases xid<;>rfl
  ·cases ah
theorem OO{r:Bool}{sz:Nat}{x c:aa}(h:po r sz x=some c)(an:Nat):∃v,zq x v an (an+1):=by
 unfold po at h;split at h
 ·exact⟨.bC,.inr ⟨rfl,rfl⟩⟩
 ·rename_i iL len cs;split at h
  ·exact⟨.sl (some an) iL 0 len cs,.inl ⟨iL,len,cs,an,rfl,rfl,Nat.le_refl _,by omega⟩⟩
  ·cases h
 ·cases h
theorem NQ{r:Bool}{sz:Nat}{x:aS}{KK:c6->Sym->M}(h:y9 r sz x S KK=.ok t)(aB:bN X.P C n t ρ R):∃c,po r sz (x.den ρ)=some c:=by
 unfold y9 at h;split at h
 ·cases h
 ·obtain⟨t1,U,rfl⟩:=ig h;obtain⟨c,ah,_⟩:=aB.av;exact⟨c,ah⟩
theorem Wa{r:Option (Nat×Nat)×Nat×Bool}{d:Option Tmp}{p:aa}(h:uI r (.var S.cd) d S.var K=.ok t)(ad:Rel F S ρ ids s)(aB:bN X.P C n t (ρ++[p]) R)(ae:p.plain=true)(an:Nat):∃v,rD r.1 p v an (an+1):=by
 obtain⟨g1,g2⟩:=fO ad p ae;obtain⟨path,sz,b⟩:=r;cases path with
 |none=>
  simp only[uI]at h;obtain⟨c,ah⟩:=NQ (X:=X) h aB;simp only[aS.den,g2]at ah;exact OO ah an
 |some z7=>
  obtain⟨dZ,j⟩:=z7;simp only[uI]at h;obtain⟨t1,U,rfl⟩:=ig h;obtain⟨c,ah,aB⟩:=aB.av;simp only[Prim.run,aS.den,g2,vc]at ah;cases p with
  |agg a7=>
   simp only[]at ah;split at ah
   ·injection ah with ah;subst ah;have Gp:Rel F S.var (ρ++[.agg a7]) ids s:=ad.bind (.agg a7) false (by simp);obtain⟨g3,g4⟩:=fO Gp (.agg a7) ae;obtain⟨c,ah⟩:=NQ (X:=X) U aB;have Fb:aS.den ((ρ++[.agg a7])++[.agg a7]) (.e (.proj (.var S.var.cd) j))=a7.getD j .bad:=by
     show cM (aR.den ((ρ++[.agg a7])++[.agg a7]) (.var S.var.cd)) j=_;rw[g4];rfl
    rw[Fb,List.getD_eq_getElem?_getD]at ah;cases aC:a7[j]? with
    |none=>grind [po]
    |some x=>
     rw[aC]at ah;obtain⟨y,aF⟩:=OO (by simpa using ah) an;exact⟨_,a7,x,y,rfl,aC,rfl,aF⟩
   ·cases ah
  |_=>cases ah
theorem ZJ(s:aA):s.after [] s.m=s:=by
 have:gV s.a0.a s.bb []=s.bb:=by cases s.bb<;>simp[gV]
 simp_all[aA.after]
theorem Mt{c:Call}{f:Operand}{g:FuncId}{bf:List aa}{args':List aa}{args:List aS}(hC:jq X.P F.DI C)(aE:o.op=.call c)(de:c.callee=.value f)(aQ:s.ay f=.fn g bf)(au:im F.DI s.m (ep ρ args++args') (c.args.toList.map s.ay++bf))
  {bw:Tree} (oE:∀ω,(C ω g (ep ρ args++args')).isSome) (aB:∀ω v,C ω g (ep ρ args++args')=some v->bN X.P C n bw (ρ++[v]) R) (ad:Rel F S ρ ids s)
  (h:K (S.var.put o.dst (.e (.var S.cd)))=.ok bw):hM X F C n R K S ρ s o:=by
 refine⟨s,dW.refl s,?_⟩;simp only[eQ,aE,de,aQ];obtain⟨v0,pD⟩:=Option.isSome_iff_exists.1 (oE gP);refine⟨hC.fn _ _ _ _ pD,((hC.zG g _ oE _ _ au).mono ?_).y⟩;rintro v E m' ⟨⟨ω,ai⟩,ae,rfl,rfl⟩;rw[ZJ];have hb:=ad.bind v false (by simp);obtain⟨g1,g2⟩:=fO ad v ae;exact⟨_,_,ids,bw,h,hb.put o.dst (by exact⟨g2.symm,g1⟩),aB ω v ai,(Ext.bind S ρ v false).put _ _⟩
def JR(X:Ctx)(C:b2->FuncId->List aa->Option aa)(n:Nat)(inl:fh):Prop:=
 ∀(F:cP)(R:Out->Prop)(key:Nat)(g:FuncId)(args:List aL)(K:aL->Sym->M)(S:Sym)(ρ:List aa)(ids:Nat->Option Nat)(s:aA)(t:Tree)(bz:List aa),
  F.P=X.P->jq X.P F.DI C->mu X.P F.DI X.hI->p7 X F.DI C->inl key g args S K=.ok t->Rel F S ρ ids s->jd F (S.env ρ ids) args bz->bN X.P C n t ρ R ->
  qR X.P s.c7 g bz s.m λq E m'=>∃v br b1 dK bw,K v br=.ok bw/\Rel F br b1 dK (s.after E m')/\bZ F (br.env b1 dK) v q/\bN X.P C n bw b1 R/\Ext S ρ br b1
theorem ac3{c:Call}{f:Operand}{g:FuncId}{bf:List aL}{fn:Func}(aw:F.P=X.P)(hC:jq X.P F.DI C)(gq:mu X.P F.DI X.hI)(fe:p7 X F.DI C)(iM:JR X C n inl)(aE:o.op=.call c)(de:c.callee=.value f)(aQ:S.ay f=.fn g bf)(dX:X.P.funcs[g]?=some fn)(hs:¬(fn.name = "runtime.NumGoroutine" \/ fn.body.isNone))
  (h:inl key g (c.args.toList.map S.ay++bf) S (λv S=>K (S.put o.dst v))=.ok t) (ad:Rel F S ρ ids s) (aB:bN X.P C n t ρ R):hM X F C n R K S ρ s o:=by
 have eH:=ad.ay f;rw[aQ]at eH;obtain⟨aG,e,ak⟩:=eH;refine⟨s,dW.refl s,?_⟩;simp only[eQ,aE,de,e];refine⟨⟨fn,dX,λe=>hs (.inl e),by cases hb:fn.body<;>simp[hb]at hs⊢⟩,?_⟩;refine(iM F R key g _ _ S ρ ids s t _ aw hC gq fe h ad (Ak (qX ad _) (yj ak)) aB).mono ?_;rintro q E m' ⟨v,br,b1,dK,bw,U,ab,al,aJ,bm⟩;exact⟨_,b1,dK,bw,U,ab.put o.dst al,aJ,bm.put _ _⟩
def JS(X:Ctx)(C:b2->FuncId->List aa->Option aa)(n:Nat)(yl:fh):Prop:=
 ∀(F:cP)(R:Out->Prop)(key:Nat)(y:Nat)(args:List aL)(K:aL->Sym->M)(S:Sym)(ρ:List aa)(ids:Nat->Option Nat)(s:aA)(t:Tree)(bz:List aa),
  F.P=X.P->jq X.P F.DI C->mu X.P F.DI X.hI->p7 X F.DI C->yl key y args S K=.ok t->Rel F S ρ ids s->jd F (S.env ρ ids) args bz->bN X.P C n t ρ R ->
  ∃eE st mJ,eE∈s.c7/\F.cV.ys[y]?.map eN.l=some eE.l/\(eE.l,{ eE.o with state:=st,pending:=mJ })∈s.m.rc/\bz.length=eE.o.params.size /\
   wD X.P s.c7 eE.o eE.l bz s.m λq E m'=>∃v br b1 dK bw,K v br=.ok bw/\Rel F br b1 dK (s.after E m')/\bZ F (br.env b1 dK) v q/\bN X.P C n bw b1 R/\Ext S ρ br b1
theorem ac4{c:Call}{f:Operand}{y:Nat}(aw:F.P=X.P)(hC:jq X.P F.DI C)(gq:mu X.P F.DI X.hI)(fe:p7 X F.DI C)(fA:JS X C n yl)(aE:o.op=.call c)(de:c.callee=.value f)(aQ:S.ay f=.cq y)
  (h:yl key y (c.args.toList.map S.ay) S (λv S=>K (S.put o.dst v))=.ok t) (ad:Rel F S ρ ids s) (aB:bN X.P C n t ρ R):hM X F C n R K S ρ s o:=by
 have eH:=ad.ay f;rw[aQ]at eH;obtain⟨aG,aK,e⟩:=eH;refine⟨s,dW.refl s,?_⟩;simp only[eQ,aE,de,e];obtain⟨eE,st,mJ,U,ab,al,aJ,bm⟩:=fA F R key y _ _ S ρ ids s t _ aw hC gq fe h ad (qX ad _) aB;rw[aK]at ab;injection ab with ab;subst ab;refine⟨eE,st,mJ,U,rfl,al,by grind,bm.mono ?_⟩;rintro q E m' ⟨v,br,b1,dK,bw,U,ab,al,aJ,bm⟩;exact⟨_,b1,dK,bw,U,ab.put o.dst al,aJ,bm.put _ _⟩
theorem abg(h:Rel F S ρ ids s):Rel F ({ S with bx:=S.bx++[ga.c8] }:Sym) ρ ids { s with m:=⟨ea s.m.β s.m.n (.inv F.DI),s.m.n+1,s.m.an,s.m.rc⟩ }:=by
 have hle:(S.env ρ ids).le (({ S with bx:=S.bx++[ga.c8] }:Sym).env ρ ids):=⟨List.prefix_refl _,λ_ _ h=>h,by simp[Sym.env],λ_ _ _=>rfl⟩;refine⟨h.len,h.cU,λt=>bZ.mono hle (h.slot t),by simp[h.dt];omega,λi aX=>?_,λi b hb=>?_,h.hO,h.mv,λk a au=>?_,h.a0,h.cV,h.kY,h.bb,h.new,h.keep,h.dO,h.lG,by have:=h.mS;simp;omega,h.an,h.kZ,h.rc⟩
 ·have:=h.dt;simp only[qK _ _ _ _ (by omega:i≠s.m.n)];exact h.old i aX
 ·simp only[List.getElem?_append]at hb;have aI:=h.dt;split at hb
  ·simp only[qK _ _ _ _ (by omega:F.n0+i≠s.m.n)];exact Ex hle (h.box i b hb)
  ·have:i=S.bx.length:=by grind
   subst this;simp at hb;subst hb;rw[←aI];simp ;exact rfl
 ·obtain⟨cs,ah⟩:=h.arr k a au;exact⟨cs,c6.rel.mono hle au ah⟩
theorem abh{c:Call}{f:Operand}{p:aS}(hC:mu X.P F.DI X.hI)(aE:o.op=.call c)(de:c.callee=.value f)(aQ:S.ay f=.fn X.hI.new [])(ae:hT (c.args.toList.map S.ay)=some [p]){fn:Func}(dX:X.P.funcs[X.hI.new]?=some fn)(hs:¬(fn.name = "runtime.NumGoroutine" \/ fn.body.isNone))
  (h:emit (.ints p) false S (λ_ S=>K (Sym.put { S with bx:=S.bx++[ga.c8] } o.dst (.ptr S.bx.length 0)))=.ok t) (ad:Rel F S ρ ids s) (aB:bN X.P C n t ρ R):hM X F C n R K S ρ s o:=by
 obtain⟨bw,eP,rfl⟩:=ig h;obtain⟨pv,eW,aB⟩:=aB.av;simp only[Prim.run,EX]at eW;split at eW
 case isFalse=>cases eW
 rename_i hints;injection eW with eW;subst eW;obtain⟨aK,aO⟩:=ad.evs _ _ ae;have lp:=ad.bind (p.den ρ) false (by simp);have eH:=ad.ay f;rw[aQ]at eH;obtain⟨aG,e,ak⟩:=eH;subst ak;refine⟨s,dW.refl s,?_⟩;simp only[eQ,aE,de,e];refine⟨⟨fn,dX,λe=>hs (.inl e),by cases hb:fn.body<;>simp[hb]at hs⊢⟩,?_⟩;rw[List.append_nil,aK];refine gL.y ((hC.new (by grind) (p.den ρ) s.m hints).mono ?_);rintro v E m' ⟨rfl,rfl,rfl⟩;have aq:=abg lp;have KD:s.after [] ⟨ea s.m.β s.m.n (.inv F.DI),s.m.n+1,s.m.an,s.m.rc⟩={ s with m:=⟨ea s.m.β s.m.n (.inv F.DI),s.m.n+1,s.m.an,s.m.rc⟩ }:=by
  have:gV s.a0.a s.bb []=s.bb:=by cases s.bb<;>simp[gV]
  simp_all[aA.after]
 rw[KD];have gH:(S.bind false).bx.length=S.bx.length:=rfl;refine⟨_,_,ids,bw,eP,aq.put o.dst (by exact⟨by rw[ad.dt,gH],by simp[Sym.env]⟩),aB,?_⟩;have aj:Ext (S.bind false) (ρ++[p.den ρ]) ({ S.bind false with bx:=(S.bind false).bx++[ga.c8] }:Sym) (ρ++[p.den ρ]):=⟨List.prefix_refl _,rfl,rfl,rfl,rfl,rfl,by simp,rfl⟩;exact((Ext.bind S ρ _ false).trans aj).put _ _
end
end
end Go.Proofs.YtlminnpaeaganaaGreat
