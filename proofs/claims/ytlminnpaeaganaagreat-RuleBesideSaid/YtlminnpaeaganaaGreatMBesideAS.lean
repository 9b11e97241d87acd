/- Part of the proof of RuleBeside. No condition. -/
import Derived.Test.YtlminnpaeaganaaGreatMBesideAR
namespace Go.Proofs.YtlminnpaeaganaaGreat
set_option maxRecDepth 100000
set_option linter.all false
section
open Go Go.RowKit
variable[cQ]
def FC(P:Program)(f:FuncId)(args:List aa)(m:Mem)(R:aa->Prop):Prop:=gL P f args m λv E m'=>R v/\v.plain=true/\E=[]/\m'=m
def agR(DI:List aa->Prop)(m:Mem)(p q:aa):Prop:=(q=p/\p.plain=true)\/(p=.ptr 0 0/\∃i,q=.ptr i 0/\i<m.n/\m.β i=.inv DI)
def im(DI:List aa->Prop)(m:Mem):List aa->List aa->Prop
 |[],l=>l=[]
 |p::ps,l=>∃q aG,l=q::aG/\agR DI m p q/\im DI m ps aG
structure jq(P:Program)(DI:List aa->Prop)(C:b2->FuncId->List aa->Option aa):Prop where
 zG:∀g args,(∀ω,(C ω g args).isSome)->∀args' m,im DI m args args'->FC P g args' m λv=>∃ω,C ω g args=some v
 plain:∀ω g args v,C ω g args=some v->v.plain=true
 fn:∀ω g args v,C ω g args=some v->∃fn,P.funcs[g]?=some fn/\fn.name ≠ "runtime.NumGoroutine" /\ fn.body.isSome
def Qs(P:Program)(DI:List aa->Prop)(g:FuncId):Prop:=∀x m,wY x=true->gL P g [x] m λv E m'=>v=.ptr m.n 0/\E=[]/\m'=⟨ea m.β m.n (.inv DI),m.n+1,m.an,m.rc⟩
def Sc(P:Program)(f:FuncId):Prop:=∀cs m,cs.all zh=true->cs.length<1099511627776 ->
 (∀id,gL P f [.sl (some id) 1 0 cs.length cs] m λv E m'=>v=.undef/\E=nd id 0 (lP cs)/\m'={ m with β:=λi=>(m.β i).sub (nd id 0 (lP cs)) }) /\
 gL P f [.bC] m λv E m'=>v=.undef/\E=[]/\m'=m
def Sd(P:Program)(f:FuncId):Prop:=∀cs m,cs.all zh=true->cs.length<1099511627776 ->
 (∀id,gL P f [.sl (some id) 1 0 cs.length cs] m λv E m'=>v=.sl none 1 0 (E4 cs).length (E4 cs)/\E=[.kill id]/\m'={ m with β:=λi=>(m.β i).sub [.kill id] }) /\
 gL P f [.bC] m λv E m'=>v=.bC/\E=[]/\m'=m
structure mu(P:Program)(DI:List aa->Prop)(g:zr):Prop where
 new:(P.funcs[g.new]?).isSome->Qs P DI g.new
 qz:∀f,g.qz=some f->Sc P f
 qA:∀f,g.qA=some f->Sd P f
def Bp:aa->aa
 |.ptr _ _=>.ptr 0 0
 |p=>p
theorem Xc{p:aa}(h:p.plain=true):Bp p=p:=by cases p<;>first|rfl|trivial
theorem Dq{DI:List aa->Prop}{m:Mem}:∀{ps bz:List aa},im DI m ps bz->bz.map Bp=ps
 |[],bz,h=>by grind [im]
 |p::ps,bz,h=>by
  obtain⟨q,aG,rfl,U,ab⟩:=h;simp[Dq ab];rcases U with⟨rfl,ae⟩|⟨rfl,i,rfl,_⟩
  ·exact Xc ae
  ·rfl
section
variable{X:Ctx}{F:cP}{C:b2->FuncId->List aa->Option aa}{n:Nat}{R:Out->Prop}{S:Sym}{ρ:List aa}{ids:Nat->Option Nat}{s:aA}{K:Sym->M}{t:Tree}{o:Oper}{m0:Mem}{inl yl:fh}{lx:Option Nat}{key:Nat}{E:Env}
def jd(F:cP)(E:Env):List aL->List aa->Prop
 |[],l=>l=[]
 |v::af,l=>∃q aG,l=q::aG/\bZ F E v q/\jd F E af aG
theorem Ak:∀{a:List aL}{a':List aa}{b:List aL}{a6:List aa},jd F E a a'->jd F E b a6->jd F E (a++b) (a'++a6)
 |[],a',b,a6,h,k=>by grind [jd]
 |v::a,a',b,a6,h,k=>by
  obtain⟨q,r,rfl,U,al⟩:=h;exact⟨q,r++a6,rfl,U,Ak al k⟩
theorem qX(ad:Rel F S ρ ids s):∀(l:List Operand),jd F (S.env ρ ids) (l.map S.ay) (l.map s.ay)
 |[]=>rfl
 |x::l=>⟨_,_,rfl,ad.ay x,qX ad l⟩
theorem yj:∀{a:List aL}{a':List aa},cJ F E a a'->jd F E a a'
 |[],a',h=>by assumption
 |v::a,a',h=>by
  obtain⟨q,r,rfl,U,_,al⟩:=h;exact⟨q,r,rfl,U,yj al⟩
theorem uo(ad:Rel F S ρ ids s)(aI:lf F lx m0 s){m:Mem}(hm:pw m0 m):∀{l:List aL}{aG:List aa}{ps:List aS},yO lx S l=some ps->jd F (S.env ρ ids) l aG->im F.DI m (ep ρ ps) aG
 |[],aG,ps,h,ai=>by
  simp[yO]at h;subst h;exact ai
 |v::l,aG,ps,h,ai=>by
  obtain⟨q,r,rfl,U,ab⟩:=ai;have hold:∀i,i<F.n0->F.lH i=.inv F.DI->i<m.n/\m.β i=.inv F.DI:=λi hi hb=>by
   have jX:i<m0.n:=by
    cases lx with
    |none=>subst aI;rw[ad.dt];omega
    |some b=>rw[aI.1];omega
   refine⟨Nat.lt_of_lt_of_le jX hm.1,?_⟩;have ao:s.m.β i=.inv F.DI:=by rw[ad.old i hi];exact hb
   have e:=Q0 aI;rw[hm.2 i jX,←e.2 i jX,ao]
  simp only[yO]at h;split at h
  ·rename_i iv ak;injection h with h;subst h;exact⟨q,r,rfl,.inr ⟨rfl,F.d0,U.1,hold F.d0 U.2.1 U.2.2⟩,uo ad aI hm ak ab⟩
  ·rename_i i iv ak;split at h
   ·rename_i hb;split at h
    ·rename_i BR;injection h with h;subst h;refine⟨q,r,rfl,.inr ⟨rfl,F.n0+i,U.1,?_⟩,uo ad aI hm ak ab⟩;have nt:=ad.box i _ hb;have jX:F.n0+i<m0.n:=by
      have aU:i<S.bx.length:=U.2;cases lx with
      |none=>subst aI;rw[ad.dt];omega
      |some b=>
       simp  at BR;rw[aI.1];omega
     refine⟨Nat.lt_of_lt_of_le jX hm.1,?_⟩;have e:=Q0 aI;rw[hm.2 _ jX,←e.2 _ jX];exact nt
    ·cases h
   ·cases h
  ·rename_i iv _ _ ak;split at h
   ·rename_i p ae;injection h with h;subst h;obtain⟨aK,aO⟩:=wJ ae U;have Ga:q=p.den ρ:=aK;exact⟨q,r,rfl,.inl ⟨Ga,by grind⟩,uo ad aI hm ak ab⟩
   ·cases h
  ·cases h
def zq(p v:aa)(a a':Nat):Prop:=(∃sz len cs id,p=.sl none sz 0 len cs/\v=.sl (some id) sz 0 len cs/\a<=id/\id<a')\/(p=.bC/\v=.bC)
def rD(path:Option (Nat×Nat))(p v:aa)(a a':Nat):Prop:=match path with
 |none=>zq p v a a'
 |some (_,j)=>∃ps x y,p=.agg ps/\ps[j]?=some x/\v=.agg (ps.set j y)/\zq x y a a'
def wi(P:Program)(DI:List aa->Prop)(C:b2->FuncId->List aa->Option aa)(g:FuncId)(path:Option (Nat×Nat)):Prop:=
 ∀args,(∀ω,(C ω g args).isSome)->∀args' m,im DI m args args'->gL P g args' m λv E m'=>∃p ω,C ω g args=some p/\p.plain=true/\E=[]/\m'={ m with an:=m'.an }/\m.an<=m'.an/\rD path p v m.an m'.an
def p7(X:Ctx)(DI:List aa->Prop)(C:b2->FuncId->List aa->Option aa):Prop:=∀g r,mW X.nb g=some r->wi X.P DI C g r.1
theorem QQ{l:List aL}{aG:List aa}(h:cJ F E l aG){v:aL}{q:aa}(ai:bZ F E v q)(aH:q.one=true)(j:Nat):cJ F E (l.set j v) (aG.set j q):=by grind [jL]
theorem PR{r:Bool}{sz:Nat}{y:aR}{KK:c6->Sym->M}{v:aa}{a a':Nat}(h:y9 r sz (.e y) S KK=.ok t)(ad:Rel F S ρ ids s)(aB:bN X.P C n t ρ R)(ar:zq (y.den ρ) v a a')(aF:y.ok ρ):
  ∃(bd:c6)(ba:Sym)(bY:List aa)(t1:Tree)(cs:List aa)(xid:Option Nat),KK bd ba=.ok t1/\Rel F ba bY ids s/\bN X.P C n t1 bY R/\Ext S ρ ba bY/\ba.bd=S.bd/\bd.c.ok bY/\bd.c.den bY=.agg cs/\0<bd.sz/\cs.length=cs.length/bd.sz*bd.sz/\isNil bY bd.born cs=some xid.isNone/\(∀y,bd.born=.dyn y->y.ok bY) /\
   v=(match xid with|some id=>.sl (some id) bd.sz 0 (cs.length/bd.sz) cs|none=>.bC)/\(∀id,xid=some id->a<=id/\id<a')/\bd.born.j2=true:=by
 have ae:(y.den ρ).plain=true:=aR.jJ aF;unfold y9 at h;split at h
 ·cases h
 ·obtain⟨t1,U,rfl⟩:=ig h;obtain⟨c,ah,aB⟩:=aB.av;simp only[Prim.run,aS.den]at ah;have key:∃cs,c=.agg cs/\bG cs=true/\cs.length=cs.length/sz*sz/\∃xid:Option Nat,(r=true->xid.isNone=false)/\EI (y.den ρ)=some (.bool xid.isNone)/\(xid=none->cs=[])/\v=(match xid with|some id=>.sl (some id) sz 0 (cs.length/sz) cs|none=>.bC)/\∀id,xid=some id->a<=id/\id<a':=by
   rcases ar with⟨iL,len,cs,id,aK,aO,bS,b8⟩|⟨aK,aO⟩
   ·rw[aK]at ah ae⊢;simp only[po]at ah;split at ah
    ·rename_i bq;injection ah with ah;obtain⟨rfl,ak⟩:=bq;have aV:cs.length/iL=len:=by grind [Nat.mul_div_cancel]
     exact⟨cs,ah.symm,by assumption,by grind,some id,λ_=>rfl,rfl,λh=>(by cases h),(by rw[aO,aV]),λeG h=>(by grind)⟩
    ·cases ah
   ·rw[aK]at ah⊢;simp only[po]at ah;split at ah
    ·cases ah
    ·rename_i bq;injection ah with ah;exact⟨[],ah.symm,rfl,by simp,none,λh=>absurd h bq,rfl,λ_=>rfl,aO,λid h=>(by cases h)⟩
  obtain⟨cs,rfl,cD,hlen,xid,k1,bf,bP,cX,fi⟩:=key;have hb:=ad.bind (.agg cs) false (by simp);obtain⟨g1,g2⟩:=fO ad (.agg cs) (by assumption);split at U
  ·refine⟨_,_,_,t1,cs,xid,U,hb,aB,Ext.bind S ρ _ false,rfl,g1,g2,by grind,hlen,?_,λy aF=>(by cases aF),cX,fi,rfl⟩;grind [isNil]
  ·obtain⟨t2,ab,rfl⟩:=ig U;obtain⟨b,oK,aB⟩:=aB.av;have h2:y.den (ρ++[.agg cs])=y.den ρ:=(aR.j9 (List.prefix_append _ _) aF).1;simp only[Prim.run,aS.den]at oK;rw[h2,bf]at oK;injection oK with oK;subst oK;have dB:=hb.bind (.bool xid.isNone) true (λ_=>rfl);obtain⟨g3,g4⟩:=fO hb (.bool xid.isNone) rfl;obtain⟨aK,aO⟩:=aR.j9 (List.prefix_append (ρ++[aa.agg cs]) [.bool xid.isNone]) g1;refine⟨_,_,_,t2,cs,xid,ab,dB,aB,(Ext.bind S ρ _ false).trans (Ext.bind _ _ _ true),rfl,aO,aK.trans g2,by grind,hlen,?_,λy aF=>(by grind),cX,fi,rfl⟩;grind [isNil]
theorem NP{r:Option (Nat×Nat)×Nat×Bool}{d:Option Tmp}{p v:aa}{m':Mem}(h:uI r (.var S.cd) d S.var K=.ok t)(ad:Rel F S ρ ids s)(aB:bN X.P C n t (ρ++[p]) R)(ae:p.plain=true)(ar:rD r.1 p v s.m.an m'.an)(hm:m'={ s.m with an:=m'.an })(l7:s.m.an<=m'.an):
  ∃pK pL uZ tO,K pK=.ok tO/\Rel F pK pL uZ ({ s with m:=m' }.put d v)/\bN X.P C n tO pL R/\Ext S ρ pK pL:=by
 have hb:=ad.bind p false (by simp);obtain⟨g1,g2⟩:=fO ad p ae;have fin:∀{ba:Sym}{bY:List aa}{bd:c6}{cs:List aa}{xid:Option Nat},Rel F ba bY ids s->bd.c.ok bY->bd.c.den bY=.agg cs->0<bd.sz->cs.length=cs.length/bd.sz*bd.sz->isNil bY bd.born cs=some (Option.isNone xid)->(∀y,bd.born=.dyn y->y.ok bY)->(∀id,xid=some id->s.m.an<=id/\id<m'.an)->bd.born.j2=true ->
   Rel F ({ ba with bd:=ba.bd++[some bd] }:Sym) bY (eA ids ba.bd.length xid) { s with m:=m' }/\bZ F (({ ba with bd:=ba.bd++[some bd] }:Sym).env bY (eA ids ba.bd.length xid)) (.own ba.bd.length) (match xid with|some id=>.sl (some id) bd.sz 0 (cs.length/bd.sz) cs|none=>.bC):=by
  intro ba bY bd cs xid cy dM gC jF kB kC qH x7 GK;obtain⟨j7,iD⟩:=cy.Fa (x:=xid) dM gC jF kB kC qH (s':={ s with m:=m' }) rfl (by rw[hm]) (by rw[hm]) l7 x7 rfl rfl (by rw[hm]);refine⟨j7,?_⟩;refine⟨bd,cs,by grind [Sym.env],iD,?_⟩;simp only[Sym.env,eA,if_true];grind [la]
 obtain⟨path,sz,b⟩:=r;cases path with
 |none=>
  simp only[uI]at h;obtain⟨bd,ba,bY,t1,cs,xid,U,cy,dM,gC,jF,kB,kC,qH,x7,Ma,LD,Gn,LF,GK⟩:=PR (X:=X) h (show Rel F S.var (ρ++[p]) ids s from hb) aB (by rw[g2];exact ar) g1;obtain⟨j7,iD⟩:=fin cy kB kC qH x7 Ma LD LF GK;rw[←Gn]at iD;refine⟨_,bY,_,t1,U,j7.put d iD,dM,?_⟩;have aj:Ext S ρ S.var (ρ++[p]):=Ext.bind S ρ p false;have aF:Ext ba bY ({ ba with bd:=ba.bd++[some bd] }:Sym) bY:=⟨List.prefix_refl _,rfl,rfl,rfl,rfl,rfl,Nat.le_refl _,rfl⟩;exact((aj.trans gC).trans aF).put _ _
 |some z7=>
  obtain⟨dZ,j⟩:=z7;simp only[uI]at h;obtain⟨ps,x,y,rfl,aO,rfl,ar⟩:=ar;obtain⟨t1,U,rfl⟩:=ig h;obtain⟨c,ah,aB⟩:=aB.av;simp only[Prim.run,aS.den,g2,vc]at ah;split at ah
  ·rename_i ak;injection ah with ah;subst ah;have Gp:Rel F S.var (ρ++[.agg ps]) ids s:=hb;have oK:=Gp.bind (.agg ps) false (by simp);obtain⟨g3,g4⟩:=fO Gp (.agg ps) ae;have BP:bG ps=true:=by simpa only[aa.plain]using ae
   have Gk:=((hH ps).1 BP x (List.mem_of_getElem? aO));have Fb:aR.den ((ρ++[.agg ps])++[.agg ps]) (.proj (.var S.var.cd) j)=x:=by
    show cM (aR.den ((ρ++[.agg ps])++[.agg ps]) (.var S.var.cd)) j=x;rw[g4];simp[cM,List.getD_eq_getElem?_getD,aO]
   have agS:aR.ok ((ρ++[.agg ps])++[.agg ps]) (.proj (.var S.var.cd) j):=⟨g3,by
    have:cM (aR.den ((ρ++[.agg ps])++[.agg ps]) (.var S.var.cd)) j=x:=Fb;rw[this];exact Gk.1⟩
   obtain⟨bd,ba,bY,t1,cs,xid,ab,cy,dM,gC,jF,kB,kC,qH,x7,Ma,LD,Gn,LF,GK⟩:=PR (X:=X) U oK aB (by rw[Fb];exact ar) agS;obtain⟨j7,iD⟩:=fin cy kB kC qH x7 Ma LD LF GK;rw[←Gn]at iD;have aj:Ext S ρ S.var (ρ++[.agg ps]):=Ext.bind S ρ _ false;have dG:Ext S.var (ρ++[.agg ps]) (S.var.bind false) ((ρ++[.agg ps])++[.agg ps]):=Ext.bind _ _ _ false;have aF:Ext ba bY ({ ba with bd:=ba.bd++[some bd] }:Sym) bY:=⟨List.prefix_refl _,rfl,rfl,rfl,rfl,rfl,Nat.le_refl _,rfl⟩;obtain⟨d1,d2⟩:=aR.j9 gC.pre g3;refine⟨_,bY,_,t1,ab,j7.put d (v:=.agg (((List.range dZ).map λi=>aL.e (.proj (.var S.var.cd) i)).set j (.own ba.bd.length))) ?_,dM,(((aj.trans dG).trans gC).trans aF).put _ _⟩;refine⟨_,rfl,QQ ?_ iD ?_ j⟩
   ·exact ym (by show aR.den bY _=_;rw[d1,g4]) d2 ak
   ·rw[Gn];cases xid<;>rfl
  ·cases ah
theorem OO{r:Bool}{sz:Nat}{x c:aa}(h:po r sz x=some c)(an:Nat):∃v,zq x v an (an+1):=by
 unfold po at h;split at h
 ·exact⟨.bC,.inr ⟨rfl,rfl⟩⟩
 ·rename_i iL len cs;split at h
  ·exact⟨.sl (some an) iL 0 len cs,.inl ⟨iL,len,cs,an,rfl,rfl,Nat.le_refl _,by omega⟩⟩
  ·cases h
 ·cases h
theorem NQ{r:Bool}{sz:Nat}{x:aS}{KK:c6->Sym->M}(h:y9 r sz x S KK=.ok t)(aB:bN X.P C n t ρ R):∃c,po r sz (x.den ρ)=some c:=by
 unfold y9 at h;split at h
 ·cases h
 ·obtain⟨t1,U,rfl⟩:=ig h;obtain⟨c,ah,_⟩:=aB.av;exact⟨c,ah⟩
theorem Wa{r:Option (Nat×Nat)×Nat×Bool}{d:Option Tmp}{p:aa}(h:uI r (.var S.cd) d S.var K=.ok t)(ad:Rel F S ρ ids s)(aB:bN X.P C n t (ρ++[p]) R)(ae:p.plain=true)(an:Nat):∃v,rD r.1 p v an (an+1):=by
 obtain⟨g1,g2⟩:=fO ad p ae;obtain⟨path,sz,b⟩:=r;cases path with
 |none=>
  simp only[uI]at h;obtain⟨c,ah⟩:=NQ (X:=X) h aB;simp only[aS.den,g2]at ah;exact OO ah an
 |some z7=>
  obtain⟨dZ,j⟩:=z7;simp only[uI]at h;obtain⟨t1,U,rfl⟩:=ig h;obtain⟨c,ah,aB⟩:=aB.av;simp only[Prim.run,aS.den,g2,vc]at ah;cases p with
  |agg ps=>
   simp only[]at ah;split at ah
   ·injection ah with ah;subst ah;have Gp:Rel F S.var (ρ++[.agg ps]) ids s:=ad.bind (.agg ps) false (by simp);obtain⟨g3,g4⟩:=fO Gp (.agg ps) ae;obtain⟨c,ah⟩:=NQ (X:=X) U aB;have Fb:aS.den ((ρ++[.agg ps])++[.agg ps]) (.e (.proj (.var S.var.cd) j))=ps.getD j .bad:=by
     show cM (aR.den ((ρ++[.agg ps])++[.agg ps]) (.var S.var.cd)) j=_;rw[g4];rfl
    rw[Fb,List.getD_eq_getElem?_getD]at ah;cases aC:ps[j]? with
    |none=>grind [po]
    |some x=>
     rw[aC]at ah;obtain⟨y,aF⟩:=OO (by simpa using ah) an;exact⟨_,ps,x,y,rfl,aC,rfl,aF⟩
   ·cases ah
  |_=>cases ah
theorem ZJ(s:aA):s.after [] s.m=s:=by
 have:gV s.a0.a s.bb []=s.bb:=by cases s.bb<;>simp[gV]
 simp_all[aA.after]
theorem Mt{c:Call}{f:Operand}{g:FuncId}{caps:List aa}{args':List aa}{args:List aS}(hC:jq X.P F.DI C)(aE:o.op=.call c)(de:c.callee=.value f)(aQ:s.ay f=.fn g caps)(au:im F.DI s.m (ep ρ args++args') (c.args.toList.map s.ay++caps))
  {bw:Tree} (oE:∀ω,(C ω g (ep ρ args++args')).isSome) (aB:∀ω v,C ω g (ep ρ args++args')=some v->bN X.P C n bw (ρ++[v]) R) (ad:Rel F S ρ ids s)
  (h:K (S.var.put o.dst (.e (.var S.cd)))=.ok bw):hM X F C n R K S ρ s o:=by
 refine⟨s,dW.refl s,?_⟩;simp only[eQ,aE,de,aQ];obtain⟨v0,pD⟩:=Option.isSome_iff_exists.1 (oE gP);refine⟨hC.fn _ _ _ _ pD,((hC.zG g _ oE _ _ au).mono ?_).y⟩;rintro v E m' ⟨⟨ω,ai⟩,ae,rfl,rfl⟩;rw[ZJ];have hb:=ad.bind v false (by simp);obtain⟨g1,g2⟩:=fO ad v ae;exact⟨_,_,ids,bw,h,hb.put o.dst (by exact⟨g2.symm,g1⟩),aB ω v ai,(Ext.bind S ρ v false).put _ _⟩
def JR(X:Ctx)(C:b2->FuncId->List aa->Option aa)(n:Nat)(inl:fh):Prop:=
 ∀(F:cP)(R:Out->Prop)(key:Nat)(g:FuncId)(args:List aL)(K:aL->Sym->M)(S:Sym)(ρ:List aa)(ids:Nat->Option Nat)(s:aA)(t:Tree)(bz:List aa),
  F.P=X.P->jq X.P F.DI C->mu X.P F.DI X.hI->p7 X F.DI C->inl key g args S K=.ok t->Rel F S ρ ids s->jd F (S.env ρ ids) args bz->bN X.P C n t ρ R ->
  qR X.P s.c7 g bz s.m λq E m'=>∃v br b1 dK bw,K v br=.ok bw/\Rel F br b1 dK (s.after E m')/\bZ F (br.env b1 dK) v q/\bN X.P C n bw b1 R/\Ext S ρ br b1
theorem ac3{c:Call}{f:Operand}{g:FuncId}{caps:List aL}{fn:Func}(aw:F.P=X.P)(hC:jq X.P F.DI C)(gq:mu X.P F.DI X.hI)(fe:p7 X F.DI C)(iM:JR X C n inl)(aE:o.op=.call c)(de:c.callee=.value f)(aQ:S.ay f=.fn g caps)(dX:X.P.funcs[g]?=some fn)(hs:¬(fn.name = "runtime.NumGoroutine" \/ fn.body.isNone))
  (h:inl key g (c.args.toList.map S.ay++caps) S (λv S=>K (S.put o.dst v))=.ok t) (ad:Rel F S ρ ids s) (aB:bN X.P C n t ρ R):hM X F C n R K S ρ s o:=by
 have eH:=ad.ay f;rw[aQ]at eH;obtain⟨aG,e,ak⟩:=eH;refine⟨s,dW.refl s,?_⟩;simp only[eQ,aE,de,e];refine⟨⟨fn,dX,λe=>hs (.inl e),by cases hb:fn.body<;>simp[hb]at hs⊢⟩,?_⟩;refine(iM F R key g _ _ S ρ ids s t _ aw hC gq fe h ad (Ak (qX ad _) (yj ak)) aB).mono ?_;rintro q E m' ⟨v,br,b1,dK,bw,U,ab,al,aJ,bm⟩;exact⟨_,b1,dK,bw,U,ab.put o.dst al,aJ,bm.put _ _⟩
def JS(X:Ctx)(C:b2->FuncId->List aa->Option aa)(n:Nat)(yl:fh):Prop:=
 ∀(F:cP)(R:Out->Prop)(key:Nat)(y:Nat)(args:List aL)(K:aL->Sym->M)(S:Sym)(ρ:List aa)(ids:Nat->Option Nat)(s:aA)(t:Tree)(bz:List aa),
  F.P=X.P->jq X.P F.DI C->mu X.P F.DI X.hI->p7 X F.DI C->yl key y args S K=.ok t->Rel F S ρ ids s->jd F (S.env ρ ids) args bz->bN X.P C n t ρ R ->
  ∃eE st mJ,eE∈s.c7/\F.cV.ys[y]?.map eN.l=some eE.l/\(eE.l,{ eE.o with state:=st,pending:=mJ })∈s.m.rc/\bz.length=eE.o.params.size /\
   wD X.P s.c7 eE.o eE.l bz s.m λq E m'=>∃v br b1 dK bw,K v br=.ok bw/\Rel F br b1 dK (s.after E m')/\bZ F (br.env b1 dK) v q/\bN X.P C n bw b1 R/\Ext S ρ br b1
theorem ac4{c:Call}{f:Operand}{y:Nat}(aw:F.P=X.P)(hC:jq X.P F.DI C)(gq:mu X.P F.DI X.hI)(fe:p7 X F.DI C)(fA:JS X C n yl)(aE:o.op=.call c)(de:c.callee=.value f)(aQ:S.ay f=.cq y)
  (h:yl key y (c.args.toList.map S.ay) S (λv S=>K (S.put o.dst v))=.ok t) (ad:Rel F S ρ ids s) (aB:bN X.P C n t ρ R):hM X F C n R K S ρ s o:=by
 have eH:=ad.ay f;rw[aQ]at eH;obtain⟨aG,aK,e⟩:=eH;refine⟨s,dW.refl s,?_⟩;simp only[eQ,aE,de,e];obtain⟨eE,st,mJ,U,ab,al,aJ,bm⟩:=fA F R key y _ _ S ρ ids s t _ aw hC gq fe h ad (qX ad _) aB;rw[aK]at ab;injection ab with ab;subst ab;refine⟨eE,st,mJ,U,rfl,al,by grind,bm.mono ?_⟩;rintro q E m' ⟨v,br,b1,dK,bw,U,ab,al,aJ,bm⟩;exact⟨_,b1,dK,bw,U,ab.put o.dst al,aJ,bm.put _ _⟩
theorem abg(h:Rel F S ρ ids s):Rel F ({ S with bx:=S.bx++[ga.c8] }:Sym) ρ ids { s with m:=⟨ea s.m.β s.m.n (.inv F.DI),s.m.n+1,s.m.an,s.m.rc⟩ }:=by
 have hle:(S.env ρ ids).le (({ S with bx:=S.bx++[ga.c8] }:Sym).env ρ ids):=⟨List.prefix_refl _,λ_ _ h=>h,by simp[Sym.env],λ_ _ _=>rfl⟩;refine⟨h.len,h.cU,λt=>bZ.mono hle (h.slot t),by simp[h.dt];omega,λi hi=>?_,λi b hb=>?_,h.hO,h.mv,λk a au=>?_,h.a0,h.cV,h.kY,h.bb,h.new,h.keep,h.dO,h.lG,by have:=h.mS;simp;omega,h.an,h.kZ,h.rc⟩
 ·have:=h.dt;simp only[qK _ _ _ _ (by omega:i≠s.m.n)];exact h.old i hi
 ·simp only[List.getElem?_append]at hb;have aI:=h.dt;split at hb
  ·simp only[qK _ _ _ _ (by omega:F.n0+i≠s.m.n)];exact Ex hle (h.box i b hb)
  ·have:i=S.bx.length:=by grind
   subst this;simp at hb;subst hb;rw[←aI];simp ;exact rfl
 ·obtain⟨cs,ah⟩:=h.arr k a au;exact⟨cs,c6.rel.mono hle au ah⟩
theorem abh{c:Call}{f:Operand}{p:aS}(hC:mu X.P F.DI X.hI)(aE:o.op=.call c)(de:c.callee=.value f)(aQ:S.ay f=.fn X.hI.new [])(ae:hT (c.args.toList.map S.ay)=some [p]){fn:Func}(dX:X.P.funcs[X.hI.new]?=some fn)(hs:¬(fn.name = "runtime.NumGoroutine" \/ fn.body.isNone))
  (h:emit (.ints p) false S (λ_ S=>K (Sym.put { S with bx:=S.bx++[ga.c8] } o.dst (.ptr S.bx.length 0)))=.ok t) (ad:Rel F S ρ ids s) (aB:bN X.P C n t ρ R):hM X F C n R K S ρ s o:=by
 obtain⟨bw,eP,rfl⟩:=ig h;obtain⟨pv,eW,aB⟩:=aB.av;simp only[Prim.run,EX]at eW;split at eW
 case isFalse=>cases eW
 rename_i hints;injection eW with eW;subst eW;obtain⟨aK,aO⟩:=ad.evs _ _ ae;have lp:=ad.bind (p.den ρ) false (by simp);have eH:=ad.ay f;rw[aQ]at eH;obtain⟨aG,e,ak⟩:=eH;subst ak;refine⟨s,dW.refl s,?_⟩;simp only[eQ,aE,de,e];refine⟨⟨fn,dX,λe=>hs (.inl e),by cases hb:fn.body<;>simp[hb]at hs⊢⟩,?_⟩;rw[List.append_nil,aK];refine gL.y ((hC.new (by grind) (p.den ρ) s.m hints).mono ?_);rintro v E m' ⟨rfl,rfl,rfl⟩;have aq:=abg lp;have KD:s.after [] ⟨ea s.m.β s.m.n (.inv F.DI),s.m.n+1,s.m.an,s.m.rc⟩={ s with m:=⟨ea s.m.β s.m.n (.inv F.DI),s.m.n+1,s.m.an,s.m.rc⟩ }:=by
  have:gV s.a0.a s.bb []=s.bb:=by cases s.bb<;>simp[gV]
  simp_all[aA.after]
 rw[KD];have gH:(S.bind false).bx.length=S.bx.length:=rfl;refine⟨_,_,ids,bw,eP,aq.put o.dst (by exact⟨by rw[ad.dt,gH],by simp[Sym.env]⟩),aB,?_⟩;have aj:Ext (S.bind false) (ρ++[p.den ρ]) ({ S.bind false with bx:=(S.bind false).bx++[ga.c8] }:Sym) (ρ++[p.den ρ]):=⟨List.prefix_refl _,rfl,rfl,rfl,rfl,rfl,by simp,rfl⟩;exact((Ext.bind S ρ _ false).trans aj).put _ _
end
end
section
open Go Go.RowKit
variable[cQ]
section
variable{X:Ctx}{F:cP}{C:b2->FuncId->List aa->Option aa}{n:Nat}{R:Out->Prop}{S:Sym}{ρ:List aa}{ids:Nat->Option Nat}{s:aA}{K:Sym->M}{t:Tree}{o:Oper}{m0:Mem}{inl yl:fh}{lx:Option Nat}{key:Nat}{E:Env}
theorem OP(l:List Int):bG (l.map (aa.int .i64))=true:=by
 induction l with
 |nil=>rfl
 |cons x l az=>simp only[List.map_cons,bG,az];rfl
theorem DH(cs:List aa):(lP cs).length=cs.length:=by simp[lP]
theorem NS(s:aA):s.after [] s.m=s:=by
 have:gV s.a0.a s.bb []=s.bb:=by cases s.bb<;>simp[gV]
 simp[aA.after,aa.sub,this]
theorem abj{c:Call}{f:Operand}{g:FuncId}{k:Nat}{a:c6}{fn:Func}(iB:Sc X.P g)(aE:o.op=.call c)(de:c.callee=.value f)(aQ:S.ay f=.fn g [])(hm:c.args.toList.map S.ay=[.own k])(au:S.bd.getD k none=some a)(bX:a.sz=1)(bh:a.born.still=true)
  (dX:X.P.funcs[g]?=some fn) (hs:¬(fn.name = "runtime.NumGoroutine" \/ fn.body.isNone=true)) (h:emit (.qz a.c) false S (λv S=>K ((S.dm k false { a with c:=v }).put o.dst .undef))=.ok t) (ad:Rel F S ρ ids s) (aB:bN X.P C n t ρ R):hM X F C n R K S ρ s o:=by
 obtain⟨bw,a1,rfl⟩:=ig h;obtain⟨v,ai,aB⟩:=aB.av;have eH:=ad.ay f;rw[aQ]at eH;unfold bZ at eH;obtain⟨aG,e,ak⟩:=eH;simp only[cJ]at ak;subst ak;have fR:=qX ad c.args.toList;rw[hm]at fR;obtain⟨q,ei,aO,aH,bQ⟩:=fR;simp only[jd]at bQ;subst bQ;unfold bZ at aH;obtain⟨a',cs,U,ab,al⟩:=aH;have:a'=a:=by have:=U.symm.trans au;injection this
 subst this;have h2:a'.c.den ρ=.agg cs:=ab.2.1;simp only[Prim.run,h2,Kv]at ai;split at ai
 case isFalse=>cases ai
 rename_i ah;injection ai with ai;subst ai;have cD:bG (lP cs)=true:=OP _;have hb:=ad.bind (.agg (lP cs)) false (by simp);obtain⟨g1,g2⟩:=fO ad (.agg (lP cs)) (by simpa only[aa.plain]using cD);have ha:=c6.rel.mono (Env.p0 S ρ ids (.agg (lP cs)) false) U ab;have hlen:(lP cs).length=(lP cs).length/a'.sz*a'.sz:=by rw[bX];simp
 refine⟨s,dW.refl s,?_⟩;simp only[eQ,aE,de,e];refine⟨⟨fn,dX,λe=>hs (.inl e),by cases hb:fn.body<;>simp[hb]at hs⊢⟩,?_⟩;rw[List.append_nil,aO];have fK:=ab.2.2.2.2.1;cases cr:ids k with
 |some id=>
  rw[show(S.env ρ ids).ids k=some id from cr,la (qM bh),bX]at al;rw[show(S.env ρ ids).ids k=some id from cr]at fK;simp only[Nat.div_one]at al;rw[al];refine gL.y (((iB cs s.m ah.1 ah.2).1 id).mono ?_);rintro v E m' ⟨rfl,rfl,rfl⟩;have qv:isNil (ρ++[.agg (lP cs)]) a'.born (lP cs)=some false:=by
   rw[Aj (ρ:=ρ) ab.2.2.2.2.2];have J2:isNil ρ a'.born cs=some false:=fK;cases hb:a'.born with
   |real=>rfl
   |cZ=>
    rw[hb]at J2;cases hcs:cs with
    |nil=>rw[hcs]at J2;simp[isNil]at J2
    |cons x xs=>
     cases ao:lP (x::xs)with
     |nil=>have:=DH (x::xs);rw[ao]at this;simp at this
     |cons _ _=>rfl
   |dyn y=>rw[hb]at bh;cases bh
   |map=>rw[hb]at bh;cases bh
   |it=>rw[hb]at bh;cases bh
  obtain⟨eh,r2⟩:=hb.gY (k:=k) (id:=id) (c':=.var S.cd) (all:=false) (EE:=nd id 0 (lP cs)) U ha cr (λe he=>by
    obtain⟨CO,u,hF,p,rfl⟩:=I5 he;exact⟨rfl,λn an=>AL n an u ((hH _).1 cD u hF).1⟩) g1 g2 hlen qv (λ_=>by
     rw[la (qM bh),la (qM bh)];simp only;rw[I4 id a'.sz _ _ _ cs ab.plain cD (by rw[DH];omega),DH];congr 1;simp[fa,DH])
  refine⟨_,_,ids,bw,a1,eh.put o.dst (v:=.undef) (by simp only[bZ]),aB,((Ext.bind S ρ _ false).trans (qW k false _)).put _ _⟩
 |none=>
  rw[show(S.env ρ ids).ids k=none from cr,la (qM bh)]at al;rw[show(S.env ρ ids).ids k=none from cr]at fK;obtain⟨ix,hcs⟩:=Ht bh fK;subst hcs;simp only at al;rw[al];refine gL.y ((iB [] s.m ah.1 ah.2).2.mono ?_);rintro v E m' ⟨rfl,rfl,rfl⟩;rw[NS];have F6:lP []=[]:=by simp[lP]
  rw[F6]at hb g1 g2 ha aB;obtain⟨eh,r2⟩:=hb.KC (k:=k) (xid:=none) (c':=.var S.cd) (cs':=[]) (all:=false) (EE:=[]) U ha cr (λe he=>by cases he) g1 g2 (by simp) (by rw[ix];rfl) (λ_=>rfl);have bq:s.gY []=s:=by
   have:gV s.a0.a s.bb []=s.bb:=by cases s.bb<;>simp[gV]
   have fW:(λi=>(s.m.β i).sub [])=s.m.β:=by funext i;simp
   simp only[aA.gY,aa.Ed,this,fW]
  rw[bq]at eh;refine⟨_,_,ids,bw,a1,eh.put o.dst (v:=.undef) (by simp only[bZ]),aB,((Ext.bind S ρ _ false).trans (qW k false _)).put _ _⟩
theorem abk{c:Call}{f:Operand}{g:FuncId}{k:Nat}{a:c6}{fn:Func}(iB:Sd X.P g)(aE:o.op=.call c)(de:c.callee=.value f)(aQ:S.ay f=.fn g [])(hm:c.args.toList.map S.ay=[.own k])(au:S.bd.getD k none=some a)(bX:a.sz=1)(bh:a.born.still=true)
  (dX:X.P.funcs[g]?=some fn) (hs:¬(fn.name = "runtime.NumGoroutine" \/ fn.body.isNone=true)) (h:emit (.qA a.born a.c) true S (λv S=>K ((S.dm k true a).put o.dst (.e v)))=.ok t) (ad:Rel F S ρ ids s) (aB:bN X.P C n t ρ R):hM X F C n R K S ρ s o:=by
 obtain⟨bw,a1,rfl⟩:=ig h;obtain⟨v,ai,S3⟩:=aB.av;have eH:=ad.ay f;rw[aQ]at eH;unfold bZ at eH;obtain⟨aG,e,ak⟩:=eH;simp only[cJ]at ak;subst ak;have fR:=qX ad c.args.toList;rw[hm]at fR;obtain⟨q,ei,aO,aH,bQ⟩:=fR;simp only[jd]at bQ;subst bQ;unfold bZ at aH;obtain⟨a',cs,U,ab,al⟩:=aH;have:a'=a:=by have:=U.symm.trans au;injection this
 subst this;have h2:a'.c.den ρ=.agg cs:=ab.2.1;have fK:isNil ρ a'.born cs=some (ids k).isNone:=ab.2.2.2.2.1;simp only[Prim.run,h2,Kw,fK]at ai;split at ai
 case isFalse=>cases ai
 rename_i ah;have xz:v.plain=true/\v.one=true:=by
  split at ai
  ·injection ai with ai;subst ai;exact⟨rfl,rfl⟩
  ·injection ai with ai;subst ai;exact⟨by simp only[aa.plain];exact OP _,rfl⟩
  ·cases ai
 have hb:=ad.bind v true (λ_=>xz.2);obtain⟨g1,g2⟩:=fO ad v xz.1;have ha:=c6.rel.mono (Env.p0 S ρ ids v true) U ab;refine⟨s,dW.refl s,?_⟩;simp only[eQ,aE,de,e];refine⟨⟨fn,dX,λe=>hs (.inl e),by cases hb:fn.body<;>simp[hb]at hs⊢⟩,?_⟩;rw[List.append_nil,aO];have hA:aR.ok (ρ++[v]) a'.c:=ha.1;have oT:aR.den (ρ++[v]) a'.c=.agg cs:=ha.2.1;cases cr:ids k with
 |some id=>
  rw[show(S.env ρ ids).ids k=some id from cr,la (qM bh),bX]at al;rw[cr]at ai fK;simp only[Nat.div_one]at al;simp only[Option.isNone_some,Option.some.injEq]at ai;rw[al];refine gL.y (((iB cs s.m ah.1 ah.2).1 id).mono ?_);rintro w E m' ⟨rfl,rfl,rfl⟩;obtain⟨eh,r2⟩:=hb.gY (k:=k) (id:=id) (c':=a'.c) (all:=true) (EE:=[.kill id]) U ha cr (λe he=>by simp only[List.mem_singleton]at he;subst he;exact⟨rfl,trivial⟩) hA oT ab.2.2.2.1 (by rw[Aj (ρ:=ρ) ab.2.2.2.2.2];exact fK) (λe=>by cases e);refine⟨_,_,ids,bw,a1,eh.put o.dst (v:=.e (.var S.cd)) ?_,S3,((Ext.bind S ρ _ true).trans (qW k true _)).put _ _⟩;simp only[bZ];exact⟨ai.trans g2.symm,g1⟩
 |none=>
  rw[show(S.env ρ ids).ids k=none from cr,la (qM bh)]at al;rw[cr]at ai fK;obtain⟨ix,hcs⟩:=Ht bh fK;subst hcs;simp only[Option.isNone_none,Option.some.injEq]at ai;simp only at al;rw[al];refine gL.y ((iB [] s.m ah.1 ah.2).2.mono ?_);rintro w E m' ⟨rfl,rfl,rfl⟩;rw[NS];obtain⟨eh,r2⟩:=hb.KC (k:=k) (xid:=none) (c':=a'.c) (cs':=[]) (all:=true) (EE:=[]) U ha cr (λe he=>by cases he) hA oT (by simp) (by rw[ix];rfl) (λ_=>rfl);have bq:s.gY []=s:=by
   have:gV s.a0.a s.bb []=s.bb:=by cases s.bb<;>simp[gV]
   have fW:(λi=>(s.m.β i).sub [])=s.m.β:=by funext i;simp
   simp only[aA.gY,aa.Ed,this,fW]
  rw[bq]at eh;refine⟨_,_,ids,bw,a1,eh.put o.dst (v:=.e (.var S.cd)) ?_,S3,((Ext.bind S ρ _ true).trans (qW k true _)).put _ _⟩;simp only[bZ];exact⟨ai.trans g2.symm,g1⟩
end
end
section
open Go Go.RowKit
variable[cQ]
def SS(X:Ctx)(C:b2->FuncId->List aa->Option aa)(n:Nat)(inl:fh):Prop:=
 ∀(F:cP)(R:Out->Prop)(f:FuncId)(h:Operand)(ps:Array Tmp)(a b:Code)(p:Nat)(K:eJ->Sym->M)(S:Sym)(ρ:List aa)(ids:Nat->Option Nat)(s:aA)(t:Tree),
  F.P=X.P->jq X.P F.DI C->mu X.P F.DI X.hI->p7 X F.DI C->HK X inl f h ps a b p S K=.ok t->Rel F S ρ ids s->bN X.P C n t ρ R ->
  ff X.P (.rangeFunc h ps a b) s λe s'=>hS X F C n R (K e) S ρ s'
structure ri(X:Ctx)(DI:List aa->Prop)(C:b2->FuncId->List aa->Option aa)(n:Nat)(c5 ajD:fh):Prop where
 c:jq X.P DI C
 new:mu X.P DI X.hI
 inl:JR X C n c5
 yl:JS X C n ajD
 tN:SS X C n c5
 own:∀g r,mW X.nb g=some r->wi X.P DI C g r.1
section
variable{X:Ctx}{F:cP}{C:b2->FuncId->List aa->Option aa}{n:Nat}{R:Out->Prop}{S:Sym}{ρ:List aa}{ids:Nat->Option Nat}{s:aA}{K:Sym->M}{t:Tree}{o:Oper}{m0:Mem}{inl yl:fh}{lx:Option Nat}{key:Nat}{E:Env}
theorem EO{α β:Type}{x:Except String α}{f:α->β}{b:β}(h:Except.map f x=.ok b):∃a,x=.ok a/\f a=b:=by
 cases x with
 |error e=>cases h
 |ok a=>exact⟨a,rfl,by simpa[Except.map]using h⟩
theorem yH{α β:Type}{x:Except String α}{f:α->Except String β}{b:β}(h:(x >>= f)=.ok b):∃a,x=.ok a/\f a=.ok b:=by
 cases x with
 |error e=>cases h
 |ok a=>exact⟨a,rfl,h⟩
theorem abi{c:Call}{f:Operand}(aw:F.P=X.P)(aq:ri X F.DI C n inl yl)(aE:o.op=.call c)(de:c.callee=.value f)(h:AK X inl yl none key o f c.args.toList S K=.ok t)(ad:Rel F S ρ ids s)(aB:bN X.P C n t ρ R):hM X F C n R K S ρ s o:=by
 unfold AK at h;split at h
 ·rename_i g caps aQ;split at h
  ·rename_i fn dX;split at h
   ·cases h
   ·rename_i hs;split at h
    ·rename_i aN;simp only[Option.isSome_none,Bool.false_eq_true,if_false]at h;refine AO h ad aB λS ρ ids s t h ad aB=>?_;split at h
     ·rename_i g' _ p pJ ae;split at h
      ·rename_i CB;exact abh aq.new aE de (by rw[pJ,CB,aN]) ae (by rw[←aN];exact dX) hs h ad aB
      ·cases h
     ·cases h
    ·split at h
     ·rename_i agT;simp only[Option.isSome_none,Bool.false_eq_true,if_false]at h;split at h
      ·rename_i k qb;split at h
       ·rename_i a au;split at h
        ·rename_i ah;exact abj (aq.new.qz _ agT) aE de aQ qb au ah.1 ah.2 dX hs h ad aB
        ·cases h
       ·cases h
      ·cases h
     split at h
     ·rename_i agU;simp only[Option.isSome_none,Bool.false_eq_true,if_false]at h;split at h
      ·rename_i k qb;split at h
       ·rename_i a au;split at h
        ·rename_i ah;exact abk (aq.new.qA _ agU) aE de aQ qb au ah.1 ah.2 dX hs h ad aB
        ·cases h
       ·cases h
      ·cases h
     split at h
     ·exact ac3 aw aq.c aq.new aq.own aq.inl aE de aQ dX hs h ad aB
     ·refine AO h ad aB λS ρ ids s t h ad aB=>?_;split at h
      ·rename_i g' afq pJ;split at h
       ·rename_i CB;subst CB;split at h
        ·rename_i ps gy;obtain⟨bw,a1,h⟩:=EO h;have eH:=ad.ay f;rw[pJ]at eH;unfold bZ at eH;obtain⟨aG,e,ak⟩:=eH;subst h;obtain⟨U,ab⟩:=aB.call;have au:=uo (m0:=s.m) (lx:=none) ad rfl ⟨Nat.le_refl _,λ_ _=>rfl⟩ gy (Ak (qX ad _) (yj ak));have plain:K (S.var.put o.dst (.e (.var S.cd)))=.ok bw->hM X F C n R K S ρ s o:=λa1=>
          Mt (args:=ps) (args':=[]) aq.c aE de e (by rw[List.append_nil];exact au) (by rw[List.append_nil];exact U) (by rw[List.append_nil];exact ab) ad a1
         split at a1
         ·rename_i r Bq;split at a1
          ·refine⟨s,dW.refl s,?_⟩;simp only[eQ,aE,de,e];obtain⟨v0,pD⟩:=Option.isSome_iff_exists.1 (U gP);refine⟨aq.c.fn _ _ _ _ pD,((aq.own g' r Bq _ U _ s.m au).mono ?_).y⟩;rintro v E m' ⟨p,ω,ai,ae,rfl,eX,l7,ar⟩;have KD:s.after [] m'={ s with m:=m' }:=by
            have:gV s.a0.a s.bb []=s.bb:=by cases s.bb<;>simp[gV]
            simp[aA.after,aa.sub,this]
           rw[KD];obtain⟨pK,pL,uZ,tO,k1,bf,bP,cX⟩:=NP (X:=X) a1 ad (ab ω p ai) ae ar eX l7;exact⟨pK,pL,uZ,tO,k1,bf,bP,cX⟩
          ·split at a1
           ·rename_i aj;simp at aj
           ·exact plain a1
         ·exact plain a1
        ·cases h
       ·cases h
      ·cases h
  ·cases h
 ·simp only[Option.isSome_none,Bool.false_and,Bool.false_eq_true,if_false]at h;refine AO h ad aB λS ρ ids s t h ad aB=>?_;split at h
  ·rename_i x aj;split at h
   ·rename_i ps gy;obtain⟨bw,a1,h⟩:=EO h;subst h;obtain⟨g,caps,e,U,ab⟩:=aB.kL;have eH:=ad.ay f;rw[aj]at eH;unfold bZ at eH;have e':s.ay f=.fn g caps:=by rw[eH.1];exact e
    have cD:(s.ay f).plain=true:=by rw[eH.1];exact aR.jJ eH.2
    rw[e']at cD;have LG:bG caps=true:=by simpa only[aa.plain]using cD
    have au:=uo (m0:=s.m) (lx:=none) ad rfl ⟨Nat.le_refl _,λ_ _=>rfl⟩ gy (qX ad _);have iu:∀{a a':List aa}{b:List aa},im F.DI s.m a a'->bG b=true->im F.DI s.m (a++b) (a'++b):=by
     intro a;induction a with
     |nil=>
      intro a' b h hb;simp only[im]at h;subst h;induction b with
      |nil=>rfl
      |cons q b az=>
       simp only[bG,Bool.and_eq_true]at hb;exact⟨q,b,rfl,.inl ⟨rfl,hb.1.1⟩,az hb.2⟩
     |cons p a az=>
      rintro a' b ⟨q,aG,rfl,U,ab⟩ hb;exact⟨q,aG++b,rfl,U,az ab hb⟩
    exact Mt aq.c aE de e' (iu au LG) U ab ad a1
   ·cases h
  ·cases h
 ·rename_i y aQ;simp only[Option.isSome_none,Bool.false_eq_true,if_false]at h;exact ac4 aw aq.c aq.new aq.own aq.yl aE de aQ h ad aB
 ·cases h
theorem aeb(aw:F.P=X.P)(aq:ri X F.DI C n inl yl)(h:sQ X inl yl none key o S K=.ok t)(ad:Rel F S ρ ids s)(aB:bN X.P C n t ρ R):hM X F C n R K S ρ s o:=by
 unfold sQ at h;split at h
 ·rename_i x aE;exact jI (by simp[aE]) (ic h ad aB (by simp only[bV,aE]) (ad.ay x))
 ·rename_i x aE;exact jI (by simp[aE]) (ic h ad aB (by simp only[bV,aE]) (ad.ay x))
 ·rename_i c x y aE;exact jI (by simp[aE]) (Q1 aE h ad aB)
 ·rename_i op ty x y Gl aE;split at h
  ·rename_i p q ae aH;exact jI (by simp[aE]) (R2 aE ae aH h ad aB)
  ·cases h
 ·rename_i ty x aE;split at h
  ·rename_i b ae;obtain⟨e,_⟩:=ad.cu ae;exact jI (by simp[aE]) (ic h ad aB (pv:=.bool !b) (by simp only[bV,aE,e];rfl) (by unfold bZ;exact⟨rfl,rfl⟩))
  ·rename_i p _ ae;exact jI (by simp[aE]) (E9 aE ae h ad aB)
  ·cases h
 ·rename_i op ty x _ aE;split at h
  ·rename_i p ae;exact jI (by simp[aE]) (E9 aE ae h ad aB)
  ·cases h
 ·rename_i a b x aE;split at h
  ·rename_i p ae;exact jI (by simp[aE]) (Q4 aE ae h ad aB)
  ·cases h
 ·rename_i x aE;exact jI (by simp[aE]) (R0 aE h ad aB)
 ·rename_i x i aE;exact jI (by simp[aE]) (R1 aE h ad aB)
 ·rename_i ty x f aE;exact jI (by simp[aE]) (PN aE h ad aB)
 ·rename_i ty x f aE;exact jI (by simp[aE]) (OM aE h ad aB)
 ·rename_i ty x i aE;exact jI (by simp[aE]) (MI aE h ad aB)
 ·rename_i ty x i aE;split at h
  ·rename_i p q ae aH;exact jI (by simp[aE]) (PO aE ae aH h ad aB)
  ·cases h
 ·rename_i ty x aE;exact jI (by simp[aE]) (Q3 (lx:=none) aE h ad rfl aB)
 ·rename_i ty x y aE;exact ZI aE h ad aB
 ·rename_i ty x aE;exact ac2 aE h ad aB
 ·rename_i ty aE;split at h
  ·rename_i z bO;split at h
   ·rename_i ae;exact ZG aE bO ae h ad aB
   ·cases h
  ·cases h
 ·rename_i ty parts aE;exact jI (by simp[aE]) (PQ aE h ad aB)
 ·rename_i ty len parts aE;exact VL aE h ad aB
 ·rename_i ty l c aE;exact abf aE h ad aB
 ·rename_i ty x lo hi aE;unfold HS at h;refine AO h ad aB λS ρ ids s t h ad aB=>?_;split at h
  ·rename_i p a b ae au hb;exact jI (by simp[aE]) (ok_slice aE ae au hb h ad aB)
  ·cases h
 ·rename_i f first caps aE
  split at h
  ·cases h
  ·rename_i ah;have U:first.size=0:=Classical.byContradiction λe=>ah (.inl e);have ab:(caps.toList.all λx=>(S.ay x).yN S)=true:=by
    cases bq:(caps.toList.all λx=>(S.ay x).yN S)with
    |true=>rfl
    |false=>exact absurd (.inr bq) ah
   exact jI (by simp[aE]) (M9 aE U h ab ad aB)
 ·rename_i c aE;split at h
  ·rename_i f de;exact abi aw aq aE de h ad aB
  ·rename_i de;split at h
   ·rename_i ty x a1 aj;exact jI (by simp[aE]) (R6 aE de a1 aj h ad aB)
   ·cases h
  ·rename_i de;split at h
   ·rename_i l ak;exact jI (by simp[aE]) (R4 aE de ak h ad aB)
   ·cases h
  ·rename_i de;split at h
   ·rename_i l ak;exact jI (by simp[aE]) (R5 aE de ak h ad aB)
   ·cases h
  ·rename_i de;split at h
   ·rename_i ty Gl x y dA F2;split at h
    ·rename_i e;subst e;exact Yh aE de dA F2 h ad aB
    ·cases h
   ·cases h
  ·cases h
 ·simp only[pure,Except.pure,Except.ok.injEq]at h;subst h;obtain⟨o,ar,_⟩:=aB gP;simp[eval]at ar
 ·simp only[pure,Except.pure,Except.ok.injEq]at h;subst h;obtain⟨o,ar,_⟩:=aB gP;simp[eval]at ar
 ·cases h
end
end
section
open Go Go.RowKit
variable[cQ]
section
variable{X:Ctx}{F:cP}{C:b2->FuncId->List aa->Option aa}{n:Nat}{R:Out->Prop}{S:Sym}{ρ:List aa}{ids:Nat->Option Nat}{s:aA}{K:Sym->M}{t:Tree}{o:Oper}{m0:Mem}{inl yl:fh}{lx:Option Nat}{key:Nat}{E:Env}{ops:Array Oper}{e2:Nat}
theorem abm{s:aA}{d:Nat}{v:aa}(h:s.g d=v):s.put (some d) v=s:=by
 cases s with
 |mk g m a0 bb=>
  simp only[aA.put]at h⊢;congr 1;grind
theorem uz(ad:Rel F S ρ ids s){d:Nat}{b:Bool}(h:s.g d=.bool b):Rel F (S.put (some d) (.e (.bu (.bool b)))) ρ ids s:=by
 have:=ad.put (some d) (v:=.e (.bu (.bool b))) (q:=.bool b) (by trivial);grind [abm]
theorem PU(ad:Rel F S ρ ids s)(d:Option Tmp):Rel F (S.put d .undef) ρ ids (s.put d .undef):=ad.put d (by rfl)
theorem pU{P:Program}{K fy:aA->Prop}(aq:∀s,K s->fy s):∀(l:List Oper)(s:aA),h1 P ops l s K->h1 P ops l s fy
 |[],s,h=>aq s h
 |o::l,s,h=>Hy h (λ⟨s1,U,ab⟩=>⟨s1,U,uC (λs' _ h=>pU aq l s' h) ab⟩) (λh=>pU aq l _ h)
theorem Ez{x:aR}{a b:M}(h:FG x a b=.ok t):∃a' a6,a=.ok a'/\b=.ok a6/\t=.ite x a' a6:=by
 unfold FG at h;grind
theorem AU(aw:F.P=X.P)(aq:ri X F.DI C n inl yl):∀(l:List Oper)(i:Nat){S:Sym}{ρ:List aa}{ids:Nat->Option Nat}{s:aA}{t:Tree},kh X inl yl none ops e2 l i S K=.ok t->Rel F S ρ ids s->bN X.P C n t ρ R ->
  h1 X.P ops l s λs'=>hS X F C n R K S ρ s'
 |[],i,S,ρ,ids,s,t,h,ad,aB=>by exact⟨S,ρ,ids,t,h,ad,aB,Ext.refl S ρ⟩
 |o::l,i,S,ρ,ids,s,t,h,ad,aB=>by
  have run:∀{S:Sym}{t:Tree},sQ X inl yl none (e2*1000+i) o S (λS=>kh X inl yl none ops e2 l (i+1) S K)=.ok t->Rel F S ρ ids s->bN X.P C n t ρ R ->
    ∃s1,dW s s1/\eQ X.P s1 o λs'=>h1 X.P ops l s' λs'=>hS X F C n R K S ρ s':=λ{S t} h ad aB=>by
   obtain⟨s1,cy,dM⟩:=aeb aw aq h ad aB;refine⟨s1,cy,uC (λs' _ ao=>?_) dM⟩;obtain⟨br,b1,dK,bw,U,ab,al,aJ⟩:=ao;exact pU (λl6 h=>nL aJ h) l s' (AU aw aq l (i+1) U ab al)
  have skip:∀{S:Sym}{t:Tree},kh X inl yl none ops e2 l (i+1) (S.put o.dst .undef) K=.ok t->Rel F S ρ ids s->bN X.P C n t ρ R->h1 X.P ops l (s.put o.dst .undef) λs'=>hS X F C n R K S ρ s':=λ{S t} h ad aB=>
   pU (λl6 h=>nL ((Ext.refl S ρ).put _ _) h) l _ (AU aw aq l (i+1) h (PU ad o.dst) aB)
  have back:∀{d:Nat}{v:aL}{s':aA},hS X F C n R K (S.put (some d) v) ρ s'->hS X F C n R K S ρ s':=λh=>nL ((Ext.refl S ρ).put _ _) h;simp only[kh]at h;simp only[h1,ld];split at h
  ·grind
  ·rename_i j want aN;simp only[aN];split at h
   ·rename_i aV;simp only[aV];exact skip h ad aB
   ·rename_i d aV;simp only[aV];have hB:=ad.slot d;split at h
    ·rename_i ai;rw[ai]at hB;simp only[bZ]at hB;simp only[hB];exact skip h ad aB
    ·rename_i b ai;rw[ai]at hB;simp only[bZ,aR.den]at hB;simp only[hB.1];split at h
     ·rename_i hb;rw[if_pos hb];exact run h ad aB
     ·rename_i hb;rw[if_neg hb];exact skip h ad aB
    ·rename_i x _ ai;rw[ai]at hB;cases want with
     |true=>
      obtain⟨a,b,au,hb,rfl⟩:=Ez h;rcases aB.ite with⟨U,ab⟩|⟨U,ab⟩
      ·have e:s.g d=.bool true:=by rw[hB.1];exact U
       simp only[e,if_true];obtain⟨s1,cy,dM⟩:=run au (uz ad e) ab;exact⟨s1,cy,uC (λs' _ h=>pU (λl6 h=>back h) l s' h) dM⟩
      ·have e:s.g d=.bool false:=by rw[hB.1];exact U
       simp[e,if_false];exact pU (λl6 h=>back h) l _ (skip hb (uz ad e) ab)
     |false=>
      obtain⟨a,b,au,hb,rfl⟩:=Ez h;rcases aB.ite with⟨U,ab⟩|⟨U,ab⟩
      ·have e:s.g d=.bool true:=by rw[hB.1];exact U
       simp[e,if_false];exact pU (λl6 h=>back h) l _ (skip au (uz ad e) ab)
      ·have e:s.g d=.bool false:=by rw[hB.1];exact U
       simp only[e,if_true];obtain⟨s1,cy,dM⟩:=run hb (uz ad e) ab;exact⟨s1,cy,uC (λs' _ h=>pU (λl6 h=>back h) l s' h) dM⟩
    ·cases h
def vj(X:Ctx)(F:cP)(C:b2->FuncId->List aa->Option aa)(n:Nat)(R:Out->Prop)(K:Sym->M)(S:Sym)(ρ:List aa)(b:Nat)(m0:Mem)(s':aA):Prop:=hS X F C n R K S ρ s'/\lf F (some b) m0 s'
def n5(X:Ctx)(C:b2->FuncId->List aa->Option aa):l0:=λg args an v eR=>match mW X.nb g with
 |none=>eR=an/\v.plain=true/\∃ω,C ω g (args.map Bp)=some v
 |some r=>∃p ω,C ω g (args.map Bp)=some p/\p.plain=true/\an<=eR/\rD r.1 p v an eR
theorem PV{DI:List aa->Prop}(hC:jq X.P DI C)(ar:∀g r,mW X.nb g=some r->wi X.P DI C g r.1){g:FuncId}{args args':List aa}(au:∀m,pw m0 m->im DI m args args')(oE:∀ω,(C ω g args).isSome)(an:Nat)(nk:∀r,mW X.nb g=some r->∀ω p,C ω g args=some p->∃v,rD r.1 p v an (an+1)):EB X.P m0 (n5 X C) g args' an:=by
 have aV:args'.map Bp=args:=Dq (au m0 ⟨Nat.le_refl _,λ_ _=>rfl⟩);unfold EB n5;cases aQ:mW X.nb g with
 |none=>
  have agZ:=λm hm=>hC.zG g args oE args' m (au m hm);refine⟨?_,λm hm l7=>(agZ m hm).mono ?_⟩
  ·obtain⟨v,ai⟩:=Option.isSome_iff_exists.1 (oE gP);exact⟨v,an,rfl,hC.plain _ _ _ _ ai,gP,by grind⟩
  ·rintro v E m' ⟨⟨ω,ai⟩,ae,rfl,rfl⟩;grind
 |some r=>
  refine⟨?_,λm hm l7=>(ar g r aQ args oE args' m (au m hm)).mono ?_⟩
  ·obtain⟨v,ai⟩:=Option.isSome_iff_exists.1 (oE gP);obtain⟨y,aF⟩:=nk r aQ gP v ai;exact⟨y,an+1,v,gP,by grind,hC.plain _ _ _ _ ai,by omega,aF⟩
  grind
end
end
section
open Go Go.RowKit
variable[cQ]
section
variable{X:Ctx}{F:cP}{C:b2->FuncId->List aa->Option aa}{n:Nat}{R:Out->Prop}{S:Sym}{ρ:List aa}{ids:Nat->Option Nat}{s:aA}{K:Sym->M}{t:Tree}{o:Oper}{m0:Mem}{inl yl:fh}{b:Nat}{key:Nat}{E:Env}{ops:Array Oper}{e2:Nat}
def qf(X:Ctx)(F:cP)(C:b2->FuncId->List aa->Option aa)(n:Nat)(R:Out->Prop)(K:Sym->M)(S:Sym)(ρ:List aa)(b:Nat)(m0:Mem)(s:aA)(o:Oper):Prop:=mY X.P m0 (n5 X C) s o λs'=>vj X F C n R K S ρ b m0 s'
def hX(o:Oper):Bool:=match o.op with
 |.alloc _ | .box _ _ | .store _ _ _=>false
 |.call c=>match c.callee with
  |.value _=>false
  |_=>true
 |_=>true
theorem AP(aI:lf F (some b) m0 s)(d:Option Tmp)(v:aa):lf F (some b) m0 (s.put d v):=by grind [lf,aA.aeg]
theorem jl(aq:hX o=true)(aI:lf F (some b) m0 s)(h:jr X F C n R K S ρ s m0 o):qf X F C n R K S ρ b m0 s o:=by
 obtain⟨pv,U,ab⟩:=h;unfold qf mY;unfold hX at aq;split at aq
 ·cases aq
 ·cases aq
 ·cases aq
 ·rename_i c aE;simp only[aE];split at aq
  ·cases aq
  ·split
   ·grind
   ·exact⟨pv,U,ab,AP aI _ _⟩
 ·split
  ·grind
  ·grind
  ·grind
  ·grind
  ·exact⟨pv,U,ab,AP aI _ _⟩
theorem Nd(aI:lf F (some b) m0 s)(d:Option Tmp)(l:List aa):lf F (some b) m0 (s.gu d l):=by
 obtain⟨U,ab,al⟩:=aI;refine⟨U,by grind [aA.OQ],λi hi=>?_⟩;rw[aA.OQ];grind [qK]
theorem Yk{l af:List aa}(h:l.length=af.length):fa l 0 af=af:=by grind [fa]
theorem Mu{c:Call}{f:Operand}{g:FuncId}{caps args:List aa}(hC:jq X.P F.DI C)(ar:∀g r,mW X.nb g=some r->wi X.P F.DI C g r.1)(fu:mW X.nb g=none)(aE:o.op=.call c)(de:c.callee=.value f)(aQ:s.ay f=.fn g caps)(aI:lf F (some b) m0 s)
  (au:∀m,pw m0 m->im F.DI m args (c.args.toList.map s.ay++caps)) {bw:Tree} (oE:∀ω,(C ω g args).isSome) (aB:∀ω v,C ω g args=some v->bN X.P C n bw (ρ++[v]) R) (ad:Rel F S ρ ids s) (h:K (S.var.put o.dst (.e (.var S.cd)))=.ok bw):qf X F C n R K S ρ b m0 s o:=by
 unfold qf mY;simp only[aE,de,aQ];obtain⟨v0,pD⟩:=Option.isSome_iff_exists.1 (oE gP);refine⟨hC.fn _ _ _ _ pD,PV hC ar au oE _ (λr ad=>by grind),?_⟩;intro v eR ek;unfold n5 at ek;rw[fu]at ek;obtain⟨rfl,ae,ω,ai⟩:=ek;rw[Dq (au m0 ⟨Nat.le_refl _,λ_ _=>rfl⟩)]at ai;have ao:({ s with m:={ s.m with an:=s.m.an } }:aA)=s:=rfl;have hb:=ad.bind v false (by simp);obtain⟨g1,g2⟩:=fO ad v ae;exact⟨⟨_,_,ids,bw,h,hb.put o.dst (by exact⟨g2.symm,g1⟩),aB ω v ai,(Ext.bind S ρ v false).put _ _⟩,AP aI _ _⟩
theorem Wy{c:Call}{f:Operand}{g:FuncId}{caps args:List aa}{r:Option (Nat×Nat)×Nat×Bool}(hC:jq X.P F.DI C)(ar:∀g r,mW X.nb g=some r->wi X.P F.DI C g r.1)(zV:mW X.nb g=some r)(aE:o.op=.call c)(de:c.callee=.value f)(aQ:s.ay f=.fn g caps)(aI:lf F (some b) m0 s)
  (au:∀m,pw m0 m->im F.DI m args (c.args.toList.map s.ay++caps)) {bw:Tree} (oE:∀ω,(C ω g args).isSome) (aB:∀ω v,C ω g args=some v->bN X.P C n bw (ρ++[v]) R) (ad:Rel F S ρ ids s) (h:uI r (.var S.cd) o.dst S.var K=.ok bw):qf X F C n R K S ρ b m0 s o:=by
 unfold qf mY;simp only[aE,de,aQ];obtain⟨v0,pD⟩:=Option.isSome_iff_exists.1 (oE gP);refine⟨hC.fn _ _ _ _ pD,PV hC ar au oE _ (λbR ir ω p ae=>?_),?_⟩
 ·rw[zV]at ir;injection ir with ir;subst ir;exact Wa (X:=X) h ad (aB ω p ae) (hC.plain _ _ _ _ ae) _
 ·intro v eR ek;unfold n5 at ek;rw[zV]at ek;obtain⟨p,ω,ai,ae,l7,nj⟩:=ek;rw[Dq (au m0 ⟨Nat.le_refl _,λ_ _=>rfl⟩)]at ai;obtain⟨pK,pL,uZ,tO,k1,bf,bP,cX⟩:=NP (X:=X) (m':={ s.m with an:=eR }) h ad (aB ω p ai) ae nj rfl l7;exact⟨⟨pK,pL,uZ,tO,k1,bf,bP,cX⟩,AP (s:={ s with m:={ s.m with an:=eR } }) ⟨aI.1,aI.2.1,aI.2.2⟩ _ _⟩
theorem NT{DI:List aa->Prop}{m:Mem}:∀{b:List aa},bG b=true->im DI m b b
 |[],_=>rfl
 |q::b,h=>by
  simp[bG]at h;exact⟨q,b,rfl,.inl ⟨rfl,h.1.1⟩,NT h.2⟩
theorem Nf{DI:List aa->Prop}{m:Mem}:∀{a a' b a6:List aa},im DI m a a'->im DI m b a6->im DI m (a++b) (a'++a6)
 |[],a',b,a6,h,k=>by grind [im]
 |p::a,a',b,a6,⟨q,aG,e,U,ab⟩,k=>by subst e;exact⟨q,aG++a6,rfl,U,Nf ab k⟩
theorem HY{ck:List Nat}{fy:Sym->M}(h:thaw (some b) key ck S fy=.ok t):fy S=.ok t:=by
 unfold thaw at h;split at h
 ·exact h
 trivial
theorem abn{c:Call}{f:Operand}(aq:ri X F.DI C n inl yl)(aE:o.op=.call c)(de:c.callee=.value f)(h:AK X inl yl (some b) key o f c.args.toList S K=.ok t)(ad:Rel F S ρ ids s)(aI:lf F (some b) m0 s)(aB:bN X.P C n t ρ R):qf X F C n R K S ρ b m0 s o:=by
 unfold AK at h;split at h
 ·split at h
  ·split at h
   ·cases h
   ·split at h
    ·trivial
    ·split at h
     ·trivial
     split at h
     ·trivial
     split at h
     ·grind
     ·have h:=HY h;split at h
      ·rename_i g' afq pJ;split at h
       ·rename_i CB;subst CB;split at h
        ·rename_i ps gy;obtain⟨bw,a1,h⟩:=EO h;have eH:=ad.ay f;rw[pJ]at eH;obtain⟨aG,e,ak⟩:=eH;subst h;obtain⟨U,ab⟩:=aB.call;split at a1
         ·rename_i r Bq;split at a1
          ·exact Wy (args:=ep ρ ps) aq.c aq.own Bq aE de e aI (λm hm=>uo ad aI hm gy (Ak (qX ad _) (yj ak))) U ab ad a1
          ·all_goals trivial
         ·rename_i Bq;exact Mu (args:=ep ρ ps) aq.c aq.own Bq aE de e aI (λm hm=>uo ad aI hm gy (Ak (qX ad _) (yj ak))) U ab ad a1
        ·cases h
       ·cases h
      ·cases h
  ·cases h
 ·split at h
  ·cases h
  rename_i KE;have KE:X.nb=[]:=by simpa using KE
  have h:=HY h;split at h
  ·rename_i x aj;split at h
   ·rename_i ps gy;obtain⟨bw,a1,h⟩:=EO h;subst h;obtain⟨g,caps,e,U,ab⟩:=aB.kL;have eH:=ad.ay f;rw[aj]at eH;have e':s.ay f=.fn g caps:=by rw[eH.1];exact e
    have cD:(s.ay f).plain=true:=by rw[eH.1];exact aR.jJ eH.2
    rw[e']at cD;have LG:bG caps=true:=by simpa only[aa.plain]using cD
    exact Mu (args:=ep ρ ps++caps) aq.c aq.own (by rw[KE];rfl) aE de e' aI (λm hm=>Nf (uo ad aI hm gy (qX ad _)) (NT LG)) U ab ad a1
   ·cases h
  ·cases h
 ·cases h
 ·cases h
theorem aec(aw:F.P=X.P)(aq:ri X F.DI C n inl yl)(h:sQ X inl yl (some b) key o S K=.ok t)(ad:Rel F S ρ ids s)(aI:lf F (some b) m0 s)(aB:bN X.P C n t ρ R):qf X F C n R K S ρ b m0 s o:=by
 unfold sQ at h;split at h
 ·rename_i x aE;exact jl (by simp[hX,aE]) aI (ic h ad aB (by simp only[bV,aE]) (ad.ay x))
 ·rename_i x aE;exact jl (by simp[hX,aE]) aI (ic h ad aB (by simp only[bV,aE]) (ad.ay x))
 ·rename_i c x y aE;exact jl (by simp[hX,aE]) aI (Q1 aE h ad aB)
 ·rename_i op ty x y Gl aE;split at h
  ·rename_i p q ae aH;exact jl (by simp[hX,aE]) aI (R2 aE ae aH h ad aB)
  ·cases h
 ·rename_i ty x aE;split at h
  ·rename_i b ae;obtain⟨e,_⟩:=ad.cu ae;exact jl (by simp[hX,aE]) aI (ic h ad aB (pv:=.bool !b) (by simp only[bV,aE,e];rfl) (by unfold bZ;exact⟨rfl,rfl⟩))
  ·rename_i p _ ae;exact jl (by simp[hX,aE]) aI (E9 aE ae h ad aB)
  ·cases h
 ·rename_i op ty x _ aE;split at h
  ·rename_i p ae;exact jl (by simp[hX,aE]) aI (E9 aE ae h ad aB)
  ·cases h
 ·rename_i a b x aE;split at h
  ·rename_i p ae;exact jl (by simp[hX,aE]) aI (Q4 aE ae h ad aB)
  ·cases h
 ·rename_i x aE;exact jl (by simp[hX,aE]) aI (R0 aE h ad aB)
 ·rename_i x i aE;exact jl (by simp[hX,aE]) aI (R1 aE h ad aB)
 ·rename_i ty x f aE;exact jl (by simp[hX,aE]) aI (PN aE h ad aB)
 ·rename_i ty x f aE;exact jl (by simp[hX,aE]) aI (OM aE h ad aB)
 ·rename_i ty x i aE;exact jl (by simp[hX,aE]) aI (MI aE h ad aB)
 ·rename_i ty x i aE;split at h
  ·rename_i p q ae aH;exact jl (by simp[hX,aE]) aI (PO aE ae aH h ad aB)
  ·cases h
 ·rename_i ty x aE;exact jl (by simp[hX,aE]) aI (Q3 (lx:=some b) aE h ad aI aB)
 ·rename_i ty x y aE;unfold DC at h;split at h
  ·cases h
  ·rename_i aV;have nX:o.dst=none:=by cases bq:o.dst<;>simp[bq]at aV⊢
   have c1:(X.P.info? ty).isSome:=by cases bq:X.P.info? ty<;>simp[bq]at aV⊢
   split at h
   ·rename_i i off aj;obtain⟨aK,aO,bS,b8,l,en,l9,L6,ue⟩:=NO (lx:=some b) aj h ad aB;obtain⟨rfl,BW,sh⟩:=L6 b rfl;unfold qf mY;simp only[aE];refine⟨nX,c1,bS,b8,F.n0+i,l,aK,by rw[aI.1];omega,by rw[ad.dt];omega,en,sh,?_⟩;rw[Yk sh]at ue;refine⟨ue,aI.1,aI.2.1,λj aC=>?_⟩;have jB:j<F.n0+b:=by rw[←aI.1];exact aC
    simp only[aA.hq,qK _ _ _ _ (by omega:j≠F.n0+i)];exact aI.2.2 j aC
   ·simp only[Option.isSome_some,true_or,if_true]at h;cases h
   ·injection h with h;subst h;exact(QZ aB).elim
   ·cases h
 ·rename_i ty x aE;obtain⟨c,ba,bY,t1,U,ab,al,aJ,bm,bI,cS⟩:=Ax h ad (ad.ay x) aB;unfold qf mY;simp only[aE];refine⟨cS,⟨ba.gu o.dst c,bY,ids,t1,U,ab.gu o.dst bI,al,aJ.trans ?_⟩,Nd aI _ _⟩;rw[HU];have aj:Ext ba bY (ba.mq c) bY:=⟨List.prefix_refl _,rfl,rfl,rfl,rfl,rfl,by simp[Sym.mq],rfl⟩;exact aj.put _ _
 ·rename_i ty aE;split at h
  ·rename_i z bO;split at h
   ·rename_i ae;unfold qf mY;simp only[aE];refine⟨z,bO,⟨S.gu o.dst (oJ z),ρ,ids,t,h,ad.gu o.dst (wB ae),aB,?_⟩,Nd aI _ _⟩;rw[HU];have aj:Ext S ρ (S.mq (oJ z)) ρ:=⟨List.prefix_refl _,rfl,rfl,rfl,rfl,rfl,by simp[Sym.mq],rfl⟩;exact aj.put _ _
   ·cases h
  ·cases h
 ·rename_i ty parts aE;exact jl (by simp[hX,aE]) aI (PQ aE h ad aB)
 ·rename_i ty len parts aE;exact jl (by simp[hX,aE]) aI (VM aE h ad aB)
 ·rename_i ty l c aE;simp only[D8,Option.isSome_some,if_true]at h;cases h
 ·rename_i ty x lo hi aE;unfold HS at h;have h:=HY h;split at h
  ·rename_i p a b ae au hb;exact jl (by simp[hX,aE]) aI (ok_slice aE ae au hb h ad aB)
  ·cases h
 ·rename_i f first caps aE
  split at h
  ·cases h
  ·rename_i ah;have U:first.size=0:=Classical.byContradiction λe=>ah (.inl e);have ab:(caps.toList.all λx=>(S.ay x).yN S)=true:=by
    cases bq:(caps.toList.all λx=>(S.ay x).yN S)with
    |true=>rfl
    |false=>exact absurd (.inr bq) ah
   exact jl (by simp[hX,aE]) aI (M9 aE U h ab ad aB)
 ·rename_i c aE;split at h
  ·rename_i f de;exact abn aq aE de h ad aI aB
  ·rename_i de;split at h
   ·rename_i ty x a1 aj;exact jl (by simp[hX,aE,de]) aI (R6 aE de a1 aj h ad aB)
   ·cases h
  ·rename_i de;split at h
   ·rename_i l ak;exact jl (by simp[hX,aE,de]) aI (R4 aE de ak h ad aB)
   ·cases h
  ·rename_i de;split at h
   ·rename_i l ak;exact jl (by simp[hX,aE,de]) aI (R5 aE de ak h ad aB)
   ·cases h
  ·rename_i de;split at h
   ·split at h
    ·simp only[Dl,Option.isSome_some,if_true]at h;cases h
    ·cases h
   ·cases h
  ·cases h
 ·simp only[pure,Except.pure,Except.ok.injEq]at h;subst h;obtain⟨o,ar,_⟩:=aB gP;simp[eval]at ar
 ·simp only[pure,Except.pure,Except.ok.injEq]at h;subst h;obtain⟨o,ar,_⟩:=aB gP;simp[eval]at ar
 ·cases h
theorem HZ{ba:Sym}{bY:List aa}{s':aA}(aj:Ext S ρ ba bY)(h:vj X F C n R K ba bY b m0 s'):vj X F C n R K S ρ b m0 s':=⟨nL aj h.1,h.2⟩
theorem Eo(aw:F.P=X.P)(aq:ri X F.DI C n inl yl):∀(l:List Oper)(i:Nat){S:Sym}{ρ:List aa}{ids:Nat->Option Nat}{s:aA}{t:Tree},kh X inl yl (some b) ops e2 l i S K=.ok t->Rel F S ρ ids s->lf F (some b) m0 s->bN X.P C n t ρ R ->
  kO X.P m0 (n5 X C) ops l s λs'=>vj X F C n R K S ρ b m0 s'
 |[],i,S,ρ,ids,s,t,h,ad,aI,aB=>by exact⟨⟨S,ρ,ids,t,h,ad,aB,Ext.refl S ρ⟩,aI⟩
 |o::l,i,S,ρ,ids,s,t,h,ad,aI,aB=>by
  have run:∀{S:Sym}{t:Tree},sQ X inl yl (some b) (e2*1000+i) o S (λS=>kh X inl yl (some b) ops e2 l (i+1) S K)=.ok t->Rel F S ρ ids s->bN X.P C n t ρ R ->
    mY X.P m0 (n5 X C) s o λs'=>kO X.P m0 (n5 X C) ops l s' λs'=>vj X F C n R K S ρ b m0 s':=λ{S t} h ad aB=>
   DJ (λs' ao=>by
    obtain⟨⟨br,b1,dK,bw,U,ab,al,aJ⟩,bm⟩:=ao;exact sC (λl6 h=>HZ aJ h) l s' (Eo aw aq l (i+1) U ab bm al)) (aec aw aq h ad aI aB)
  have skip:∀{S:Sym}{t:Tree},kh X inl yl (some b) ops e2 l (i+1) (S.put o.dst .undef) K=.ok t->Rel F S ρ ids s->bN X.P C n t ρ R->kO X.P m0 (n5 X C) ops l (s.put o.dst .undef) λs'=>vj X F C n R K S ρ b m0 s':=λ{S t} h ad aB=>
   sC (λl6 h=>HZ ((Ext.refl S ρ).put _ _) h) l _ (Eo aw aq l (i+1) h (PU ad o.dst) (AP aI _ _) aB)
  have back:∀{d:Nat}{v:aL}{s':aA},vj X F C n R K (S.put (some d) v) ρ b m0 s'->vj X F C n R K S ρ b m0 s':=λh=>HZ ((Ext.refl S ρ).put _ _) h;simp only[kh]at h;simp only[kO,ld];split at h
  ·grind
  ·rename_i j want aN;simp only[aN];split at h
   ·grind
   ·rename_i d aV;simp only[aV];have hB:=ad.slot d;split at h
    ·grind [bZ]
    ·grind [bZ,aR.den]
    ·rename_i x _ ai;rw[ai]at hB;cases want with
     |true=>
      obtain⟨a,b,au,hb,rfl⟩:=Ez h;rcases aB.ite with⟨U,ab⟩|⟨U,ab⟩
      ·have e:s.g d=.bool true:=by rw[hB.1];exact U
       simp only[e,if_true];exact DJ (λs' h=>sC (λl6 h=>back h) l s' h) (run au (uz ad e) ab)
      ·have e:s.g d=.bool false:=by rw[hB.1];exact U
       simp[e,if_false];exact sC (λl6 h=>back h) l _ (skip hb (uz ad e) ab)
     |false=>
      obtain⟨a,b,au,hb,rfl⟩:=Ez h;rcases aB.ite with⟨U,ab⟩|⟨U,ab⟩
      ·have e:s.g d=.bool true:=by rw[hB.1];exact U
       simp[e,if_false];exact sC (λl6 h=>back h) l _ (skip au (uz ad e) ab)
      ·have e:s.g d=.bool false:=by rw[hB.1];exact U
       simp only[e,if_true];exact DJ (λs' h=>sC (λl6 h=>back h) l s' h) (run hb (uz ad e) ab)
    ·cases h
where
 DJ {s:aA} {o:Oper} {K fy:aA->Prop} (aq:∀s,K s->fy s) (h:mY X.P m0 (n5 X C) s o K):mY X.P m0 (n5 X C) s o fy:=by
  unfold mY at *;split at h
  ·obtain⟨z,U,ab⟩:=h;exact⟨z,U,aq _ ab⟩
  ·exact⟨h.1,aq _ h.2⟩
  ·obtain⟨U,ab,al,aJ,id,l,bm,bI,cS,et,gp,h7⟩:=h;exact⟨U,ab,al,aJ,id,l,bm,bI,cS,et,gp,aq _ h7⟩
  ·split at h
   ·split at h
    ·exact⟨h.1,h.2.1,λv eR ek=>aq _ (h.2.2 v eR ek)⟩
    ·exact h.elim
   ·obtain⟨v,U,ab⟩:=h;exact⟨v,U,aq _ ab⟩
  ·obtain⟨v,U,ab⟩:=h;exact⟨v,U,aq _ ab⟩
 sC {K fy:aA->Prop} (aq:∀s,K s->fy s):∀(l:List Oper)(s:aA),kO X.P m0 (n5 X C) ops l s K->kO X.P m0 (n5 X C) ops l s fy
  |[],s,h=>aq s h
  |o::l,s,h=>Hy h (DJ λs' h=>sC aq l s' h) (λh=>sC aq l _ h)
end
end
end Go.Proofs.YtlminnpaeaganaaGreat
