/- Part of the proof of RuleBack. No condition. -/
import Derived.Test.YtlminnpaeaganaaGreatMBackAR
namespace Go.Proofs.YtlminnpaeaganaaGreat
set_option maxRecDepth 100000
set_option linter.all false
section
open Go Go.RowKit
variable[cQ]
theorem Xb(l:List aa)(off:Nat)(v:aa)(af:List aa)(h:off+(v::af).length<=l.length):fa (l.set off v) (off+1) af=fa l off (v::af):=by grind [fa,List.take_succ_eq_append_getElem,List.take_set_of_le,List.drop_set_of_lt]
theorem I4(id sz len:Nat):∀(af:List aa)(off:Nat)(cs:List aa),bG cs=true->bG af=true->off+af.length<=cs.length->aa.sub (nd id off af) (.sl (some id) sz 0 len cs)=.sl (some id) sz 0 len (fa cs off af)
 |[],off,cs,_,_,h=>by simp_all[nd,fa]
 |v::af,off,cs,ah,ai,h=>by
  simp[bG]at ai;simp  at h;simp[nd,aa.sub,aa.bW,if_true,pS _ cs ah,setAt];have gv:bG (cs.set off v)=true:=(hH _).2 λp ae=>by grind [hH]
  rw[I4 id sz len af (off+1) _ gv ai.2 (by simp;omega),Xb cs off v af (by grind)]
theorem V8{l af:List aa}{off:Nat}(h:off+af.length<=l.length):(fa l off af).length=l.length:=by grind [fa]
theorem V9{l af:List aa}{off:Nat}(h:bG l=true)(ai:bG af=true):bG (fa l off af)=true:=C0 (C0 (uh h _) ai) (qJ h _)
theorem I5{id:Nat}{e:b9}:∀{af:List aa}{off:Nat},e∈nd id off af->e.id=id/\∃v∈af,∃p,e=.wr id p v
 |[],_,h=>by cases h
 |v::af,off,h=>by
  simp[nd]at h;rcases h with rfl|h
  ·exact⟨rfl,v,by simp,off,rfl⟩
  ·obtain⟨U,u,ab,p,al⟩:=I5 h;grind
section
variable{X:Ctx}{F:cP}{C:b2->FuncId->List aa->Option aa}{n:Nat}{R:Out->Prop}{S:Sym}{ρ:List aa}{ids:Nat->Option Nat}{s:aA}{K:Sym->M}{t:Tree}{o:Oper}{m0:Mem}{inl yl:fh}{lx:Option Nat}{key:Nat}{E:Env}
theorem NO{ty:TypeId}{x y:Operand}{i off:Nat}(aj:S.ay x=.ptr i off)(h:uP X ty (S.ay y) S (λc S=>match S.bx[i]? with
  |some (ga.cells l)=>if c.length=X.P.cellsOf ty/\c.all aL.E5=true/\off+c.length<=l.length/\(lx.all λb=>decide (off=0)&&decide (b<=i)&&decide (l.length=c.length))then K (S.hq i (AX l off c))else die "x"
  |_=>die "x")=.ok t)(ad:Rel F S ρ ids s)(aB:bN X.P C n t ρ R):
  s.ay x=.ptr (F.n0+i) off/\i<S.bx.length/\(s.ay y).cells.length=X.P.cellsOf ty/\(s.ay y).cells.all aa.one=true/\∃l,s.m.β (F.n0+i)=.cells l/\off+(s.ay y).cells.length<=l.length/\(∀b,lx=some b->off=0/\b<=i/\l.length=(s.ay y).cells.length)/\hS X F C n R K S ρ (s.hq (F.n0+i) (fa l off (s.ay y).cells)):=by
 have hd:=ad.ay x;rw[aj]at hd;obtain⟨c,ba,bY,t1,U,ab,al,aJ,bm,bI,cS⟩:=Ax h ad (ad.ay y) aB;dsimp only at U;split at U
 ·rename_i l hb;split at U
  ·rename_i hx;obtain⟨dS,c2,c3,c4⟩:=hx;obtain⟨aG,g1,a2⟩:=ab.box i _ hb;have F7:=mi bI;have sh:=mi a2;refine⟨hd.1,hd.2,by grind,ZH bI c2,aG,g1,by grind,λb se=>?_,?_⟩
   ·grind
   ·exact⟨_,_,ids,t1,U,ab.hq hb (NL a2 bI off),al,aJ.trans ⟨List.prefix_refl _,rfl,rfl,rfl,rfl,rfl,by simp[Sym.hq],rfl⟩⟩
  ·cases U
 ·cases U
theorem ZI{ty:TypeId}{x y:Operand}(aE:o.op=.store ty x y)(h:DC X none o ty x y S K=.ok t)(ad:Rel F S ρ ids s)(aB:bN X.P C n t ρ R):hM X F C n R K S ρ s o:=by
 unfold DC at h;split at h
 ·cases h
 ·rename_i aV;have nX:o.dst=none:=by cases bq:o.dst<;>simp[bq]at aV⊢
  have c1:(X.P.info? ty).isSome:=by cases bq:X.P.info? ty<;>simp[bq]at aV⊢
  split at h
  ·rename_i i off aj;obtain⟨aK,aO,bS,b8,l,en,l9,_,ue⟩:=NO (lx:=none) aj h ad aB;refine⟨s,dW.refl s,?_⟩;simp only[eQ,aE];refine⟨nX,?_⟩;rw[aK];exact⟨by rw[ad.dt];omega,c1,bS,b8,l,en,l9,ue⟩
  ·split at h
   ·cases h
   ·rename_i Le;have eb:X.P.cellsOf ty≠0:=by grind
    refine Ey h ad aB λS ρ ids s t h ad aB=>?_;obtain⟨c,ba,bY,t1,U,ab,al,aJ,bm,bI,cS⟩:=Ax h ad (ad.ay y) aB;dsimp only at U;split at U
    ·rename_i k e fo aj;have hd:=ab.ay x;rw[aj]at hd;obtain⟨a,cs,id,dZ,gJ,cy,dM,gC,jF,kB,kC,qH,x7⟩:=hd;split at U
     ·rename_i a' ps kR gy;have:a'=a:=by have:=kR.symm.trans cy;injection this
      subst this;split at U
      ·cases U
      ·rename_i Gm;have hA:c.length=X.P.cellsOf ty/\fo+c.length<=a'.sz:=by
        simp  at Gm;exact⟨Gm.1,by omega⟩
       have oI:a'.born.j2=true:=by
        simp  at Gm;simpa using Gm.2.2
       obtain⟨t2,a1,rfl⟩:=ig U;obtain⟨v,ai,Bo⟩:=al.av;obtain⟨qw,rK⟩:=sG gy bI;have F7:=mi bI;have h2:a'.c.den bY=.agg cs:=dM.2.1;have ai8:e.den bY=.int gJ dZ:=jF;simp only[Prim.run,vd,h2,ai8]at ai;rw[show ep bY ps=(s.ay y).cells from qw.symm]at ai;split at ai
       ·rename_i lp;injection ai with ai;subst ai;have cD:=V9 (off:=dZ.toNat*a'.sz+fo) dM.plain rK;have hlen:(fa cs (dZ.toNat*a'.sz+fo) (s.ay y).cells).length=cs.length:=V8 lp;have hb:=ab.bind (.agg (fa cs (dZ.toNat*a'.sz+fo) (s.ay y).cells)) false (by simp);obtain⟨g1,a2⟩:=fO ab (.agg (fa cs (dZ.toNat*a'.sz+fo) (s.ay y).cells)) (by simpa only[aa.plain]using cD);have Ls:=c6.rel.mono (Env.p0 ba bY ids (.agg (fa cs (dZ.toNat*a'.sz+fo) (s.ay y).cells)) false) cy dM;have fK:=dM.2.2.2.2.1;have bU:fa cs (dZ.toNat*a'.sz+fo) (s.ay y).cells≠[]:=λe'=>by
         have:=congrArg List.length e';rw[hlen]at this;rw[this]at qH;simp at qH
        have qv:isNil (bY++[.agg (fa cs (dZ.toNat*a'.sz+fo) (s.ay y).cells)]) a'.born (fa cs (dZ.toNat*a'.sz+fo) (s.ay y).cells)=some false:=by
         rw[Aj (ρ:=bY) dM.2.2.2.2.2];have hcs:cs≠[]:=λe'=>by rw[e']at qH;simp at qH
         cases zZ:a'.born with
         |real=>rfl
         |cZ=>
          cases fM:fa cs (dZ.toNat*a'.sz+fo) (s.ay y).cells with
          |nil=>exact absurd fM bU
          |cons _ _=>rfl
         |dyn z=>
          rw[zZ]at fK;simp only[isNil,Sym.env]at fK⊢;cases bO:z.den bY with
          |bool b=>
           rw[bO]at fK;cases b
           ·rfl
           ·cases cs with
            |nil=>exact absurd rfl hcs
            |cons _ _=>simp at fK
          |_=>rw[bO]at fK;simp at fK
         |map=>rfl
         |it=>rfl
        obtain⟨eh,r2⟩:=hb.gY (k:=k) (id:=id) (c':=.var ba.cd) (all:=false) (EE:=nd id (dZ.toNat*a'.sz+fo) (s.ay y).cells) cy Ls gC (λe he=>by
          obtain⟨CO,u,hF,p,rfl⟩:=I5 he;exact⟨rfl,λn an=>AL n an u ((hH _).1 rK u hF).1⟩) g1 a2 (by rw[hlen];exact dM.2.2.2.1) qv (λ_=>by rw[la oI,la oI];simp only;rw[hlen];exact I4 id a'.sz _ _ _ cs dM.plain rK lp)
        refine⟨s,dW.refl s,?_⟩;simp only[eQ,aE];refine⟨nX,?_⟩;rw[x7];refine⟨c1,Nat.pos_of_ne_zero eb,by rw[←F7];exact hA.1,Hs rK,by rw[List.length_drop];omega,Nc rK id,?_⟩;exact⟨_,_,ids,t2,a1,eh,Bo,aJ.trans ((Ext.bind ba bY _ false).trans (qW k false _))⟩
       ·cases ai
     ·cases U
    ·cases U
  ·injection h with h;subst h;exact(QZ aB).elim
  ·cases h
theorem Sb{c:List aL}{c':List aa}{ps:List aS}(h:cJ F E c c')(ae:hT c=some ps):c'=ep E.ρ ps/\bG c'=true:=sG ae h
theorem VL{ty:TypeId}{len:Nat}{parts:Array (Nat×Operand)}(aE:o.op=.buildSlice ty len parts)(h:Ab X none key o ty len parts S K=.ok t)(ad:Rel F S ρ ids s)(aB:bN X.P C n t ρ R):hM X F C n R K S ρ s o:=by
 unfold Ab at h;split at h
 ·rename_i e hu;split at h
  ·rename_i z bO;split at h
   ·rename_i hx;obtain⟨dS,c2,c3,c4,ot⟩:=hx;refine AO h ad aB λS ρ ids s t h ad aB=>?_;obtain⟨cs,ba,bY,t1,U,ab,al,aJ,bm,bI⟩:=Ec ad parts (λ_=>e) h aB;split at U
    ·rename_i l ak;obtain⟨aG,g1,a2⟩:=AN bI (Iw (wB dS) len) ak;have hlen:aG.length=len*X.P.cellsOf e:=by rw[G1 g1,yf,c3]
     split at U
     ·rename_i ps gy;obtain⟨qw,rK⟩:=Sb a2 gy;refine⟨s,dW.refl s,?_⟩;simp[eQ,aE,hu,bO];refine⟨c2,c3,c4,ot,aG,g1,?_⟩;split at U
      ·simp  at U;obtain⟨t2,a1,rfl⟩:=ig U;obtain⟨v,ai,Bo⟩:=al.av;simp[Prim.run]at ai;have iw:v=.agg aG:=by rw[←ai];congr 1;exact qw.symm
       subst iw;have hb:=ab.bind (.agg aG) false (by simp);obtain⟨v1,v2⟩:=fO ab (.agg aG) (by assumption);exact .inl (nL (aJ.trans (Ext.bind ba bY _ false)) (Hr (a:=⟨X.P.cellsOf e,.real,.var ba.cd⟩) hb v1 v2 (by grind) hlen rfl (λy e=>by cases e) a1 Bo))
      ·refine .inr ⟨_,bY,ids,t1,U,ab.put o.dst ?_,al,aJ.put _ _⟩;grind [a0]
     ·cases U
    ·cases U
   ·cases h
  ·cases h
 ·cases h
theorem VM{b:Nat}{ty:TypeId}{len:Nat}{parts:Array (Nat×Operand)}(aE:o.op=.buildSlice ty len parts)(h:Ab X (some b) key o ty len parts S K=.ok t)(ad:Rel F S ρ ids s)(aB:bN X.P C n t ρ R):jr X F C n R K S ρ s m0 o:=by
 unfold Ab at h;split at h
 ·rename_i e hu;split at h
  ·split at h
   ·rename_i hx;obtain⟨dS,c2,c3,c4,ot⟩:=hx;unfold thaw at h;split at h
    ·obtain⟨cs,ba,bY,t1,U,ab,al,aJ,bm,bI⟩:=Ec ad parts (λ_=>e) h aB;split at U
     ·rename_i l ak;obtain⟨aG,g1,a2⟩:=AN bI (Iw (wB dS) len) ak;have hlen:aG.length=len*X.P.cellsOf e:=by rw[G1 g1,yf,c3]
      split at U
      ·rename_i ps gy;obtain⟨qw,rK⟩:=Sb a2 gy;split at U
       ·cases U
       ·refine⟨.sl none (X.P.cellsOf e) 0 len aG,?_,_,bY,ids,t1,U,ab.put o.dst ?_,al,aJ.put _ _⟩;all_goals grind [bV,a0]
      ·cases U
     ·cases U
    trivial
   ·cases h
  ·cases h
 ·cases h
end
end
section
open Go Go.RowKit
variable[cQ]
def FC(P:Program)(f:FuncId)(args:List aa)(m:Mem)(R:aa->Prop):Prop:=gL P f args m λv E m'=>R v/\v.plain=true/\E=[]/\m'=m
def agR(DI:List aa->Prop)(m:Mem)(p q:aa):Prop:=(q=p/\p.plain=true)\/(p=.ptr 0 0/\∃i,q=.ptr i 0/\i<m.n/\m.β i=.inv DI)
def im(DI:List aa->Prop)(m:Mem):List aa->List aa->Prop
 |[],l=>l=[]
 |p::ps,l=>∃q aG,l=q::aG/\agR DI m p q/\im DI m ps aG
structure jq(P:Program)(DI:List aa->Prop)(C:b2->FuncId->List aa->Option aa):Prop where
 zG:∀g args,(∀ω,(C ω g args).isSome)->∀args' m,im DI m args args'->FC P g args' m λv=>∃ω,C ω g args=some v
 plain:∀ω g args v,C ω g args=some v->v.plain=true
 fn:∀ω g args v,C ω g args=some v->∃fn,P.funcs[g]?=some fn/\fn.name ≠ "runtime.NumGoroutine" /\ fn.body.isSome
def Qs(P:Program)(DI:List aa->Prop)(g:FuncId):Prop:=∀x m,wY x=true->gL P g [x] m λv E m'=>v=.ptr m.n 0/\E=[]/\m'=⟨ea m.β m.n (.inv DI),m.n+1,m.an,m.rc⟩
def Sc(P:Program)(f:FuncId):Prop:=∀cs m,cs.all zh=true->cs.length<1099511627776 ->
 (∀id,gL P f [.sl (some id) 1 0 cs.length cs] m λv E m'=>v=.undef/\E=nd id 0 (lP cs)/\m'={ m with β:=λi=>(m.β i).sub (nd id 0 (lP cs)) }) /\
 gL P f [.bC] m λv E m'=>v=.undef/\E=[]/\m'=m
def Sd(P:Program)(f:FuncId):Prop:=∀cs m,cs.all zh=true->cs.length<1099511627776 ->
 (∀id,gL P f [.sl (some id) 1 0 cs.length cs] m λv E m'=>v=.sl none 1 0 (E4 cs).length (E4 cs)/\E=[.kill id]/\m'={ m with β:=λi=>(m.β i).sub [.kill id] }) /\
 gL P f [.bC] m λv E m'=>v=.bC/\E=[]/\m'=m
structure mu(P:Program)(DI:List aa->Prop)(g:zr):Prop where
 new:(P.funcs[g.new]?).isSome->Qs P DI g.new
 qz:∀f,g.qz=some f->Sc P f
 qA:∀f,g.qA=some f->Sd P f
def Bp:aa->aa
 |.ptr _ _=>.ptr 0 0
 |p=>p
theorem Xc{p:aa}(h:p.plain=true):Bp p=p:=by cases p<;>first|rfl|trivial
theorem Dq{DI:List aa->Prop}{m:Mem}:∀{ps bz:List aa},im DI m ps bz->bz.map Bp=ps
 |[],bz,h=>by grind [im]
 |p::ps,bz,h=>by
  obtain⟨q,aG,rfl,U,ab⟩:=h;simp[Dq ab];rcases U with⟨rfl,ae⟩|⟨rfl,i,rfl,_⟩
  ·exact Xc ae
  ·rfl
section
variable{X:Ctx}{F:cP}{C:b2->FuncId->List aa->Option aa}{n:Nat}{R:Out->Prop}{S:Sym}{ρ:List aa}{ids:Nat->Option Nat}{s:aA}{K:Sym->M}{t:Tree}{o:Oper}{m0:Mem}{inl yl:fh}{lx:Option Nat}{key:Nat}{E:Env}
def jd(F:cP)(E:Env):List aL->List aa->Prop
 |[],l=>l=[]
 |v::af,l=>∃q aG,l=q::aG/\a0 F E v q/\jd F E af aG
theorem Ak:∀{a:List aL}{a':List aa}{b:List aL}{a6:List aa},jd F E a a'->jd F E b a6->jd F E (a++b) (a'++a6)
 |[],a',b,a6,h,k=>by grind [jd]
 |v::a,a',b,a6,h,k=>by
  obtain⟨q,r,rfl,U,al⟩:=h;exact⟨q,r++a6,rfl,U,Ak al k⟩
theorem qX(ad:Rel F S ρ ids s):∀(l:List Operand),jd F (S.env ρ ids) (l.map S.ay) (l.map s.ay)
 |[]=>rfl
 |x::l=>⟨_,_,rfl,ad.ay x,qX ad l⟩
theorem yj:∀{a:List aL}{a':List aa},cJ F E a a'->jd F E a a'
 |[],a',h=>by assumption
 |v::a,a',h=>by
  obtain⟨q,r,rfl,U,_,al⟩:=h;exact⟨q,r,rfl,U,yj al⟩
theorem uo(ad:Rel F S ρ ids s)(aI:lf F lx m0 s){m:Mem}(hm:pw m0 m):∀{l:List aL}{aG:List aa}{ps:List aS},yO lx S l=some ps->jd F (S.env ρ ids) l aG->im F.DI m (ep ρ ps) aG
 |[],aG,ps,h,ai=>by
  simp[yO]at h;subst h;exact ai
 |v::l,aG,ps,h,ai=>by
  obtain⟨q,r,rfl,U,ab⟩:=ai;have hold:∀i,i<F.n0->F.lH i=.inv F.DI->i<m.n/\m.β i=.inv F.DI:=λi hi hb=>by
   have jX:i<m0.n:=by
    cases lx with
    |none=>subst aI;rw[ad.dt];omega
    |some b=>rw[aI.1];omega
   refine⟨Nat.lt_of_lt_of_le jX hm.1,?_⟩;have ao:s.m.β i=.inv F.DI:=by rw[ad.old i hi];exact hb
   have e:=Q0 aI;rw[hm.2 i jX,←e.2 i jX,ao]
  simp only[yO]at h;split at h
  ·rename_i iv ak;injection h with h;subst h;exact⟨q,r,rfl,.inr ⟨rfl,F.d0,U.1,hold F.d0 U.2.1 U.2.2⟩,uo ad aI hm ak ab⟩
  ·rename_i i iv ak;split at h
   ·rename_i hb;split at h
    ·rename_i BR;injection h with h;subst h;refine⟨q,r,rfl,.inr ⟨rfl,F.n0+i,U.1,?_⟩,uo ad aI hm ak ab⟩;have nt:=ad.box i _ hb;have jX:F.n0+i<m0.n:=by
      have aU:i<S.bx.length:=U.2;cases lx with
      |none=>subst aI;rw[ad.dt];omega
      |some b=>
       simp  at BR;rw[aI.1];omega
     refine⟨Nat.lt_of_lt_of_le jX hm.1,?_⟩;have e:=Q0 aI;rw[hm.2 _ jX,←e.2 _ jX];exact nt
    ·cases h
   ·cases h
  ·rename_i iv _ _ ak;split at h
   ·rename_i p ae;injection h with h;subst h;obtain⟨aK,aO⟩:=wJ ae U;have Ga:q=p.den ρ:=aK;exact⟨q,r,rfl,.inl ⟨Ga,by grind⟩,uo ad aI hm ak ab⟩
   ·cases h
  ·cases h
def zq(p v:aa)(a a':Nat):Prop:=(∃sz len cs id,p=.sl none sz 0 len cs/\v=.sl (some id) sz 0 len cs/\a<=id/\id<a')\/(p=.bC/\v=.bC)
def rD(path:Option (Nat×Nat))(p v:aa)(a a':Nat):Prop:=match path with
 |none=>zq p v a a'
 |some (_,j)=>∃ps x y,p=.agg ps/\ps[j]?=some x/\v=.agg (ps.set j y)/\zq x y a a'
def wi(P:Program)(DI:List aa->Prop)(C:b2->FuncId->List aa->Option aa)(g:FuncId)(path:Option (Nat×Nat)):Prop:=
 ∀args,(∀ω,(C ω g args).isSome)->∀args' m,im DI m args args'->gL P g args' m λv E m'=>∃p ω,C ω g args=some p/\p.plain=true/\E=[]/\m'={ m with an:=m'.an }/\m.an<=m'.an/\rD path p v m.an m'.an
def p7(X:Ctx)(DI:List aa->Prop)(C:b2->FuncId->List aa->Option aa):Prop:=∀g r,mW X.nb g=some r->wi X.P DI C g r.1
theorem QQ{l:List aL}{aG:List aa}(h:cJ F E l aG){v:aL}{q:aa}(ai:a0 F E v q)(aH:q.one=true)(j:Nat):cJ F E (l.set j v) (aG.set j q):=by grind [jL]
theorem PR{r:Bool}{sz:Nat}{y:aR}{KK:c6->Sym->M}{v:aa}{a a':Nat}(h:y9 r sz (.e y) S KK=.ok t)(ad:Rel F S ρ ids s)(aB:bN X.P C n t ρ R)(ar:zq (y.den ρ) v a a')(aF:y.ok ρ):
  ∃(bd:c6)(ba:Sym)(bY:List aa)(t1:Tree)(cs:List aa)(xid:Option Nat),KK bd ba=.ok t1/\Rel F ba bY ids s/\bN X.P C n t1 bY R/\Ext S ρ ba bY/\ba.bd=S.bd/\bd.c.ok bY/\bd.c.den bY=.agg cs/\0<bd.sz/\cs.length=cs.length/bd.sz*bd.sz/\isNil bY bd.born cs=some xid.isNone/\(∀y,bd.born=.dyn y->y.ok bY) /\
   v=(match xid with|some id=>.sl (some id) bd.sz 0 (cs.length/bd.sz) cs|none=>.bC)/\(∀id,xid=some id->a<=id/\id<a')/\bd.born.j2=true:=by
 have ae:(y.den ρ).plain=true:=aR.jJ aF;unfold y9 at h;split at h
 ·cases h
 ·obtain⟨t1,U,rfl⟩:=ig h;obtain⟨c,ah,aB⟩:=aB.av;simp only[Prim.run,aS.den]at ah;have key:∃cs,c=.agg cs/\bG cs=true/\cs.length=cs.length/sz*sz/\∃xid:Option Nat,(r=true->xid.isNone=false)/\EI (y.den ρ)=some (.bool xid.isNone)/\(xid=none->cs=[])/\v=(match xid with|some id=>.sl (some id) sz 0 (cs.length/sz) cs|none=>.bC)/\∀id,xid=some id->a<=id/\id<a':=by
   rcases ar with⟨iL,len,cs,id,aK,aO,bS,b8⟩|⟨aK,aO⟩
   ·rw[aK]at ah ae⊢;simp only[po]at ah;split at ah
    ·rename_i bq;injection ah with ah;obtain⟨rfl,ak⟩:=bq;have aV:cs.length/iL=len:=by grind [Nat.mul_div_cancel]
     exact⟨cs,ah.symm,by assumption,by grind,some id,λ_=>rfl,rfl,λh=>(by cases h),(by rw[aO,aV]),λeG h=>(by grind)⟩
    ·cases ah
   ·rw[aK]at ah⊢;simp only[po]at ah;split at ah
    ·cases ah
    ·rename_i bq;injection ah with ah;exact⟨[],ah.symm,rfl,by simp,none,λh=>absurd h bq,rfl,λ_=>rfl,aO,λid h=>(by cases h)⟩
  obtain⟨cs,rfl,cD,hlen,xid,k1,bf,bP,cX,fi⟩:=key;have hb:=ad.bind (.agg cs) false (by simp);obtain⟨g1,a2⟩:=fO ad (.agg cs) (by assumption);split at U
  ·refine⟨_,_,_,t1,cs,xid,U,hb,aB,Ext.bind S ρ _ false,rfl,g1,a2,by grind,hlen,?_,λy aF=>(by cases aF),cX,fi,rfl⟩;grind [isNil]
  ·obtain⟨t2,ab,rfl⟩:=ig U;obtain⟨b,oK,aB⟩:=aB.av;have h2:y.den (ρ++[.agg cs])=y.den ρ:=(aR.j9 (List.prefix_append _ _) aF).1;simp only[Prim.run,aS.den]at oK;rw[h2,bf]at oK;injection oK with oK;subst oK;have dB:=hb.bind (.bool xid.isNone) true (λ_=>rfl);obtain⟨bZ,dR⟩:=fO hb (.bool xid.isNone) rfl;obtain⟨aK,aO⟩:=aR.j9 (List.prefix_append (ρ++[aa.agg cs]) [.bool xid.isNone]) g1;refine⟨_,_,_,t2,cs,xid,ab,dB,aB,(Ext.bind S ρ _ false).trans (Ext.bind _ _ _ true),rfl,aO,aK.trans a2,by grind,hlen,?_,λy aF=>(by grind),cX,fi,rfl⟩;grind [isNil]
theorem NP{r:Option (Nat×Nat)×Nat×Bool}{d:Option Tmp}{p v:aa}{m':Mem}(h:uI r (.var S.cd) d S.var K=.ok t)(ad:Rel F S ρ ids s)(aB:bN X.P C n t (ρ++[p]) R)(ae:p.plain=true)(ar:rD r.1 p v s.m.an m'.an)(hm:m'={ s.m with an:=m'.an })(l7:s.m.an<=m'.an):
  ∃pK pL uZ tO,K pK=.ok tO/\Rel F pK pL uZ ({ s with m:=m' }.put d v)/\bN X.P C n tO pL R/\Ext S ρ pK pL:=by
 have hb:=ad.bind p false (by simp);obtain⟨g1,a2⟩:=fO ad p ae;have fin:∀{ba:Sym}{bY:List aa}{bd:c6}{cs:List aa}{xid:Option Nat},Rel F ba bY ids s->bd.c.ok bY->bd.c.den bY=.agg cs->0<bd.sz->cs.length=cs.length/bd.sz*bd.sz->isNil bY bd.born cs=some (Option.isNone xid)->(∀y,bd.born=.dyn y->y.ok bY)->(∀id,xid=some id->s.m.an<=id/\id<m'.an)->bd.born.j2=true ->
   Rel F ({ ba with bd:=ba.bd++[some bd] }:Sym) bY (eA ids ba.bd.length xid) { s with m:=m' }/\a0 F (({ ba with bd:=ba.bd++[some bd] }:Sym).env bY (eA ids ba.bd.length xid)) (.own ba.bd.length) (match xid with|some id=>.sl (some id) bd.sz 0 (cs.length/bd.sz) cs|none=>.bC):=by
  intro ba bY bd cs xid cy dM gC jF kB kC qH x7 GK;obtain⟨j7,iD⟩:=cy.Fa (x:=xid) dM gC jF kB kC qH (s':={ s with m:=m' }) rfl (by rw[hm]) (by rw[hm]) l7 x7 rfl rfl (by rw[hm]);refine⟨j7,?_⟩;refine⟨bd,cs,by grind [Sym.env],iD,?_⟩;simp only[Sym.env,eA,if_true];grind [la]
 obtain⟨path,sz,b⟩:=r;cases path with
 |none=>
  simp only[uI]at h;obtain⟨bd,ba,bY,t1,cs,xid,U,cy,dM,gC,jF,kB,kC,qH,x7,Ma,LD,Gn,LF,GK⟩:=PR (X:=X) h (show Rel F S.var (ρ++[p]) ids s from hb) aB (by rw[a2];exact ar) g1;obtain⟨j7,iD⟩:=fin cy kB kC qH x7 Ma LD LF GK;rw[←Gn]at iD;refine⟨_,bY,_,t1,U,j7.put d iD,dM,?_⟩;have aj:Ext S ρ S.var (ρ++[p]):=Ext.bind S ρ p false;have aF:Ext ba bY ({ ba with bd:=ba.bd++[some bd] }:Sym) bY:=⟨List.prefix_refl _,rfl,rfl,rfl,rfl,rfl,Nat.le_refl _,rfl⟩;exact((aj.trans gC).trans aF).put _ _
 |some z7=>
  obtain⟨dZ,j⟩:=z7;simp only[uI]at h;obtain⟨ps,x,y,rfl,aO,rfl,ar⟩:=ar;obtain⟨t1,U,rfl⟩:=ig h;obtain⟨c,ah,aB⟩:=aB.av;simp only[Prim.run,aS.den,a2,vc]at ah;split at ah
  ·rename_i ak;injection ah with ah;subst ah;have Gp:Rel F S.var (ρ++[.agg ps]) ids s:=hb;have oK:=Gp.bind (.agg ps) false (by simp);obtain⟨bZ,dR⟩:=fO Gp (.agg ps) ae;have BP:bG ps=true:=by simpa only[aa.plain]using ae
   have Gk:=((hH ps).1 BP x (List.mem_of_getElem? aO));have Fb:aR.den ((ρ++[.agg ps])++[.agg ps]) (.proj (.var S.var.cd) j)=x:=by
    show cM (aR.den ((ρ++[.agg ps])++[.agg ps]) (.var S.var.cd)) j=x;rw[dR];simp[cM,List.getD_eq_getElem?_getD,aO]
   have agS:aR.ok ((ρ++[.agg ps])++[.agg ps]) (.proj (.var S.var.cd) j):=⟨bZ,by
    have:cM (aR.den ((ρ++[.agg ps])++[.agg ps]) (.var S.var.cd)) j=x:=Fb;rw[this];exact Gk.1⟩
   obtain⟨bd,ba,bY,t1,cs,xid,ab,cy,dM,gC,jF,kB,kC,qH,x7,Ma,LD,Gn,LF,GK⟩:=PR (X:=X) U oK aB (by rw[Fb];exact ar) agS;obtain⟨j7,iD⟩:=fin cy kB kC qH x7 Ma LD LF GK;rw[←Gn]at iD;have aj:Ext S ρ S.var (ρ++[.agg ps]):=Ext.bind S ρ _ false;have dG:Ext S.var (ρ++[.agg ps]) (S.var.bind false) ((ρ++[.agg ps])++[.agg ps]):=Ext.bind _ _ _ false;have aF:Ext ba bY ({ ba with bd:=ba.bd++[some bd] }:Sym) bY:=⟨List.prefix_refl _,rfl,rfl,rfl,rfl,rfl,Nat.le_refl _,rfl⟩;obtain⟨d1,d2⟩:=aR.j9 gC.pre bZ;refine⟨_,bY,_,t1,ab,j7.put d (v:=.agg (((List.range dZ).map λi=>aL.e (.proj (.var S.var.cd) i)).set j (.own ba.bd.length))) ?_,dM,(((aj.trans dG).trans gC).trans aF).put _ _⟩;refine⟨_,rfl,QQ ?_ iD ?_ j⟩
   ·exact ym (by show aR.den bY _=_;rw[d1,dR]) d2 ak
   ·rw[Gn];cases xid<;>rfl
  ·cases ah
theorem OO{r:Bool}{sz:Nat}{x c:aa}(h:po r sz x=some c)(an:Nat):∃v,zq x v an (an+1):=by
 unfold po at h;split at h
 ·exact⟨.bC,.inr ⟨rfl,rfl⟩⟩
 ·rename_i iL len cs;split at h
  ·exact⟨.sl (some an) iL 0 len cs,.inl ⟨iL,len,cs,an,rfl,rfl,Nat.le_refl _,by omega⟩⟩
  ·cases h
 ·cases h
theorem NQ{r:Bool}{sz:Nat}{x:aS}{KK:c6->Sym->M}(h:y9 r sz x S KK=.ok t)(aB:bN X.P C n t ρ R):∃c,po r sz (x.den ρ)=some c:=by
 unfold y9 at h;split at h
 ·cases h
 ·obtain⟨t1,U,rfl⟩:=ig h;obtain⟨c,ah,_⟩:=aB.av;exact⟨c,ah⟩
theorem Wa{r:Option (Nat×Nat)×Nat×Bool}{d:Option Tmp}{p:aa}(h:uI r (.var S.cd) d S.var K=.ok t)(ad:Rel F S ρ ids s)(aB:bN X.P C n t (ρ++[p]) R)(ae:p.plain=true)(an:Nat):∃v,rD r.1 p v an (an+1):=by
 obtain⟨g1,a2⟩:=fO ad p ae;obtain⟨path,sz,b⟩:=r;cases path with
 |none=>
  simp only[uI]at h;obtain⟨c,ah⟩:=NQ (X:=X) h aB;simp only[aS.den,a2]at ah;exact OO ah an
 |some z7=>
  obtain⟨dZ,j⟩:=z7;simp only[uI]at h;obtain⟨t1,U,rfl⟩:=ig h;obtain⟨c,ah,aB⟩:=aB.av;simp only[Prim.run,aS.den,a2,vc]at ah;cases p with
  |agg ps=>
   simp only[]at ah;split at ah
   ·injection ah with ah;subst ah;have Gp:Rel F S.var (ρ++[.agg ps]) ids s:=ad.bind (.agg ps) false (by simp);obtain⟨bZ,dR⟩:=fO Gp (.agg ps) ae;obtain⟨c,ah⟩:=NQ (X:=X) U aB;have Fb:aS.den ((ρ++[.agg ps])++[.agg ps]) (.e (.proj (.var S.var.cd) j))=ps.getD j .bad:=by
     show cM (aR.den ((ρ++[.agg ps])++[.agg ps]) (.var S.var.cd)) j=_;rw[dR];rfl
    rw[Fb,List.getD_eq_getElem?_getD]at ah;cases aC:ps[j]? with
    |none=>grind [po]
    |some x=>
     rw[aC]at ah;obtain⟨y,aF⟩:=OO (by simpa using ah) an;exact⟨_,ps,x,y,rfl,aC,rfl,aF⟩
   ·cases ah
  |_=>cases ah
theorem ZJ(s:aA):s.after [] s.m=s:=by
 have:gV s.bg.a s.bb []=s.bb:=by cases s.bb<;>simp[gV]
 simp_all[aA.after]
theorem Mt{c:Call}{f:Operand}{g:FuncId}{caps:List aa}{args':List aa}{args:List aS}(hC:jq X.P F.DI C)(aE:o.op=.call c)(de:c.callee=.value f)(aQ:s.ay f=.fn g caps)(au:im F.DI s.m (ep ρ args++args') (c.args.toList.map s.ay++caps))
  {bw:Tree} (oE:∀ω,(C ω g (ep ρ args++args')).isSome) (aB:∀ω v,C ω g (ep ρ args++args')=some v->bN X.P C n bw (ρ++[v]) R) (ad:Rel F S ρ ids s)
  (h:K (S.var.put o.dst (.e (.var S.cd)))=.ok bw):hM X F C n R K S ρ s o:=by
 refine⟨s,dW.refl s,?_⟩;simp only[eQ,aE,de,aQ];obtain⟨v0,pD⟩:=Option.isSome_iff_exists.1 (oE gP);refine⟨hC.fn _ _ _ _ pD,((hC.zG g _ oE _ _ au).mono ?_).y⟩;rintro v E m' ⟨⟨ω,ai⟩,ae,rfl,rfl⟩;rw[ZJ];have hb:=ad.bind v false (by simp);obtain⟨g1,a2⟩:=fO ad v ae;exact⟨_,_,ids,bw,h,hb.put o.dst (by exact⟨a2.symm,g1⟩),aB ω v ai,(Ext.bind S ρ v false).put _ _⟩
def JR(X:Ctx)(C:b2->FuncId->List aa->Option aa)(n:Nat)(inl:fh):Prop:=
 ∀(F:cP)(R:Out->Prop)(key:Nat)(g:FuncId)(args:List aL)(K:aL->Sym->M)(S:Sym)(ρ:List aa)(ids:Nat->Option Nat)(s:aA)(t:Tree)(bz:List aa),
  F.P=X.P->jq X.P F.DI C->mu X.P F.DI X.hI->p7 X F.DI C->inl key g args S K=.ok t->Rel F S ρ ids s->jd F (S.env ρ ids) args bz->bN X.P C n t ρ R ->
  qR X.P s.c7 g bz s.m λq E m'=>∃v br b1 dK bw,K v br=.ok bw/\Rel F br b1 dK (s.after E m')/\a0 F (br.env b1 dK) v q/\bN X.P C n bw b1 R/\Ext S ρ br b1
theorem ac3{c:Call}{f:Operand}{g:FuncId}{caps:List aL}{fn:Func}(aw:F.P=X.P)(hC:jq X.P F.DI C)(gq:mu X.P F.DI X.hI)(fe:p7 X F.DI C)(iM:JR X C n inl)(aE:o.op=.call c)(de:c.callee=.value f)(aQ:S.ay f=.fn g caps)(dX:X.P.funcs[g]?=some fn)(hs:¬(fn.name = "runtime.NumGoroutine" \/ fn.body.isNone))
  (h:inl key g (c.args.toList.map S.ay++caps) S (λv S=>K (S.put o.dst v))=.ok t) (ad:Rel F S ρ ids s) (aB:bN X.P C n t ρ R):hM X F C n R K S ρ s o:=by
 have eH:=ad.ay f;rw[aQ]at eH;obtain⟨aG,e,ak⟩:=eH;refine⟨s,dW.refl s,?_⟩;simp only[eQ,aE,de,e];refine⟨⟨fn,dX,λe=>hs (.inl e),by cases hb:fn.body<;>simp[hb]at hs⊢⟩,?_⟩;refine(iM F R key g _ _ S ρ ids s t _ aw hC gq fe h ad (Ak (qX ad _) (yj ak)) aB).mono ?_;rintro q E m' ⟨v,br,b1,dK,bw,U,ab,al,aJ,bm⟩;exact⟨_,b1,dK,bw,U,ab.put o.dst al,aJ,bm.put _ _⟩
def JS(X:Ctx)(C:b2->FuncId->List aa->Option aa)(n:Nat)(yl:fh):Prop:=
 ∀(F:cP)(R:Out->Prop)(key:Nat)(y:Nat)(args:List aL)(K:aL->Sym->M)(S:Sym)(ρ:List aa)(ids:Nat->Option Nat)(s:aA)(t:Tree)(bz:List aa),
  F.P=X.P->jq X.P F.DI C->mu X.P F.DI X.hI->p7 X F.DI C->yl key y args S K=.ok t->Rel F S ρ ids s->jd F (S.env ρ ids) args bz->bN X.P C n t ρ R ->
  ∃eE st mJ,eE∈s.c7/\F.cV.ys[y]?.map eN.l=some eE.l/\(eE.l,{ eE.o with state:=st,pending:=mJ })∈s.m.rc/\bz.length=eE.o.params.size /\
   wD X.P s.c7 eE.o eE.l bz s.m λq E m'=>∃v br b1 dK bw,K v br=.ok bw/\Rel F br b1 dK (s.after E m')/\a0 F (br.env b1 dK) v q/\bN X.P C n bw b1 R/\Ext S ρ br b1
theorem ac4{c:Call}{f:Operand}{y:Nat}(aw:F.P=X.P)(hC:jq X.P F.DI C)(gq:mu X.P F.DI X.hI)(fe:p7 X F.DI C)(g4:JS X C n yl)(aE:o.op=.call c)(de:c.callee=.value f)(aQ:S.ay f=.cq y)
  (h:yl key y (c.args.toList.map S.ay) S (λv S=>K (S.put o.dst v))=.ok t) (ad:Rel F S ρ ids s) (aB:bN X.P C n t ρ R):hM X F C n R K S ρ s o:=by
 have eH:=ad.ay f;rw[aQ]at eH;obtain⟨aG,aK,e⟩:=eH;refine⟨s,dW.refl s,?_⟩;simp only[eQ,aE,de,e];obtain⟨eE,st,mJ,U,ab,al,aJ,bm⟩:=g4 F R key y _ _ S ρ ids s t _ aw hC gq fe h ad (qX ad _) aB;rw[aK]at ab;injection ab with ab;subst ab;refine⟨eE,st,mJ,U,rfl,al,by grind,bm.mono ?_⟩;rintro q E m' ⟨v,br,b1,dK,bw,U,ab,al,aJ,bm⟩;exact⟨_,b1,dK,bw,U,ab.put o.dst al,aJ,bm.put _ _⟩
theorem abg(h:Rel F S ρ ids s):Rel F ({ S with bx:=S.bx++[ga.c8] }:Sym) ρ ids { s with m:=⟨ea s.m.β s.m.n (.inv F.DI),s.m.n+1,s.m.an,s.m.rc⟩ }:=by
 have hle:(S.env ρ ids).le (({ S with bx:=S.bx++[ga.c8] }:Sym).env ρ ids):=⟨List.prefix_refl _,λ_ _ h=>h,by simp[Sym.env],λ_ _ _=>rfl⟩;refine⟨h.len,h.cU,λt=>a0.mono hle (h.slot t),by simp[h.dt];omega,λi hi=>?_,λi b hb=>?_,h.hO,h.mv,λk a au=>?_,h.bg,h.cV,h.kY,h.bb,h.new,h.eP,h.dO,h.lG,by have:=h.mS;simp;omega,h.an,h.kZ,h.rc⟩
 ·have:=h.dt;simp only[qK _ _ _ _ (by omega:i≠s.m.n)];exact h.old i hi
 ·simp only[List.getElem?_append]at hb;have aI:=h.dt;split at hb
  ·simp only[qK _ _ _ _ (by omega:F.n0+i≠s.m.n)];exact Ex hle (h.box i b hb)
  ·have:i=S.bx.length:=by grind
   subst this;simp at hb;subst hb;rw[←aI];simp ;exact rfl
 ·obtain⟨cs,ah⟩:=h.arr k a au;exact⟨cs,c6.rel.mono hle au ah⟩
theorem abh{c:Call}{f:Operand}{p:aS}(hC:mu X.P F.DI X.hI)(aE:o.op=.call c)(de:c.callee=.value f)(aQ:S.ay f=.fn X.hI.new [])(ae:hT (c.args.toList.map S.ay)=some [p]){fn:Func}(dX:X.P.funcs[X.hI.new]?=some fn)(hs:¬(fn.name = "runtime.NumGoroutine" \/ fn.body.isNone))
  (h:emit (.ints p) false S (λ_ S=>K (Sym.put { S with bx:=S.bx++[ga.c8] } o.dst (.ptr S.bx.length 0)))=.ok t) (ad:Rel F S ρ ids s) (aB:bN X.P C n t ρ R):hM X F C n R K S ρ s o:=by
 obtain⟨bw,a9,rfl⟩:=ig h;obtain⟨pv,eW,aB⟩:=aB.av;simp only[Prim.run,EX]at eW;split at eW
 case isFalse=>cases eW
 rename_i hints;injection eW with eW;subst eW;obtain⟨aK,aO⟩:=ad.evs _ _ ae;have lp:=ad.bind (p.den ρ) false (by simp);have eH:=ad.ay f;rw[aQ]at eH;obtain⟨aG,e,ak⟩:=eH;subst ak;refine⟨s,dW.refl s,?_⟩;simp only[eQ,aE,de,e];refine⟨⟨fn,dX,λe=>hs (.inl e),by cases hb:fn.body<;>simp[hb]at hs⊢⟩,?_⟩;rw[List.append_nil,aK];refine gL.y ((hC.new (by grind) (p.den ρ) s.m hints).mono ?_);rintro v E m' ⟨rfl,rfl,rfl⟩;have aq:=abg lp;have KD:s.after [] ⟨ea s.m.β s.m.n (.inv F.DI),s.m.n+1,s.m.an,s.m.rc⟩={ s with m:=⟨ea s.m.β s.m.n (.inv F.DI),s.m.n+1,s.m.an,s.m.rc⟩ }:=by
  have:gV s.bg.a s.bb []=s.bb:=by cases s.bb<;>simp[gV]
  simp_all[aA.after]
 rw[KD];have gH:(S.bind false).bx.length=S.bx.length:=rfl;refine⟨_,_,ids,bw,a9,aq.put o.dst (by exact⟨by rw[ad.dt,gH],by simp[Sym.env]⟩),aB,?_⟩;have aj:Ext (S.bind false) (ρ++[p.den ρ]) ({ S.bind false with bx:=(S.bind false).bx++[ga.c8] }:Sym) (ρ++[p.den ρ]):=⟨List.prefix_refl _,rfl,rfl,rfl,rfl,rfl,by simp,rfl⟩;exact((Ext.bind S ρ _ false).trans aj).put _ _
end
end
section
open Go Go.RowKit
variable[cQ]
section
variable{X:Ctx}{F:cP}{C:b2->FuncId->List aa->Option aa}{n:Nat}{R:Out->Prop}{S:Sym}{ρ:List aa}{ids:Nat->Option Nat}{s:aA}{K:Sym->M}{t:Tree}{o:Oper}{m0:Mem}{inl yl:fh}{lx:Option Nat}{key:Nat}{E:Env}
theorem PS{b:e9}(h:b.isMap=true):b=.map:=by cases b<;>first|rfl|cases h
theorem I6{b:e9}(h:b.Kx=true):b=.it:=by cases b<;>first|rfl|cases h
theorem JA{k:Nat}{a:c6}{q:aa}{it:Bool}(hb:a.born=if it then .it else .map)(au:S.bd.getD k none=some a)(aH:a0 F (S.env ρ ids) (.own k) q):∃cs id,a.rel (S.env ρ ids) k cs/\ids k=some id/\q=.mp it (some id) a.sz cs:=by
 obtain⟨a',cs,U,ab,al⟩:=aH;have:a'=a:=by have:=U.symm.trans au;grind
 subst this;have aI:=ab.2.2.2.2.1;have cr:((S.env ρ ids).ids k).isNone=false:=by grind [isNil]
 cases hi:(S.env ρ ids).ids k with
 |none=>grind
 |some id=>
  rw[hi,hb]at al;exact⟨cs,id,ab,hi,by rw[al];cases it<;>rfl⟩
theorem Dr{a b:List aa}(au:bG a=true)(hb:bG b=true):bG (a++b)=true:=by grind [hH]
theorem HW{a:List aa}(au:bG a=true)(i:Nat):bG (a.take i)=true:=by grind [hH]
theorem HX{a:List aa}(au:bG a=true)(i:Nat):bG (a.drop i)=true:=by grind [hH]
theorem ZL{l:List aa}(h:bG l=true)(id sz:Nat):b9.clean (.wr id sz (.agg l)):=λn an=>by grind [aa.cT,yu]
theorem Xd{ty:TypeId}{r:Option Operand}(aE:o.op=.makeMap ty r)(h:Dc X none o ty r S K=.ok t)(ad:Rel F S ρ ids s)(aB:bN X.P C n t ρ R):hM X F C n R K S ρ s o:=by
 unfold Dc at h;split at h
 ·cases h
 ·split at h
  ·rename_i cR e hu;split at h
   ·rename_i eb;obtain⟨bw,a1,rfl⟩:=ig h;obtain⟨v,ai,aB⟩:=aB.av;simp[Prim.run,ep]at ai;subst ai;have hb:=ad.bind (.agg []) false (by simp);obtain⟨g1,a2⟩:=fO ad (.agg []) rfl;refine⟨s,dW.refl s,?_⟩;simp only[eQ,aE,hu];refine⟨?_,nL (Ext.bind S ρ _ false) (ON (a:=⟨X.P.cellsOf cR,.map,.var S.cd⟩) (it:=false) hb rfl g1 a2 eb (by simp) a1 aB)⟩;simp_all
   ·cases h
  ·cases h
theorem Se{k id:Nat}{a:c6}{it:Bool}{cs cs':List aa}(bL:a.born=if it then .it else .map)(au:S.bd.getD k none=some a)(ad:Rel F S ρ ids s)(lU:a.rel (S.env ρ ids) k cs)(cr:ids k=some id)(cD:bG cs'=true)(ak:cs'.length=cs'.length/a.sz*a.sz)
  {x:aR} (g1:x.ok ρ) (a2:x.den ρ=.agg cs'):Rel F (S.dm k false { a with c:=x }) ρ ids (s.q6 id a.sz cs'):=by
 refine(ad.gY (k:=k) (id:=id) (c':=x) (all:=false) (EE:=[.wr id a.sz (.agg cs')]) au lU cr (λe he=>?_) g1 a2 ak (by rw[bL];cases it<;>rfl) (λ_=>?_)).1
 ·simp  at he;subst he;exact⟨rfl,ZL cD id a.sz⟩
 grind [g8,aa.sub,aa.bW]
theorem Yj{sz:Nat}{cs k:List aa}(bX:0<sz)(aq:k.length=sz)(ak:cs.length=cs.length/sz*sz):(m4 sz cs k).length=(m4 sz cs k).length/sz*sz:=by grind [m4,Nat.add_div_right]
theorem Wc{ty:TypeId}{m k x:Operand}(aE:o.op=.mapUpdate ty m k x)(h:CZ X none o ty m k S K=.ok t)(ad:Rel F S ρ ids s)(aB:bN X.P C n t ρ R):hM X F C n R K S ρ s o:=by
 unfold CZ at h;split at h
 ·cases h
 ·have nX:o.dst=none:=by simp_all
  split at h
  ·rename_i cR e hu;split at h
   ·rename_i aja;split at h
    ·rename_i l gJ aq hm;split at h
     ·rename_i a ps au gy;split at h
      ·rename_i J6;obtain⟨bw,a1,rfl⟩:=ig h;obtain⟨v,ai,aB⟩:=aB.av;have Gb:=ad.ay m;rw[hm]at Gb;obtain⟨cs,id,ab,cr,aH⟩:=JA (it:=false) (PS J6) au Gb;have rM:=ad.ay k;rw[aq]at rM;obtain⟨aG,er,agV⟩:=rM;obtain⟨gr,p2⟩:=sG gy agV;have h2:a.c.den ρ=.agg cs:=ab.2.1;simp only[Prim.run,h2,Ku]at ai;rw[show ep ρ ps=aG from gr.symm]at ai;split at ai
       ·rename_i ah;obtain⟨dS,c2,c3,c4⟩:=ah;injection ai with ai;subst ai;have cD:bG (m4 a.sz cs aG)=true:=by
         unfold m4;split
         ·exact ab.plain
         ·exact Dr ab.plain p2
        have hb:=ad.bind (.agg (m4 a.sz cs aG)) false (by simp);obtain⟨g1,a2⟩:=fO ad (.agg (m4 a.sz cs aG)) (by simpa only[aa.plain]using cD);have ha:=c6.rel.mono (Env.p0 S ρ ids (.agg (m4 a.sz cs aG)) false) au ab;refine⟨s,dW.refl s,?_⟩;simp only[eQ,aE,hu,aH,er];exact⟨nX,Zy aja,dS,c2,c3,c4,_,_,ids,bw,a1,Se (it:=false) (S:=S.bind false) (PS J6) au hb ha cr cD (Yj dS c2 ab.2.2.2.1) g1 a2,aB,(Ext.bind S ρ _ false).trans (qW gJ false _)⟩
       ·cases ai
      ·cases h
     ·cases h
    ·cases h
   ·cases h
  ·cases h
theorem PT(z:aa):∀n,(e8 [z] n).length=n
 |0=>rfl
 |n+1=>by simp[e8,PT z n]
theorem NR:∀n,bG (e8 [.ca] n)=true
 |0=>rfl
 |n+1=>by simp only[e8,List.singleton_append,bG,NR n];rfl
theorem Yi{ty:TypeId}{x:Operand}(aE:o.op=.range ty x)(h:Dm X none o ty x S K=.ok t)(ad:Rel F S ρ ids s)(aB:bN X.P C n t ρ R):hM X F C n R K S ρ s o:=by
 unfold Dm at h;split at h
 ·cases h
 ·split at h
  ·rename_i cR e hu;refine Ey h ad aB λS ρ ids s t h ad aB=>?_;split at h
   ·rename_i y aj;obtain⟨bw,a1,rfl⟩:=ig h;obtain⟨v,ai,aB⟩:=aB.av;have hd:=ad.ay x;rw[aj]at hd;unfold a0 at hd;simp only[Prim.run,aS.den]at ai;have gH:s.ay x=y.den ρ:=hd.1;rw[←gH]at ai;unfold JZ at ai;split at ai
    ·rename_i iL cs aH;split at ai
     ·rename_i ah;obtain⟨rfl,dS,c2,c3⟩:=ah;injection ai with ai;subst ai;have cD:bG (e8 [.ca] (X.P.cellsOf cR)++cs)=true:=Dr (NR _) c2;have hb:=ad.bind (.agg (e8 [.ca] (X.P.cellsOf cR)++cs)) false (by simp);obtain⟨g1,a2⟩:=fO ad (.agg (e8 [.ca] (X.P.cellsOf cR)++cs)) (by simpa only[aa.plain]using cD);refine⟨s,dW.refl s,?_⟩;simp only[eQ,aE,hu,aH];refine⟨dS,nL (Ext.bind S ρ _ false) (ON (a:=⟨X.P.cellsOf cR,.it,.var S.cd⟩) (it:=true) hb rfl g1 a2 dS ?_ a1 aB)⟩;show(e8 [.ca] (X.P.cellsOf cR)++cs).length=(e8 [.ca] (X.P.cellsOf cR)++cs).length/X.P.cellsOf cR*X.P.cellsOf cR;rw[List.length_append,PT,Nat.add_div_left _ dS,Nat.succ_mul,←c3];omega
     ·cases ai
    ·cases ai
   ·cases h
  ·cases h
theorem ZK{x:Operand}(aE:o.op=.entry x)(h:DD none o x S K=.ok t)(ad:Rel F S ρ ids s)(aB:bN X.P C n t ρ R):hM X F C n R K S ρ s o:=by
 unfold DD at h;simp only[Option.isSome_none,Bool.false_eq_true,if_false]at h;split at h
 ·rename_i k aj;split at h
  ·rename_i a au;split at h
   ·rename_i gY;obtain⟨bw,a1,rfl⟩:=ig h;obtain⟨v,ai,aB⟩:=aB.av;have hd:=ad.ay x;rw[aj]at hd;obtain⟨cs,id,ab,cr,aH⟩:=JA (it:=true) (I6 gY) au hd;have h2:a.c.den ρ=.agg cs:=ab.2.1;simp only[Prim.run,h2,Lz]at ai;split at ai
    ·rename_i ah;obtain⟨dS,c2,c3⟩:=ah;injection ai with ai;subst ai;have cD:bG (cs.take a.sz)=true:=HW ab.plain _;have hb:=ad.bind (.agg (cs.take a.sz)) false (by simp);obtain⟨g1,a2⟩:=fO ad (.agg (cs.take a.sz)) (by simpa only[aa.plain]using cD);refine⟨s,dW.refl s,?_⟩;simp only[eQ,aE,aH];refine⟨dS,c2,_,_,ids,bw,a1,hb.put o.dst ?_,aB,(Ext.bind S ρ _ false).put _ _⟩;simp only[a0];refine⟨_,rfl,_,_,rfl,⟨_,rfl,ym a2 g1 c3⟩,_,_,rfl,trivial,rfl⟩
    ·cases ai
   ·cases h
  ·cases h
 ·cases h
theorem ZM{sz:Nat}{rem:List aa}{j:Nat}(aC:j<rem.length/sz):(chunk sz rem j).length=sz:=by
 have eb:0<sz:=by
  rcases Nat.eq_zero_or_pos sz with h|h
  ·rw[h,Nat.div_zero]at aC;omega
  ·exact h
 have:(j+1)*sz<=rem.length:=(Nat.le_div_iff_mul_le eb).1 aC;rw[Nat.succ_mul]at this;simp only[chunk,List.length_take,List.length_drop];omega
theorem ZN{sz:Nat}{rem:List aa}{j:Nat}(ak:rem.length=rem.length/sz*sz)(aC:j<rem.length/sz):(hL sz rem j).length=(rem.length/sz-1)*sz:=by
 obtain⟨m,hm⟩:∃m,rem.length/sz=m+1:=⟨rem.length/sz-1,by omega⟩;rw[hm]at ak aC⊢;have U:j*sz<=m*sz:=Nat.mul_le_mul_right _ (by omega);simp only[hL,List.length_append,List.length_take,List.length_drop,Nat.succ_mul,Nat.add_sub_cancel]at ak⊢;omega
theorem abl{x:Operand}{str:Bool}(aE:o.op=.next x str)(h:D9 none o x str S K=.ok t)(ad:Rel F S ρ ids s)(aB:bN X.P C n t ρ R):hM X F C n R K S ρ s o:=by
 unfold D9 at h;split at h
 ·cases h
 ·rename_i s9;have ao:str=false:=by cases str with|false=>rfl|true=>exact absurd (.inr rfl) s9
  subst ao;split at h
  ·rename_i k aj;split at h
   ·rename_i a au;split at h
    ·rename_i gY;cases aW:(emit (.lI (.var S.cd)) false S.var λv S=>K ((S.dm k false { a with c:=v }).put o.dst (.bD [.e (.bu (.bool true)),.bT,.bT])))with
     |error e=>rw[aW]at h;cases h
     |ok ajE=>
      cases dH:K (S.var.put o.dst (.bD [.e (.bu (.bool false))]))with
      |error e=>rw[aW,dH]at h;cases h
      |ok Vu=>
       rw[aW,dH]at h;simp only[bind,Except.bind,pure,Except.pure,Except.ok.injEq]at h;subst h;obtain⟨cs',gv,aB⟩:=aB.pick;have hd:=ad.ay x;rw[aj]at hd;obtain⟨cs,id,ab,cr,aH⟩:=JA (it:=true) (I6 gY) au hd;have h2:a.c.den ρ=.agg cs:=ab.2.1;have:cs'=cs:=by have:=gv.symm.trans h2;injection this
       subst this;have eb:=ab.2.2.1;have hlen:=ab.2.2.2.1;refine⟨s,dW.refl s,?_⟩;simp only[eQ,aE,aH];refine⟨trivial,eb,λaT=>?_,λi hi=>?_⟩
       ·have ai:y8 a.sz cs' 0=.agg [.bool false]:=by simp only[y8,w6,aT,if_true]
        have aB:=aB 0;rw[ai]at aB;have hb:=ad.bind (.agg [.bool false]) false (by simp);obtain⟨g1,a2⟩:=fO ad (.agg [.bool false]) rfl;have pO:(aR.proj (.var S.cd) 0).den (ρ++[.agg [.bool false]])=.bool false:=by simp only[aR.den]at a2⊢;rw[a2];rfl
        have Bo:bN X.P C n Vu (ρ++[.agg [.bool false]]) R:=λω=>by
         obtain⟨o,ar,cn⟩:=aB ω;simp only[eval,pO]at ar;exact⟨o,ar,cn⟩
        refine⟨_,_,ids,Vu,dH,Rel.put (S:=S.var) hb o.dst ?_,Bo,(Ext.bind S ρ _ false).put _ _⟩;simp only[a0];exact⟨_,rfl,_,_,rfl,⟨rfl,rfl⟩,rfl⟩
       ·have gq:w6 a.sz cs'≠0:=by unfold w6;omega
        have ai:y8 a.sz cs' i=.agg (.bool true::(chunk a.sz (cs'.drop a.sz) i++hL a.sz (cs'.drop a.sz) i)):=by
         simp only[y8];rw[if_neg gq,Nat.mod_eq_of_lt (by unfold w6;exact hi)]
        have aB:=aB i;rw[ai]at aB;have qw:bG (cs'.drop a.sz)=true:=HX ab.plain _;have cD:bG (chunk a.sz (cs'.drop a.sz) i++hL a.sz (cs'.drop a.sz) i)=true:=Dr (HW (HX qw _) _) (Dr (HW qw _) (HX qw _));have agW:bG (.bool true::(chunk a.sz (cs'.drop a.sz) i++hL a.sz (cs'.drop a.sz) i))=true:=by simp only[bG,cD];rfl
        obtain⟨j7,iD⟩:=fO ad (.agg (.bool true::(chunk a.sz (cs'.drop a.sz) i++hL a.sz (cs'.drop a.sz) i))) (by simpa only[aa.plain]using agW);have lY:=ad.bind (.agg (.bool true::(chunk a.sz (cs'.drop a.sz) i++hL a.sz (cs'.drop a.sz) i))) false (by simp);have pO:(aR.proj (.var S.cd) 0).den (ρ++[.agg (.bool true::(chunk a.sz (cs'.drop a.sz) i++hL a.sz (cs'.drop a.sz) i))])=.bool true:=by simp only[aR.den]at iD⊢;rw[iD];rfl
        have J1:bN X.P C n ajE (ρ++[.agg (.bool true::(chunk a.sz (cs'.drop a.sz) i++hL a.sz (cs'.drop a.sz) i))]) R:=λω=>by
         obtain⟨o,ar,cn⟩:=aB ω;simp only[eval,pO]at ar;exact⟨o,ar,cn⟩
        obtain⟨bw,a1,rfl⟩:=ig aW;obtain⟨v,gm,J1⟩:=J1.av;simp only[Prim.run]at gm;rw[iD]at gm;simp only[LA,Option.some.injEq]at gm;subst gm;have TM:Rel F S.var (ρ++[.agg (.bool true::(chunk a.sz (cs'.drop a.sz) i++hL a.sz (cs'.drop a.sz) i))]) ids s:=lY;have oK:=TM.bind (.agg (chunk a.sz (cs'.drop a.sz) i++hL a.sz (cs'.drop a.sz) i)) false (by simp);obtain⟨g1,a2⟩:=fO TM (.agg (chunk a.sz (cs'.drop a.sz) i++hL a.sz (cs'.drop a.sz) i)) (by simpa only[aa.plain]using cD);have ha:=c6.rel.mono (Env.p0 S ρ ids (.agg (.bool true::(chunk a.sz (cs'.drop a.sz) i++hL a.sz (cs'.drop a.sz) i))) false) au ab;have agX:=c6.rel.mono (Env.p0 S.var _ ids (.agg (chunk a.sz (cs'.drop a.sz) i++hL a.sz (cs'.drop a.sz) i)) false) au ha;have Co:(cs'.drop a.sz).length=(cs'.drop a.sz).length/a.sz*a.sz:=by
         rw[List.length_drop,hlen];obtain⟨m,hm⟩:∃m,cs'.length/a.sz=m:=⟨_,rfl⟩;rw[hm];cases m with
         |zero=>simp
         |succ m=>rw[Nat.succ_mul,Nat.add_sub_cancel,Nat.mul_div_cancel _ eb]
        have bQ:(chunk a.sz (cs'.drop a.sz) i++hL a.sz (cs'.drop a.sz) i).length=(chunk a.sz (cs'.drop a.sz) i++hL a.sz (cs'.drop a.sz) i).length/a.sz*a.sz:=by
         rw[List.length_append,ZM hi,ZN Co hi,Nat.add_mul_div_right _ _ eb,Nat.div_self eb,Nat.add_mul];omega
        have agY:=Se (it:=true) (S:=S.var.bind false) (I6 gY) au oK agX cr cD bQ g1 a2;refine⟨_,_,ids,bw,a1,agY.put o.dst ?_,J1,((Ext.bind S ρ _ false).trans ((Ext.bind S.var _ _ false).trans (qW k false _))).put _ _⟩;simp only[a0];exact⟨_,rfl,_,_,rfl,⟨rfl,rfl⟩,_,_,rfl,trivial,_,_,rfl,trivial,rfl⟩
    ·cases h
   ·cases h
  ·cases h
theorem OP(l:List Int):bG (l.map (aa.int .i64))=true:=by
 induction l with
 |nil=>rfl
 |cons x l az=>simp only[List.map_cons,bG,az];rfl
theorem DH(cs:List aa):(lP cs).length=cs.length:=by simp[lP]
theorem NS(s:aA):s.after [] s.m=s:=by
 have:gV s.bg.a s.bb []=s.bb:=by cases s.bb<;>simp[gV]
 simp[aA.after,aa.sub,this]
theorem abj{c:Call}{f:Operand}{g:FuncId}{k:Nat}{a:c6}{fn:Func}(iB:Sc X.P g)(aE:o.op=.call c)(de:c.callee=.value f)(aQ:S.ay f=.fn g [])(hm:c.args.toList.map S.ay=[.own k])(au:S.bd.getD k none=some a)(bX:a.sz=1)(bh:a.born.still=true)
  (dX:X.P.funcs[g]?=some fn) (hs:¬(fn.name = "runtime.NumGoroutine" \/ fn.body.isNone=true)) (h:emit (.qz a.c) false S (λv S=>K ((S.dm k false { a with c:=v }).put o.dst .undef))=.ok t) (ad:Rel F S ρ ids s) (aB:bN X.P C n t ρ R):hM X F C n R K S ρ s o:=by
 obtain⟨bw,a1,rfl⟩:=ig h;obtain⟨v,ai,aB⟩:=aB.av;have eH:=ad.ay f;rw[aQ]at eH;unfold a0 at eH;obtain⟨aG,e,ak⟩:=eH;simp only[cJ]at ak;subst ak;have fR:=qX ad c.args.toList;rw[hm]at fR;obtain⟨q,ei,aO,aH,bQ⟩:=fR;simp only[jd]at bQ;subst bQ;unfold a0 at aH;obtain⟨a',cs,U,ab,al⟩:=aH;have:a'=a:=by have:=U.symm.trans au;injection this
 subst this;have h2:a'.c.den ρ=.agg cs:=ab.2.1;simp only[Prim.run,h2,Kv]at ai;split at ai
 case isFalse=>cases ai
 rename_i ah;injection ai with ai;subst ai;have cD:bG (lP cs)=true:=OP _;have hb:=ad.bind (.agg (lP cs)) false (by simp);obtain⟨g1,a2⟩:=fO ad (.agg (lP cs)) (by simpa only[aa.plain]using cD);have ha:=c6.rel.mono (Env.p0 S ρ ids (.agg (lP cs)) false) U ab;have hlen:(lP cs).length=(lP cs).length/a'.sz*a'.sz:=by rw[bX];simp
 refine⟨s,dW.refl s,?_⟩;simp only[eQ,aE,de,e];refine⟨⟨fn,dX,λe=>hs (.inl e),by cases hb:fn.body<;>simp[hb]at hs⊢⟩,?_⟩;rw[List.append_nil,aO];have fK:=ab.2.2.2.2.1;cases cr:ids k with
 |some id=>
  rw[show(S.env ρ ids).ids k=some id from cr,la (qM bh),bX]at al;rw[show(S.env ρ ids).ids k=some id from cr]at fK;simp only[Nat.div_one]at al;rw[al];refine gL.y (((iB cs s.m ah.1 ah.2).1 id).mono ?_);rintro v E m' ⟨rfl,rfl,rfl⟩;have qv:isNil (ρ++[.agg (lP cs)]) a'.born (lP cs)=some false:=by
   rw[Aj (ρ:=ρ) ab.2.2.2.2.2];have J2:isNil ρ a'.born cs=some false:=fK;cases hb:a'.born with
   |real=>rfl
   |cZ=>
    rw[hb]at J2;cases hcs:cs with
    |nil=>rw[hcs]at J2;simp[isNil]at J2
    |cons x xs=>
     cases ao:lP (x::xs)with
     |nil=>have:=DH (x::xs);rw[ao]at this;simp at this
     |cons _ _=>rfl
   |dyn y=>rw[hb]at bh;cases bh
   |map=>rw[hb]at bh;cases bh
   |it=>rw[hb]at bh;cases bh
  obtain⟨eh,r2⟩:=hb.gY (k:=k) (id:=id) (c':=.var S.cd) (all:=false) (EE:=nd id 0 (lP cs)) U ha cr (λe he=>by
    obtain⟨CO,u,hF,p,rfl⟩:=I5 he;exact⟨rfl,λn an=>AL n an u ((hH _).1 cD u hF).1⟩) g1 a2 hlen qv (λ_=>by
     rw[la (qM bh),la (qM bh)];simp only;rw[I4 id a'.sz _ _ _ cs ab.plain cD (by rw[DH];omega),DH];congr 1;simp[fa,DH])
  refine⟨_,_,ids,bw,a1,eh.put o.dst (v:=.undef) (by simp only[a0]),aB,((Ext.bind S ρ _ false).trans (qW k false _)).put _ _⟩
 |none=>
  rw[show(S.env ρ ids).ids k=none from cr,la (qM bh)]at al;rw[show(S.env ρ ids).ids k=none from cr]at fK;obtain⟨ix,hcs⟩:=Ht bh fK;subst hcs;simp only at al;rw[al];refine gL.y ((iB [] s.m ah.1 ah.2).2.mono ?_);rintro v E m' ⟨rfl,rfl,rfl⟩;rw[NS];have F6:lP []=[]:=by simp[lP]
  rw[F6]at hb g1 a2 ha aB;obtain⟨eh,r2⟩:=hb.KC (k:=k) (xid:=none) (c':=.var S.cd) (cs':=[]) (all:=false) (EE:=[]) U ha cr (λe he=>by cases he) g1 a2 (by simp) (by rw[ix];rfl) (λ_=>rfl);have bq:s.gY []=s:=by
   have:gV s.bg.a s.bb []=s.bb:=by cases s.bb<;>simp[gV]
   have fW:(λi=>(s.m.β i).sub [])=s.m.β:=by funext i;simp
   simp only[aA.gY,aa.Ed,this,fW]
  rw[bq]at eh;refine⟨_,_,ids,bw,a1,eh.put o.dst (v:=.undef) (by simp only[a0]),aB,((Ext.bind S ρ _ false).trans (qW k false _)).put _ _⟩
theorem abk{c:Call}{f:Operand}{g:FuncId}{k:Nat}{a:c6}{fn:Func}(iB:Sd X.P g)(aE:o.op=.call c)(de:c.callee=.value f)(aQ:S.ay f=.fn g [])(hm:c.args.toList.map S.ay=[.own k])(au:S.bd.getD k none=some a)(bX:a.sz=1)(bh:a.born.still=true)
  (dX:X.P.funcs[g]?=some fn) (hs:¬(fn.name = "runtime.NumGoroutine" \/ fn.body.isNone=true)) (h:emit (.qA a.born a.c) true S (λv S=>K ((S.dm k true a).put o.dst (.e v)))=.ok t) (ad:Rel F S ρ ids s) (aB:bN X.P C n t ρ R):hM X F C n R K S ρ s o:=by
 obtain⟨bw,a1,rfl⟩:=ig h;obtain⟨v,ai,S3⟩:=aB.av;have eH:=ad.ay f;rw[aQ]at eH;unfold a0 at eH;obtain⟨aG,e,ak⟩:=eH;simp only[cJ]at ak;subst ak;have fR:=qX ad c.args.toList;rw[hm]at fR;obtain⟨q,ei,aO,aH,bQ⟩:=fR;simp only[jd]at bQ;subst bQ;unfold a0 at aH;obtain⟨a',cs,U,ab,al⟩:=aH;have:a'=a:=by have:=U.symm.trans au;injection this
 subst this;have h2:a'.c.den ρ=.agg cs:=ab.2.1;have fK:isNil ρ a'.born cs=some (ids k).isNone:=ab.2.2.2.2.1;simp only[Prim.run,h2,Kw,fK]at ai;split at ai
 case isFalse=>cases ai
 rename_i ah;have xz:v.plain=true/\v.one=true:=by
  split at ai
  ·injection ai with ai;subst ai;exact⟨rfl,rfl⟩
  ·injection ai with ai;subst ai;exact⟨by simp only[aa.plain];exact OP _,rfl⟩
  ·cases ai
 have hb:=ad.bind v true (λ_=>xz.2);obtain⟨g1,a2⟩:=fO ad v xz.1;have ha:=c6.rel.mono (Env.p0 S ρ ids v true) U ab;refine⟨s,dW.refl s,?_⟩;simp only[eQ,aE,de,e];refine⟨⟨fn,dX,λe=>hs (.inl e),by cases hb:fn.body<;>simp[hb]at hs⊢⟩,?_⟩;rw[List.append_nil,aO];have hA:aR.ok (ρ++[v]) a'.c:=ha.1;have oT:aR.den (ρ++[v]) a'.c=.agg cs:=ha.2.1;cases cr:ids k with
 |some id=>
  rw[show(S.env ρ ids).ids k=some id from cr,la (qM bh),bX]at al;rw[cr]at ai fK;simp only[Nat.div_one]at al;simp only[Option.isNone_some,Option.some.injEq]at ai;rw[al];refine gL.y (((iB cs s.m ah.1 ah.2).1 id).mono ?_);rintro w E m' ⟨rfl,rfl,rfl⟩;obtain⟨eh,r2⟩:=hb.gY (k:=k) (id:=id) (c':=a'.c) (all:=true) (EE:=[.kill id]) U ha cr (λe he=>by simp only[List.mem_singleton]at he;subst he;exact⟨rfl,trivial⟩) hA oT ab.2.2.2.1 (by rw[Aj (ρ:=ρ) ab.2.2.2.2.2];exact fK) (λe=>by cases e);refine⟨_,_,ids,bw,a1,eh.put o.dst (v:=.e (.var S.cd)) ?_,S3,((Ext.bind S ρ _ true).trans (qW k true _)).put _ _⟩;simp only[a0];exact⟨ai.trans a2.symm,g1⟩
 |none=>
  rw[show(S.env ρ ids).ids k=none from cr,la (qM bh)]at al;rw[cr]at ai fK;obtain⟨ix,hcs⟩:=Ht bh fK;subst hcs;simp only[Option.isNone_none,Option.some.injEq]at ai;simp only at al;rw[al];refine gL.y ((iB [] s.m ah.1 ah.2).2.mono ?_);rintro w E m' ⟨rfl,rfl,rfl⟩;rw[NS];obtain⟨eh,r2⟩:=hb.KC (k:=k) (xid:=none) (c':=a'.c) (cs':=[]) (all:=true) (EE:=[]) U ha cr (λe he=>by cases he) hA oT (by simp) (by rw[ix];rfl) (λ_=>rfl);have bq:s.gY []=s:=by
   have:gV s.bg.a s.bb []=s.bb:=by cases s.bb<;>simp[gV]
   have fW:(λi=>(s.m.β i).sub [])=s.m.β:=by funext i;simp
   simp only[aA.gY,aa.Ed,this,fW]
  rw[bq]at eh;refine⟨_,_,ids,bw,a1,eh.put o.dst (v:=.e (.var S.cd)) ?_,S3,((Ext.bind S ρ _ true).trans (qW k true _)).put _ _⟩;simp only[a0];exact⟨ai.trans a2.symm,g1⟩
end
end
section
open Go Go.RowKit
variable[cQ]
def SS(X:Ctx)(C:b2->FuncId->List aa->Option aa)(n:Nat)(inl:fh):Prop:=
 ∀(F:cP)(R:Out->Prop)(f:FuncId)(h:Operand)(ps:Array Tmp)(a b:Code)(p:Nat)(K:eJ->Sym->M)(S:Sym)(ρ:List aa)(ids:Nat->Option Nat)(s:aA)(t:Tree),
  F.P=X.P->jq X.P F.DI C->mu X.P F.DI X.hI->p7 X F.DI C->HK X inl f h ps a b p S K=.ok t->Rel F S ρ ids s->bN X.P C n t ρ R ->
  ff X.P (.rangeFunc h ps a b) s λe s'=>hS X F C n R (K e) S ρ s'
structure ri(X:Ctx)(DI:List aa->Prop)(C:b2->FuncId->List aa->Option aa)(n:Nat)(c5 ajD:fh):Prop where
 c:jq X.P DI C
 new:mu X.P DI X.hI
 inl:JR X C n c5
 yl:JS X C n ajD
 tN:SS X C n c5
 own:∀g r,mW X.nb g=some r->wi X.P DI C g r.1
section
variable{X:Ctx}{F:cP}{C:b2->FuncId->List aa->Option aa}{n:Nat}{R:Out->Prop}{S:Sym}{ρ:List aa}{ids:Nat->Option Nat}{s:aA}{K:Sym->M}{t:Tree}{o:Oper}{m0:Mem}{inl yl:fh}{lx:Option Nat}{key:Nat}{E:Env}
theorem EO{α β:Type}{x:Except String α}{f:α->β}{b:β}(h:Except.map f x=.ok b):∃a,x=.ok a/\f a=b:=by
 cases x with
 |error e=>cases h
 |ok a=>exact⟨a,rfl,by simpa[Except.map]using h⟩
theorem yH{α β:Type}{x:Except String α}{f:α->Except String β}{b:β}(h:(x >>= f)=.ok b):∃a,x=.ok a/\f a=.ok b:=by
 cases x with
 |error e=>cases h
 |ok a=>exact⟨a,rfl,h⟩
theorem abi{c:Call}{f:Operand}(aw:F.P=X.P)(aq:ri X F.DI C n inl yl)(aE:o.op=.call c)(de:c.callee=.value f)(h:AK X inl yl none key o f c.args.toList S K=.ok t)(ad:Rel F S ρ ids s)(aB:bN X.P C n t ρ R):hM X F C n R K S ρ s o:=by
 unfold AK at h;split at h
 ·rename_i g caps aQ;split at h
  ·rename_i fn dX;split at h
   ·cases h
   ·rename_i hs;split at h
    ·rename_i aN;simp only[Option.isSome_none,Bool.false_eq_true,if_false]at h;refine AO h ad aB λS ρ ids s t h ad aB=>?_;split at h
     ·rename_i g' _ p pJ ae;split at h
      ·rename_i CB;exact abh aq.new aE de (by rw[pJ,CB,aN]) ae (by rw[←aN];exact dX) hs h ad aB
      ·cases h
     ·cases h
    ·split at h
     ·rename_i agT;simp only[Option.isSome_none,Bool.false_eq_true,if_false]at h;split at h
      ·rename_i k qb;split at h
       ·rename_i a au;split at h
        ·rename_i ah;exact abj (aq.new.qz _ agT) aE de aQ qb au ah.1 ah.2 dX hs h ad aB
        ·cases h
       ·cases h
      ·cases h
     split at h
     ·rename_i agU;simp only[Option.isSome_none,Bool.false_eq_true,if_false]at h;split at h
      ·rename_i k qb;split at h
       ·rename_i a au;split at h
        ·rename_i ah;exact abk (aq.new.qA _ agU) aE de aQ qb au ah.1 ah.2 dX hs h ad aB
        ·cases h
       ·cases h
      ·cases h
     split at h
     ·exact ac3 aw aq.c aq.new aq.own aq.inl aE de aQ dX hs h ad aB
     ·refine AO h ad aB λS ρ ids s t h ad aB=>?_;split at h
      ·rename_i g' afq pJ;split at h
       ·rename_i CB;subst CB;split at h
        ·rename_i ps gy;obtain⟨bw,a1,h⟩:=EO h;have eH:=ad.ay f;rw[pJ]at eH;unfold a0 at eH;obtain⟨aG,e,ak⟩:=eH;subst h;obtain⟨U,ab⟩:=aB.call;have au:=uo (m0:=s.m) (lx:=none) ad rfl ⟨Nat.le_refl _,λ_ _=>rfl⟩ gy (Ak (qX ad _) (yj ak));have plain:K (S.var.put o.dst (.e (.var S.cd)))=.ok bw->hM X F C n R K S ρ s o:=λa1=>
          Mt (args:=ps) (args':=[]) aq.c aE de e (by rw[List.append_nil];exact au) (by rw[List.append_nil];exact U) (by rw[List.append_nil];exact ab) ad a1
         split at a1
         ·rename_i r Bq;split at a1
          ·refine⟨s,dW.refl s,?_⟩;simp only[eQ,aE,de,e];obtain⟨v0,pD⟩:=Option.isSome_iff_exists.1 (U gP);refine⟨aq.c.fn _ _ _ _ pD,((aq.own g' r Bq _ U _ s.m au).mono ?_).y⟩;rintro v E m' ⟨p,ω,ai,ae,rfl,eX,l7,ar⟩;have KD:s.after [] m'={ s with m:=m' }:=by
            have:gV s.bg.a s.bb []=s.bb:=by cases s.bb<;>simp[gV]
            simp[aA.after,aa.sub,this]
           rw[KD];obtain⟨pK,pL,uZ,tO,k1,bf,bP,cX⟩:=NP (X:=X) a1 ad (ab ω p ai) ae ar eX l7;exact⟨pK,pL,uZ,tO,k1,bf,bP,cX⟩
          ·split at a1
           ·rename_i aj;simp at aj
           ·exact plain a1
         ·exact plain a1
        ·cases h
       ·cases h
      ·cases h
  ·cases h
 ·simp only[Option.isSome_none,Bool.false_and,Bool.false_eq_true,if_false]at h;refine AO h ad aB λS ρ ids s t h ad aB=>?_;split at h
  ·rename_i x aj;split at h
   ·rename_i ps gy;obtain⟨bw,a1,h⟩:=EO h;subst h;obtain⟨g,caps,e,U,ab⟩:=aB.kL;have eH:=ad.ay f;rw[aj]at eH;unfold a0 at eH;have e':s.ay f=.fn g caps:=by rw[eH.1];exact e
    have cD:(s.ay f).plain=true:=by rw[eH.1];exact aR.jJ eH.2
    rw[e']at cD;have LG:bG caps=true:=by simpa only[aa.plain]using cD
    have au:=uo (m0:=s.m) (lx:=none) ad rfl ⟨Nat.le_refl _,λ_ _=>rfl⟩ gy (qX ad _);have iu:∀{a a':List aa}{b:List aa},im F.DI s.m a a'->bG b=true->im F.DI s.m (a++b) (a'++b):=by
     intro a;induction a with
     |nil=>
      intro a' b h hb;simp only[im]at h;subst h;induction b with
      |nil=>rfl
      |cons q b az=>
       simp only[bG,Bool.and_eq_true]at hb;exact⟨q,b,rfl,.inl ⟨rfl,hb.1.1⟩,az hb.2⟩
     |cons p a az=>
      rintro a' b ⟨q,aG,rfl,U,ab⟩ hb;exact⟨q,aG++b,rfl,U,az ab hb⟩
    exact Mt aq.c aE de e' (iu au LG) U ab ad a1
   ·cases h
  ·cases h
 ·rename_i y aQ;simp only[Option.isSome_none,Bool.false_eq_true,if_false]at h;exact ac4 aw aq.c aq.new aq.own aq.yl aE de aQ h ad aB
 ·cases h
theorem aeb(aw:F.P=X.P)(aq:ri X F.DI C n inl yl)(h:sQ X inl yl none key o S K=.ok t)(ad:Rel F S ρ ids s)(aB:bN X.P C n t ρ R):hM X F C n R K S ρ s o:=by
 unfold sQ at h;split at h
 ·rename_i x aE;exact jI (by simp[aE]) (ic h ad aB (by simp only[bV,aE]) (ad.ay x))
 ·rename_i x aE;exact jI (by simp[aE]) (ic h ad aB (by simp only[bV,aE]) (ad.ay x))
 ·rename_i c x y aE;exact jI (by simp[aE]) (Q1 aE h ad aB)
 ·rename_i op ty x y Gl aE;split at h
  ·rename_i p q ae aH;exact jI (by simp[aE]) (R2 aE ae aH h ad aB)
  ·cases h
 ·rename_i ty x aE;split at h
  ·rename_i b ae;obtain⟨e,_⟩:=ad.cu ae;exact jI (by simp[aE]) (ic h ad aB (pv:=.bool !b) (by simp only[bV,aE,e];rfl) (by unfold a0;exact⟨rfl,rfl⟩))
  ·rename_i p _ ae;exact jI (by simp[aE]) (E9 aE ae h ad aB)
  ·cases h
 ·rename_i op ty x _ aE;split at h
  ·rename_i p ae;exact jI (by simp[aE]) (E9 aE ae h ad aB)
  ·cases h
 ·rename_i a b x aE;split at h
  ·rename_i p ae;exact jI (by simp[aE]) (Q4 aE ae h ad aB)
  ·cases h
 ·rename_i x aE;exact jI (by simp[aE]) (R0 aE h ad aB)
 ·rename_i x i aE;exact jI (by simp[aE]) (R1 aE h ad aB)
 ·rename_i ty x f aE;exact jI (by simp[aE]) (PN aE h ad aB)
 ·rename_i ty x f aE;exact jI (by simp[aE]) (OM aE h ad aB)
 ·rename_i ty x i aE;exact jI (by simp[aE]) (MI aE h ad aB)
 ·rename_i ty x i aE;split at h
  ·rename_i p q ae aH;exact jI (by simp[aE]) (PO aE ae aH h ad aB)
  ·cases h
 ·rename_i ty x aE;exact jI (by simp[aE]) (Q3 (lx:=none) aE h ad rfl aB)
 ·rename_i ty x y aE;exact ZI aE h ad aB
 ·rename_i ty x aE;exact ac2 aE h ad aB
 ·rename_i ty aE;split at h
  ·rename_i z bO;split at h
   ·rename_i ae;exact ZG aE bO ae h ad aB
   ·cases h
  ·cases h
 ·rename_i ty parts aE;exact jI (by simp[aE]) (PQ aE h ad aB)
 ·rename_i ty len parts aE;exact VL aE h ad aB
 ·rename_i ty l c aE;exact abf aE h ad aB
 ·rename_i ty x lo hi aE;unfold HS at h;refine AO h ad aB λS ρ ids s t h ad aB=>?_;split at h
  ·rename_i p a b ae au hb;exact jI (by simp[aE]) (ok_slice aE ae au hb h ad aB)
  ·cases h
 ·rename_i f first caps aE
  split at h
  ·cases h
  ·rename_i ah;have U:first.size=0:=Classical.byContradiction λe=>ah (.inl e);have ab:(caps.toList.all λx=>(S.ay x).yN S)=true:=by
    cases bq:(caps.toList.all λx=>(S.ay x).yN S)with
    |true=>rfl
    |false=>exact absurd (.inr bq) ah
   exact jI (by simp[aE]) (M9 aE U h ab ad aB)
 ·rename_i c aE;split at h
  ·rename_i f de;exact abi aw aq aE de h ad aB
  ·rename_i de;split at h
   ·rename_i ty x a1 aj;exact jI (by simp[aE]) (R6 aE de a1 aj h ad aB)
   ·cases h
  ·rename_i de;split at h
   ·rename_i l ak;exact jI (by simp[aE]) (R4 aE de ak h ad aB)
   ·cases h
  ·rename_i de;split at h
   ·rename_i l ak;exact jI (by simp[aE]) (R5 aE de ak h ad aB)
   ·cases h
  ·rename_i de;split at h
   ·rename_i ty Gl x y dA F2;split at h
    ·rename_i e;subst e;exact Yh aE de dA F2 h ad aB
    ·cases h
   ·cases h
  ·cases h
 ·rename_i ty r aE;exact Xd aE h ad aB
 ·rename_i ty m k x aE;exact Wc aE h ad aB
 ·rename_i ty x aE;exact Yi aE h ad aB
 ·rename_i x str aE;exact abl aE h ad aB
 ·rename_i x aE;exact ZK aE h ad aB
 ·simp only[pure,Except.pure,Except.ok.injEq]at h;subst h;obtain⟨o,ar,_⟩:=aB gP;simp[eval]at ar
 ·simp only[pure,Except.pure,Except.ok.injEq]at h;subst h;obtain⟨o,ar,_⟩:=aB gP;simp[eval]at ar
 ·cases h
end
end
end Go.Proofs.YtlminnpaeaganaaGreat
