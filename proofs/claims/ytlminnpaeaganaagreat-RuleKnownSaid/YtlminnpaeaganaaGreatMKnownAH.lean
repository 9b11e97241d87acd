/- Part of the proof of RuleKnown. No condition. -/
import Derived.ProofKit
import Derived.Below
import Derived.ChangeSame
import Derived.Carry
import Derived.WideKeyArgs
import Derived.WalkKit
import Derived.Conc.Own
import Derived.Test.YtlminnpaeaganaaGreatMKnownAF
import Derived.Test.YtlminnpaeaganaaGreatMKnownAG
namespace Go.Proofs.YtlminnpaeaganaaGreat
set_option maxRecDepth 100000
set_option linter.all false
section
open Go Go.RowKit
variable[cQ]
theorem hH(l:List aa):bG l=true↔∀p∈l,p.plain=true/\p.one=true:=by
 induction l with
 |nil=>trivial
 |cons p a7 az=>grind [bG]
theorem X9(l:List aa):jO l=true↔∀p∈l,p.plain=true:=by
 induction l with
 |nil=>trivial
 |cons p a7 az=>simp[jO,az]
mutual
theorem Dn(e:b9):∀p:aa,p.plain=true->p.bW e=p
 |.int _ _,_ | .bool _,_ | .str _,_ | .ca,_ | .eL,_ | .bC,_=>by simp only[aa.bW]
 |.undef,h | .bad,h | .dead _,h | .cq _,h | .ptr _ _,h | .aV _ _ _,h=>by simp[aa.plain]at h
 |.mp _ (some _) _ _,h=>by simp[aa.plain]at h
 |.mp _ none _ _,h=>by simp only[aa.bW]
 |.sl none _ _ _ cs,h=>by simp only[aa.bW,pS e cs (by simpa only[aa.plain]using h)]
 |.sl (some _) _ _ _ cs,h=>by simp[aa.plain]at h
 |.bJ none _ cs,h=>by simp only[aa.bW,pS e cs (by simpa only[aa.plain]using h)]
 |.bJ (some _) _ cs,h=>by simp[aa.plain]at h
 |.fn _ cs,h=>by simp only[aa.bW,pS e cs (by simpa only[aa.plain]using h)]
 |.agg cs,h=>by simp only[aa.bW,pS e cs (by simpa only[aa.plain]using h)]
 |.bD cs,h=>by simp only[aa.bW,M5 e cs (by simpa only[aa.plain]using h)]
theorem pS(e:b9):∀l:List aa,bG l=true->eF e l=l
 |[],_=>rfl
 |p::a7,h=>by
  simp only[bG,Bool.and_eq_true]at h;simp only[eF,Dn e p h.1.1,pS e a7 h.2]
theorem M5(e:b9):∀l:List aa,jO l=true->eF e l=l
 |[],_=>rfl
 |p::a7,h=>by
  simp only[jO,Bool.and_eq_true]at h;simp only[eF,Dn e p h.1,M5 e a7 h.2]
end
mutual
theorem HT(id:Nat):∀p:aa,p.plain=true->p.bK id=p
 |.int _ _,_ | .bool _,_ | .str _,_ | .ca,_ | .eL,_ | .bC,_=>by simp only[aa.bK]
 |.undef,h | .bad,h | .dead _,h | .cq _,h | .ptr _ _,h | .aV _ _ _,h=>by simp[aa.plain]at h
 |.mp _ (some _) _ _,h=>by simp[aa.plain]at h
 |.mp _ none _ _,h=>by simp only[aa.bK]
 |.sl none _ _ _ cs,h=>by simp only[aa.bK,um id cs (by simpa only[aa.plain]using h)]
 |.sl (some _) _ _ _ cs,h=>by simp[aa.plain]at h
 |.bJ none _ cs,h=>by simp only[aa.bK,um id cs (by simpa only[aa.plain]using h)]
 |.bJ (some _) _ cs,h=>by simp[aa.plain]at h
 |.fn _ cs,h=>by simp only[aa.bK,um id cs (by simpa only[aa.plain]using h)]
 |.agg cs,h=>by simp only[aa.bK,um id cs (by simpa only[aa.plain]using h)]
 |.bD cs,h=>by simp only[aa.bK,NI id cs (by simpa only[aa.plain]using h)]
theorem um(id:Nat):∀l:List aa,bG l=true->iW id l=l
 |[],_=>rfl
 |p::a7,h=>by
  simp only[bG,Bool.and_eq_true]at h;simp only[iW,HT id p h.1.1,um id a7 h.2]
theorem NI(id:Nat):∀l:List aa,jO l=true->iW id l=l
 |[],_=>rfl
 |p::a7,h=>by
  simp only[jO,Bool.and_eq_true]at h;simp only[iW,HT id p h.1,NI id a7 h.2]
end
mutual
theorem Df(n:Nat):∀p:aa,p.plain=true->p.cH n=p
 |.int _ _,_ | .bool _,_ | .str _,_ | .ca,_ | .eL,_ | .bC,_=>by simp only[aa.cH]
 |.undef,h | .bad,h | .dead _,h | .cq _,h | .ptr _ _,h | .aV _ _ _,h=>by simp[aa.plain]at h
 |.mp _ (some _) _ _,h=>by simp[aa.plain]at h
 |.mp _ none _ _,h=>by simp only[aa.cH]
 |.sl none _ _ _ cs,h=>by simp only[aa.cH,ox n cs (by simpa only[aa.plain]using h)]
 |.sl (some _) _ _ _ cs,h=>by simp[aa.plain]at h
 |.bJ none _ cs,h=>by simp only[aa.cH,ox n cs (by simpa only[aa.plain]using h)]
 |.bJ (some _) _ cs,h=>by simp[aa.plain]at h
 |.fn _ cs,h=>by simp only[aa.cH,ox n cs (by simpa only[aa.plain]using h)]
 |.agg cs,h=>by simp only[aa.cH,ox n cs (by simpa only[aa.plain]using h)]
 |.bD cs,h=>by simp only[aa.cH,M6 n cs (by simpa only[aa.plain]using h)]
theorem ox(n:Nat):∀l:List aa,bG l=true->iR n l=l
 |[],_=>rfl
 |p::a7,h=>by
  simp only[bG,Bool.and_eq_true]at h;simp only[iR,Df n p h.1.1,ox n a7 h.2]
theorem M6(n:Nat):∀l:List aa,jO l=true->iR n l=l
 |[],_=>rfl
 |p::a7,h=>by
  simp only[jO,Bool.and_eq_true]at h;simp only[iR,Df n p h.1,M6 n a7 h.2]
end
mutual
theorem Ag(n an:Nat):∀p:aa,p.plain=true->p.anon n an=p
 |.int _ _,_ | .bool _,_ | .str _,_ | .ca,_ | .eL,_ | .bC,_=>by simp only[aa.anon]
 |.undef,h | .bad,h | .dead _,h | .cq _,h | .ptr _ _,h | .aV _ _ _,h=>by simp[aa.plain]at h
 |.mp _ (some _) _ _,h=>by simp[aa.plain]at h
 |.mp _ none _ _,h=>by simp only[aa.anon]
 |.sl none _ _ _ cs,h=>by simp only[aa.anon,vZ n an cs (by simpa only[aa.plain]using h)]
 |.sl (some _) _ _ _ cs,h=>by simp[aa.plain]at h
 |.bJ none _ cs,h=>by simp only[aa.anon,vZ n an cs (by simpa only[aa.plain]using h)]
 |.bJ (some _) _ cs,h=>by simp[aa.plain]at h
 |.fn _ cs,h=>by simp only[aa.anon,vZ n an cs (by simpa only[aa.plain]using h)]
 |.agg cs,h=>by simp only[aa.anon,vZ n an cs (by simpa only[aa.plain]using h)]
 |.bD cs,h=>by simp only[aa.anon,M7 n an cs (by simpa only[aa.plain]using h)]
theorem vZ(n an:Nat):∀l:List aa,bG l=true->kK n an l=l
 |[],_=>rfl
 |p::a7,h=>by
  simp only[bG,Bool.and_eq_true]at h;simp only[kK,Ag n an p h.1.1,vZ n an a7 h.2]
theorem M7(n an:Nat):∀l:List aa,jO l=true->kK n an l=l
 |[],_=>rfl
 |p::a7,h=>by
  simp only[jO,Bool.and_eq_true]at h;simp only[kK,Ag n an p h.1,M7 n an a7 h.2]
end
mutual
theorem AL(n an:Nat):∀p:aa,p.plain=true->p.cT n an
 |.int _ _,_ | .bool _,_ | .str _,_ | .ca,_ | .eL,_ | .bC,_=>by simp only[aa.cT]
 |.undef,h | .bad,h | .dead _,h | .cq _,h | .ptr _ _,h | .aV _ _ _,h=>by simp[aa.plain]at h
 |.mp _ (some _) _ _,h=>by simp[aa.plain]at h
 |.mp _ none _ _,h=>by simp only[aa.cT]
 |.sl none _ _ _ cs,h=>by simp only[aa.cT];exact yu n an cs (by simpa only[aa.plain]using h)
 |.sl (some _) _ _ _ cs,h=>by simp[aa.plain]at h
 |.bJ none _ cs,h=>by simp only[aa.cT];exact yu n an cs (by simpa only[aa.plain]using h)
 |.bJ (some _) _ cs,h=>by simp[aa.plain]at h
 |.fn _ cs,h=>by simp only[aa.cT];exact yu n an cs (by simpa only[aa.plain]using h)
 |.agg cs,h=>by simp only[aa.cT];exact yu n an cs (by simpa only[aa.plain]using h)
 |.bD cs,h=>by simp only[aa.cT];exact OI n an cs (by simpa only[aa.plain]using h)
theorem yu(n an:Nat):∀l:List aa,bG l=true->e5 n an l
 |[],_=>by simp only[e5]
 |p::a7,h=>by
  simp only[bG,Bool.and_eq_true]at h;simp only[e5];exact⟨AL n an p h.1.1,yu n an a7 h.2⟩
theorem OI(n an:Nat):∀l:List aa,jO l=true->e5 n an l
 |[],_=>by simp only[e5]
 |p::a7,h=>by
  simp only[jO,Bool.and_eq_true]at h;simp only[e5];exact⟨AL n an p h.1,OI n an a7 h.2⟩
end
theorem OJ(E:List b9){p:aa}(h:p.plain=true):p.sub E=p:=by
 induction E with
 |nil=>rfl
 |cons e E az=>grind [aa.sub,Dn]
def aR.ok(ρ:List aa):aR->Prop
 |.var i=>(ρ.getD i .bad).plain=true
 |.proj e j=>e.ok ρ/\(cM (e.den ρ) j).plain=true
 |.bu v=>v.plain=true
theorem aR.jJ{ρ:List aa}{x:aR}(h:x.ok ρ):(x.den ρ).plain=true:=by
 cases x with
 |var i=>exact h
 |proj e j=>exact h.2
 |bu v=>exact h
theorem Zz{v:aa}{j:Nat}(h:v.plain=true)(ae:(cM v j).plain=true):(cM v j).one=true:=by
 unfold cM at *;grind [aa.plain,hH]
theorem W5{ρ b1:List aa}(h:ρ<+:b1){i:Nat}(ae:(ρ.getD i .bad).plain=true):b1.getD i .bad=ρ.getD i .bad:=by
 obtain⟨t,rfl⟩:=h;grind [aa.plain]
theorem aR.j9{ρ b1:List aa}(h:ρ<+:b1):∀{x:aR},x.ok ρ->x.den b1=x.den ρ/\x.ok b1
 |.var i,aj=>by
  have e:=W5 h aj;exact⟨e,by grind [aR.ok]⟩
 |.proj x j,aj=>by
  obtain⟨e,k⟩:=aR.j9 h aj.1;have aO:aR.den b1 (.proj x j)=aR.den ρ (.proj x j):=by simp only[aR.den,e]
  exact⟨aO,k,by rw[e];exact aj.2⟩
 |.bu v,aj=>⟨rfl,aj⟩
structure cP where
 P:Program
 n0:Nat
 hG:Nat
 lH:Nat->di
 d0:Nat
 DI:List aa->Prop
 cV:TN
 UF:Nat->Option c6
 TC:Nat->Option Nat
 kv:List (Nat×Loop)
 GI:List aa
structure Env where
 ρ:List aa
 bd:List (Option c6)
 fw:Nat
 ids:Nat->Option Nat
def mO(b:e9)(id:Option Nat)(sz:Nat)(cs:List aa):aa:=match id with
 |some id=>match b with
  |.map=>.mp false (some id) sz cs
  |.it=>.mp true (some id) sz cs
  |_=>.sl (some id) sz 0 (cs.length/sz) cs
 |none=>.bC
def c6.rel(E:Env)(k:Nat)(a:c6)(cs:List aa):Prop:=
 a.c.ok E.ρ/\a.c.den E.ρ=.agg cs/\0<a.sz/\cs.length=cs.length/a.sz*a.sz/\isNil E.ρ a.born cs=some (E.ids k).isNone/\(∀x,a.born=.dyn x->x.ok E.ρ)
mutual
def bZ(F:cP)(E:Env):aL->aa->Prop
 |.e x,q=>q=x.den E.ρ/\x.ok E.ρ
 |.undef,q=>q=.undef
 |.bT,_=>True
 |.ptr i o,q=>q=.ptr (F.n0+i) o/\i<E.fw
 |.aV i o z,q=>q=.aV (F.n0+i) o z/\i<E.fw
 |.c8,q=>q=.ptr F.d0 0/\F.d0<F.n0/\F.lH F.d0=.inv F.DI
 |.cq y,q=>∃l,F.cV.ys[y]?.map eN.l=some l/\q=.cq l
 |.own k,q=>∃a cs,E.bd.getD k none=some a/\a.rel E k cs/\q=mO a.born (E.ids k) a.sz cs
 |.fF k x fo,q=>∃a cs id n gJ,E.bd.getD k none=some a/\a.rel E k cs/\E.ids k=some id/\x.den E.ρ=.int gJ n/\x.ok E.ρ/\0<=n/\n.toNat<cs.length/a.sz/\q=.bJ (some id) (n.toNat*a.sz+fo) (cs.drop (n.toNat*a.sz+fo))
 |.fQ x sz fo,q=>∃cs off lI,x.den E.ρ=.agg cs/\x.ok E.ρ/\cs.length=sz/\q=.bJ none off (cs.drop fo++lI)
 |.ft l fo,q=>∃aG,cJ F E l aG/\bG aG=true/\q=.bJ none fo (aG.drop fo)
 |.fn f l,q=>∃aG,q=.fn f aG/\cJ F E l aG
 |.agg l,q=>∃aG,q=.agg aG/\cJ F E l aG
 |.bD l,q=>∃aG,q=.bD aG/\hk F E l aG
 |.lit sz len l,q=>∃aG,q=.sl none sz 0 len aG/\cJ F E l aG/\bG aG=true/\aG.length=len*sz
def cJ(F:cP)(E:Env):List aL->List aa->Prop
 |[],l=>l=[]
 |v::af,l=>∃q aG,l=q::aG/\bZ F E v q/\(v=.bT\/q.one=true)/\cJ F E af aG
def hk(F:cP)(E:Env):List aL->List aa->Prop
 |[],l=>l=[]
 |v::af,l=>∃q aG,l=q::aG/\bZ F E v q/\hk F E af aG
end
def vQ(F:cP)(E:Env):ga->di->Prop
 |.cells l,c=>∃aG,c=.cells aG/\cJ F E l aG
 |.c8,c=>c=.inv F.DI
 |.gone,_=>True
def Sym.env(S:Sym)(ρ:List aa)(ids:Nat->Option Nat):Env:=⟨ρ,S.bd,S.bx.length,ids⟩
mutual
def aL.jS:aL->aL
 |.own _=>.bT
 |.fF _ _ _=>.bT
 |.fn f l=>.fn f (q3 l)
 |.ft l o=>.ft (q3 l) o
 |.agg l=>.agg (q3 l)
 |.bD l=>.bD (q3 l)
 |.lit a b l=>.lit a b (q3 l)
 |.e y=>.e y
 |.undef=>.undef
 |.bT=>.bT
 |.ptr i o=>.ptr i o
 |.aV i o z=>.aV i o z
 |.c8=>.c8
 |.cq a=>.cq a
 |.fQ y s fo=>.fQ y s fo
def q3:List aL->List aL
 |[]=>[]
 |v::l=>v.jS::q3 l
end
def cj.now(y:cj)(r:eN):Nat×Loop:=(r.l,{ r.o with state:=if y.busy then .busy else if y.pend.isSome then .done else .ready,pending:=iH (xl y.pend) })
structure zL(F:cP)(y:cj)(r:eN):Prop where
 a7:r.o.params.toList=y.a7
 kV:r.o.assign=y.kV
 body:r.o.body=y.body
 lt:∀p∈y.a7,p<r.o.tmps.size
 LY:hr r.o.tmps.size y.kV=true
 LZ:hr r.o.tmps.size y.body=true
 own:∀t,(cF y.g t).jS=cF y.g t
 g:∀t,bZ F ⟨F.GI,[],F.cV.n-F.n0,λ_=>none⟩ (cF y.g t) (r.g t)
structure lW(F:cP)(ys:List cj)(ρ:List aa)(rc:List (Nat×Loop)):Prop where
 pre:F.GI<+:ρ
 len:ys.length=F.cV.ys.length
 rc:rc=List.zipWith cj.now ys F.cV.ys++F.kv
 y:∀(i:Nat) y r,ys[i]?=some y->F.cV.ys[i]?=some r->zL F y r
 ne:∀(i j:Nat) r bR,F.cV.ys[i]?=some r->F.cV.ys[j]?=some bR->r.l=bR.l->i=j
 zK:∀r∈F.cV.ys,∀p∈F.kv,p.1≠r.l
theorem lW.mono{F:cP}{ys:List cj}{ρ b1:List aa}{rc:List (Nat×Loop)}(h:lW F ys ρ rc)(k:ρ<+:b1):lW F ys b1 rc:=⟨h.pre.trans k,h.len,h.rc,h.y,h.ne,h.zK⟩
theorem lW.push{F:cP}{ys:List cj}{ρ l:List aa}{rc:List (Nat×Loop)}(h:lW F ys ρ rc):lW F ys (ρ++l) rc:=h.mono (List.prefix_append _ _)
structure Rel(F:cP)(S:Sym)(ρ:List aa)(ids:Nat->Option Nat)(s:aA):Prop where
 len:ρ.length=S.cd
 cU:∀i,i∈S.cU->(ρ.getD i .bad).one=true
 slot:∀t,bZ F (S.env ρ ids) (S.get t) (s.g t)
 dt:s.m.n=F.n0+S.bx.length
 old:∀i,i<F.n0->s.m.β i=F.lH i
 box:∀i b,S.bx[i]?=some b->vQ F (S.env ρ ids) b (s.m.β (F.n0+i))
 hO:∀k id,ids k=some id->F.hG<=id/\id<s.m.an/\k<S.bd.length
 mv:∀k j id,ids k=some id->ids j=some id->k=j
 arr:∀k a,S.bd.getD k none=some a->∃cs,a.rel (S.env ρ ids) k cs
 a0:s.a0=F.cV
 cV:F.hG<=F.cV.a/\F.n0<=F.cV.n
 kY:∀e∈s.bb,F.hG<=e.id/\e.clean
 bb:S.bb=false\/F.hG=F.cV.a->s.bb=[]
 new:S.bb=false->∀k id,ids k=some id->S.base<=k->F.cV.a<=id
 keep:S.bb=false->∀k,k<S.base->S.bd.getD k none=F.UF k/\ids k=F.TC k
 dO:F.cV.n=F.n0+S.dO
 lG:S.base<=S.bd.length
 mS:S.dO<=S.bx.length
 an:F.cV.a<=s.m.an
 kZ:∀i l,i<F.n0->F.lH i=.cells l->e5 F.n0 F.hG l
 rc:lW F S.ys ρ s.m.rc
theorem Rel.S1{F:cP}{S:Sym}{ρ:List aa}{ids:Nat->Option Nat}{s:aA}(h:Rel F S ρ ids s){k id:Nat}(cr:ids k=some id)(he:(S.bb||decide (k<S.base))=false\/F.hG=F.cV.a):F.cV.a<=id:=by
 rcases he with he|he
 ·simp  at he;exact h.new he.1 k id cr (by omega)
 ·rw[←he];exact(h.hO k id cr).1
theorem A9{a b:Bool}{p:Prop}(h:(a||b)=false\/p):a=false\/p:=h.imp_left λh=>by grind
section
variable{F:cP}{E E':Env}
theorem jL:∀{l:List aL}{aG:List aa},cJ F E l aG↔l.length=aG.length/\∀(j:Nat) v q,l[j]?=some v->aG[j]?=some q->bZ F E v q/\(v=.bT\/q.one=true)
 |[],aG=>by grind [cJ]
 |v::af,[]=>by simp[cJ]
 |v::af,q::bz=>by
  simp[cJ];constructor
  ·rintro⟨dF,aG,⟨rfl,rfl⟩,aT,U,ab⟩;rw[jL]at ab;grind
  ·rintro⟨ak,h⟩;obtain⟨aT,U⟩:=h 0 v q (by simp) (by simp);exact⟨q,bz,⟨rfl,rfl⟩,aT,U,jL.2 ⟨by grind,λj u r aC ad=>h (j+1) u r (by grind) (by grind)⟩⟩
theorem mi{l:List aL}{aG:List aa}(h:cJ F E l aG):l.length=aG.length:=(jL.1 h).1
theorem c6.EK{k:Nat}{a:c6}{cs cs':List aa}(h:a.rel E k cs)(bc:a.rel E k cs'):cs=cs':=by
 have:=h.2.1.symm.trans bc.2.1;grind
end
structure Env.le(E E':Env):Prop where
 ρ:E.ρ<+:E'.ρ
 bd:∀k a,E.bd.getD k none=some a->E'.bd.getD k none=some a
 fw:E.fw<=E'.fw
 ids:∀k a,E.bd.getD k none=some a->E'.ids k=E.ids k
theorem Env.le.refl(E:Env):E.le E:=⟨List.prefix_refl _,λ_ _ h=>h,Nat.le_refl _,λ_ _ _=>rfl⟩
theorem Env.le.trans{E nJ Vt:Env}(h:E.le nJ)(k:nJ.le Vt):E.le Vt:=
 ⟨h.ρ.trans k.ρ,λi a e=>k.bd i a (h.bd i a e),Nat.le_trans h.fw k.fw,λi a e=>(k.ids i a (h.bd i a e)).trans (h.ids i a e)⟩
theorem yd{ρ b1:List aa}(h:ρ<+:b1){b:e9}{cs:List aa}(hb:∀x,b=.dyn x->x.ok ρ):isNil b1 b cs=isNil ρ b cs:=by
 cases b with
 |real=>rfl
 |cZ=>rfl
 |map=>rfl
 |it=>rfl
 |dyn x=>simp only[isNil,(aR.j9 h (hb x rfl)).1]
theorem wm(b:e9)(id:Option Nat)(sz:Nat)(cs:List aa):(mO b id sz cs).one=true:=by
 unfold mO;split
 ·split<;>rfl
 ·rfl
theorem la{b:e9}(h:b.j2=true)(id:Option Nat)(sz:Nat)(cs:List aa):mO b id sz cs=match id with|some id=>.sl (some id) sz 0 (cs.length/sz) cs|none=>.bC:=by cases b<;>first|rfl|cases h
theorem c6.rel.mono{E E':Env}(h:E.le E'){k:Nat}{a:c6}{cs:List aa}(au:E.bd.getD k none=some a)(ad:a.rel E k cs):a.rel E' k cs:=by
 obtain⟨U,ab,al,aJ,bm,bI⟩:=ad;obtain⟨aK,aO⟩:=aR.j9 h.ρ U;exact⟨aO,by grind,al,aJ,by rw[yd h.ρ bI,h.ids k a au];exact bm,λx aj=>(aR.j9 h.ρ (bI x aj)).2⟩
mutual
theorem bZ.mono{F:cP}{E E':Env}(h:E.le E'):∀{v:aL}{q:aa},bZ F E v q->bZ F E' v q
 |.e x,q,ad=>by
  simp only[bZ]at ad⊢;obtain⟨aK,aO⟩:=aR.j9 h.ρ ad.2;exact⟨by rw[aK];exact ad.1,aO⟩
 |.undef,q,ad=>by simpa only[bZ]using ad
 |.bT,q,ad=>by simp only[bZ]
 |.ptr i o,q,ad=>by
  simp only[bZ]at ad⊢;exact⟨ad.1,Nat.lt_of_lt_of_le ad.2 h.fw⟩
 |.aV i o z,q,ad=>by
  simp only[bZ]at ad⊢;exact⟨ad.1,Nat.lt_of_lt_of_le ad.2 h.fw⟩
 |.c8,q,ad=>by simpa only[bZ]using ad
 |.cq _,q,ad=>by simpa only[bZ]using ad
 |.own k,q,ad=>by
  simp only[bZ]at ad⊢;obtain⟨a,cs,U,ab,al⟩:=ad;exact⟨a,cs,h.bd k a U,ab.mono h U,by rw[h.ids k a U];exact al⟩
 |.fF k x fo,q,ad=>by
  simp only[bZ]at ad⊢;obtain⟨a,cs,id,n,gJ,U,ab,al,aJ,bm,bI⟩:=ad;obtain⟨aK,aO⟩:=aR.j9 h.ρ bm;exact⟨a,cs,id,n,gJ,h.bd k a U,ab.mono h U,by rw[h.ids k a U];exact al,by rw[aK];exact aJ,aO,bI⟩
 |.fQ x sz fo,q,ad=>by
  simp only[bZ]at ad⊢;obtain⟨cs,off,lI,U,ab,al⟩:=ad;obtain⟨aK,aO⟩:=aR.j9 h.ρ ab;exact⟨cs,off,lI,by rw[aK];exact U,aO,al⟩
 |.ft l fo,q,ad=>by
  simp only[bZ]at ad⊢;obtain⟨aG,U,ab⟩:=ad;exact⟨aG,cJ.mono h U,ab⟩
 |.fn f l,q,ad=>by
  simp only[bZ]at ad⊢;obtain⟨aG,U,ab⟩:=ad;exact⟨aG,U,cJ.mono h ab⟩
 |.agg l,q,ad=>by
  simp only[bZ]at ad⊢;obtain⟨aG,U,ab⟩:=ad;exact⟨aG,U,cJ.mono h ab⟩
 |.bD l,q,ad=>by
  simp only[bZ]at ad⊢;obtain⟨aG,U,ab⟩:=ad;exact⟨aG,U,hk.mono h ab⟩
 |.lit sz len l,q,ad=>by
  simp only[bZ]at ad⊢;obtain⟨aG,U,ab,al⟩:=ad;exact⟨aG,U,cJ.mono h ab,al⟩
theorem cJ.mono{F:cP}{E E':Env}(h:E.le E'):∀{l:List aL}{aG:List aa},cJ F E l aG->cJ F E' l aG
 |[],aG,ad=>by simpa only[cJ]using ad
 |v::af,aG,ad=>by
  simp only[cJ]at ad⊢;obtain⟨q,r,U,ab,al,aJ⟩:=ad;exact⟨q,r,U,bZ.mono h ab,al,cJ.mono h aJ⟩
theorem hk.mono{F:cP}{E E':Env}(h:E.le E'):∀{l:List aL}{aG:List aa},hk F E l aG->hk F E' l aG
 |[],aG,ad=>by simpa only[hk]using ad
 |v::af,aG,ad=>by
  simp only[hk]at ad⊢;obtain⟨q,r,U,ab,aJ⟩:=ad;exact⟨q,r,U,bZ.mono h ab,hk.mono h aJ⟩
end
mutual
theorem wJ{F:cP}{E:Env}:∀{v:aL}{p:aS}{q:aa},v.cu=some p->bZ F E v q->q=p.den E.ρ/\q.plain=true
 |.e x,p,q,ae,ad=>by
  simp only[aL.cu,Option.some.injEq]at ae;subst ae;simp only[bZ]at ad;exact⟨ad.1,by rw[ad.1];exact aR.jJ ad.2⟩
 |.agg l,p,q,ae,ad=>by
  simp only[aL.cu]at ae;obtain⟨a7,gy,rfl⟩:=Option.map_eq_some_iff.1 ae;simp only[bZ]at ad;obtain⟨aG,rfl,ak⟩:=ad;obtain⟨e,ah⟩:=sG gy ak;exact⟨by rw[e];simp only[aS.den],by simpa only[aa.plain]using ah⟩
 |.bD l,p,q,ae,ad=>by
  simp only[aL.cu]at ae;obtain⟨a7,gy,rfl⟩:=Option.map_eq_some_iff.1 ae;simp only[bZ]at ad;obtain⟨aG,rfl,ak⟩:=ad;obtain⟨e,ah⟩:=QY gy ak;exact⟨by rw[e];simp only[aS.den],by simpa only[aa.plain]using ah⟩
 |.lit sz len l,p,q,ae,ad=>by
  simp only[aL.cu]at ae;obtain⟨a7,gy,rfl⟩:=Option.map_eq_some_iff.1 ae;simp only[bZ]at ad;obtain⟨aG,rfl,ak,cD,_⟩:=ad;obtain⟨e,ah⟩:=sG gy ak;exact⟨by rw[e];simp only[aS.den],by simpa only[aa.plain]using cD⟩
 |.fn f l,p,q,ae,ad=>by
  simp only[aL.cu]at ae;obtain⟨a7,gy,rfl⟩:=Option.map_eq_some_iff.1 ae;simp only[bZ]at ad;obtain⟨aG,rfl,ak⟩:=ad;obtain⟨e,ah⟩:=sG gy ak;exact⟨by rw[e];simp only[aS.den],by simpa only[aa.plain]using ah⟩
 |.ft l 0,p,q,ae,ad=>by
  simp only[aL.cu]at ae;obtain⟨a7,gy,rfl⟩:=Option.map_eq_some_iff.1 ae;simp only[bZ]at ad;obtain⟨aG,ak,cD,rfl⟩:=ad;obtain⟨e,ah⟩:=sG gy ak;exact⟨by rw[e];simp only[aS.den,List.drop_zero],by simpa only[aa.plain,List.drop_zero]using cD⟩
 |.ft l (n+1),p,q,ae,ad=>by simp[aL.cu]at ae
 |.undef,p,q,ae,ad | .bT,p,q,ae,ad | .ptr _ _,p,q,ae,ad | .aV _ _ _,p,q,ae,ad | .c8,p,q,ae,ad | .cq _,p,q,ae,ad | .own _,p,q,ae,ad | .fF _ _ _,p,q,ae,ad | .fQ _ _ _,p,q,ae,ad=>by simp[aL.cu]at ae
theorem sG{F:cP}{E:Env}:∀{l:List aL}{a7:List aS}{aG:List aa},hT l=some a7->cJ F E l aG->aG=ep E.ρ a7/\bG aG=true
 |[],a7,aG,ae,ad=>by
  simp only[hT,Option.some.injEq]at ae;simp only[cJ]at ad;subst ae;subst ad;exact⟨rfl,rfl⟩
 |v::af,a7,aG,ae,ad=>by
  simp only[hT]at ae;split at ae
  ·rename_i p iv U ab;injection ae with ae;subst ae;simp only[cJ]at ad;obtain⟨q,r,rfl,al,aJ,bm⟩:=ad;obtain⟨aK,aO⟩:=wJ U al;obtain⟨bS,b8⟩:=sG ab bm;have lR:q.one=true:=by
    rcases aJ with rfl|aJ
    ·simp[aL.cu]at U
    ·exact aJ
   exact⟨by simp only[ep,←aK,←bS],by simp[bG,aO,b8,lR]⟩
  ·cases ae
theorem QY{F:cP}{E:Env}:∀{l:List aL}{a7:List aS}{aG:List aa},hT l=some a7->hk F E l aG->aG=ep E.ρ a7/\jO aG=true
 |[],a7,aG,ae,ad=>by
  simp only[hT,Option.some.injEq]at ae;simp only[hk]at ad;subst ae;subst ad;exact⟨rfl,rfl⟩
 |v::af,a7,aG,ae,ad=>by
  simp only[hT]at ae;split at ae
  ·rename_i p iv U ab;injection ae with ae;subst ae;simp only[hk]at ad;obtain⟨q,r,rfl,al,bm⟩:=ad;obtain⟨aK,aO⟩:=wJ U al;obtain⟨bS,b8⟩:=QY ab bm;exact⟨by simp only[ep,←aK,←bS],by simp[jO,aO,b8]⟩
  ·cases ae
end
end
section
open Go Go.RowKit Go.WideShapes Go.ChangeShapes
variable[cQ]
def iK:bo:=⟨λ_=>none,λ_=>none⟩
theorem By(b:Nat):¬iK.own b:=by rintro(⟨i,h⟩|⟨i,h⟩)<;>cases h
def qh(P:Program):List Field->Nat->Nat->Bool
 |[],o,e=>decide (o=e)
 |f::fs,o,e=>decide (f.offset=o)&&qh P fs (o+P.cellsOf f.type) e
def sN(P:Program):Nat->TypeId->Bool
 |0,_=>false
 |k+1,t=>match P.underlying t with
  |some .bool=>true
  |some (.int _)=>true
  |some .string=>true
  |some (.slice e)=>sN P k e&&decide (0<P.cellsOf e)
  |some (.struct fs)=>fs.toList.all (λf=>sN P k f.type)&&qh P fs.toList 0 (P.cellsOf t)
  |_=>false
def qg(P:Program):Nat->TypeId->List aa->Prop
 |0,_,_=>False
 |k+1,t,cs=>match P.underlying t with
  |some .bool=>∃b,cs=[.bool b]
  |some (.int i)=>∃n,cs=[.int i n]/\(Lit.int i n).wf=true
  |some .string=>∃s,cs=[.str s]
  |some (.slice e)=>cs=[.bC]\/∃(off:Nat)(ls:List (List aa)),cs=[.sl none (P.cellsOf e) off ls.length ls.flatten]/\ls.length<=maxLen/\∀l∈ls,qg P k e l/\l.length=P.cellsOf e
  |some (.struct fs)=>∃ls:List (List aa),cs=ls.flatten/\ls.length=fs.size/\∀(i:Nat) f l,fs[i]?=some f->ls[i]?=some l->qg P k f.type l/\l.length=P.cellsOf f.type
  |_=>False
theorem MT{ls:List (List aa)}{n:Nat}(h:∀l∈ls,l.length=n):ls.flatten.length=ls.length*n:=by
 induction ls with
 |nil=>simp
 |cons l ls az=>grind
theorem Pr{α β:Type}{f:α->Option β}:∀{l:List α}{ys:List β},l.mapM f=some ys->l.length=ys.length/\∀(i:Nat) a,l[i]?=some a->∃y,ys[i]?=some y/\f a=some y
 |[],ys,h=>by grind
 |a::l,ys,h=>by
  rw[List.mapM_cons]at h;obtain⟨y,aF,h⟩:=Option.bind_eq_some_iff.1 h;obtain⟨sn,bO,h⟩:=Option.bind_eq_some_iff.1 h;simp  at h;obtain⟨U,ab⟩:=Pr bO;grind
section
variable{H:Type}{enc:TypeId×Value->H}{P:Program}{w:World}{spare:Nat->Bool}{held:Bool}
theorem D5{a:Addr}{n:Nat}{cs:List Value}(h:w.cells? 0 a n=some cs)(aI:0<n):a.spot=none/\cs.length=n/\∀j c,cs[j]?=some c->w.cell? ⟨a.block,a.off+j,none⟩=some c:=by
 obtain⟨U,ab⟩:=Pr h;have ao:a.spot=none:=by
  obtain⟨y,_,aF⟩:=ab 0 0 (by simp[aI]);simp only[Addr.add,if_true,World.cell?]at aF;split at aF;all_goals simp_all
 refine⟨ao,by grind,λj c aC=>?_⟩;have jB:j<n:=by grind
 obtain⟨y,xL,Lo⟩:=ab j j (by simp[jB]);rw[aC]at xL;injection xL with xL;subst xL;unfold Addr.add at Lo;split at Lo
 ·rename_i aT;obtain⟨b,o,s⟩:=a;grind
 ·exact Lo
theorem Nu{b:Nat}:∀{l aG:List aa}{off:Nat},b7 iK w b l off->b7 iK w b aG (off+l.length)->b7 iK w b (l++aG) off
 |[],aG,off,h,bc=>by grind
 |p::l,aG,off,h,bc=>by exact⟨h.1,Nu h.2 (by grind)⟩
theorem MU{b c:Nat}:∀{ls:List (List aa)}{off:Nat},(∀(i:Nat) l,ls[i]?=some l->l.length=c/\b7 iK w b l (off+i*c))->b7 iK w b ls.flatten off
 |[],off,h=>by trivial
 |l::ls,off,h=>by
  obtain⟨U,ab⟩:=h 0 l rfl;refine Nu (by grind) (MU (c:=c) λi aG er=>?_);obtain⟨al,aJ⟩:=h (i+1) aG (by grind);grind
theorem pick{α:Type}{Q:Nat->α->Prop}:∀n,(∀i,i<n->∃x,Q i x)->∃l:List α,l.length=n/\∀(i:Nat) x,l[i]?=some x->Q i x
 |0,_=>⟨[],rfl,λi x h=>by simp at h⟩
 |n+1,h=>by
  obtain⟨l,U,ab⟩:=pick n λi aX=>h i (by omega);obtain⟨x,aj⟩:=h n (by omega);refine⟨l++[x],by simp[U],λi y aF=>?_⟩;grind
theorem Nv{cs:List Value}:∀(ez:List Field)(ls:List (List aa))(o e:Nat),qh P ez o e=true->ls.length=ez.length->(∀(i:Nat) f l,ez[i]?=some f->ls[i]?=some l->bl iK w l ((cs.drop f.offset).take (P.cellsOf f.type)))->e<=cs.length ->
  o<=e/\bl iK w ls.flatten ((cs.drop o).take (e-o))/\∀(i:Nat) f l,ez[i]?=some f->ls[i]?=some l->l.length=P.cellsOf f.type
 |[],[],o,e,h,_,_,_=>by simp_all[qh,bl]
 |[],_::_,o,e,h,ak,_,_=>by simp at ak
 |_::_,[],o,e,h,ak,_,_=>by simp at ak
 |f::ez,l::ls,o,e,h,ak,ad,he=>by
  simp[qh]at h;obtain⟨rfl,h⟩:=h;obtain⟨U,ab,al⟩:=Nv ez ls (f.offset+P.cellsOf f.type) e h (by grind) (λi bj aG aQ er=>ad (i+1) bj aG (by grind) (by grind)) he;have aT:=ad 0 f l rfl rfl;have hlen:=mg aT;refine⟨by omega,?_,λi bj aG aQ er=>?_⟩
  ·have aK:(cs.drop f.offset).take (e-f.offset)=(cs.drop f.offset).take (P.cellsOf f.type)++(cs.drop (f.offset+P.cellsOf f.type)).take (e-(f.offset+P.cellsOf f.type)):=by rw[show e-f.offset=P.cellsOf f.type+(e-(f.offset+P.cellsOf f.type))by omega,List.take_add,List.drop_drop]
   grind [Ad]
  grind
def l4(P:Program)(k:Nat)(t:TypeId)(q:aa):Prop:=match ik P t with
 |some true=>∃cs,q=.agg cs/\qg P k t cs
 |_=>∃dF,q=dF/\qg P k t [dF]
def qu(P:Program)(k:Nat):List TypeId->List aa->Prop
 |[],[]=>True
 |t::fl,q::bz=>l4 P k t q/\qu P k fl bz
 |_,_=>False
theorem single{pcs:List aa}{v:Value}(ah:v.cells=#[v])(h:bl iK w pcs v.cells.toList):∃q,pcs=[q]/\aY iK w q v:=by
 rw[ah]at h;have ak:=mg h
 match pcs,h with
 |[q],h=>
  obtain⟨bg,cB,e,al,_⟩:=h;grind
 |[],_=>simp at ak
 |_::_::_,_=>simp at ak
end
theorem Ar{P:Program}:∀(k:Nat)(t:TypeId)(cs:List aa),qg P k t cs->bG cs=true
 |0,t,cs,h=>by trivial
 |k+1,t,cs,h=>by
  unfold qg at h;split at h
  ·obtain⟨b,rfl⟩:=h;rfl
  ·obtain⟨n,rfl,_⟩:=h;rfl
  ·obtain⟨s,rfl⟩:=h;rfl
  ·rename_i e hu;rcases h with rfl|⟨off,ls,rfl,_,ak⟩
   ·rfl
   ·have:bG ls.flatten=true:=by
     refine(hH _).2 λq aH=>?_;obtain⟨l,gk,bQ⟩:=List.mem_flatten.1 aH;exact(hH l).1 (Ar k e l (ak l gk).1) q bQ
    grind [bG,aa.plain,aa.one]
  ·rename_i fs hu;obtain⟨ls,rfl,hlen,ak⟩:=h;refine(hH _).2 λq aH=>?_;obtain⟨l,gk,bQ⟩:=List.mem_flatten.1 aH;obtain⟨i,aX⟩:=List.mem_iff_getElem?.1 gk;have al9:i<fs.size:=by grind
   exact(hH l).1 (Ar k _ l (ak i fs[i] l (by simp) aX).1) q bQ
  grind
theorem Zb{P:Program}{k:Nat}{t:TypeId}{q:aa}(h:l4 P k t q):q.plain=true:=by
 unfold l4 at h;split at h
 ·grind [aa.plain,Ar]
 ·obtain⟨dF,rfl,h⟩:=h;have:=Ar k t _ h;grind [bG]
theorem Om{P:Program}{k:Nat}:∀{fl:List TypeId}{bz:List aa},qu P k fl bz->∀q∈bz,q.plain=true
 |[],[],_,q,h=>by cases h
 |t::fl,x::bz,h,q,aH=>by
  rcases List.mem_cons.1 aH with rfl|aH
  ·exact Zb h.1
  ·exact Om h.2 q aH
 |[],_::_,h,_,_=>h.elim
 |_::_,[],h,_,_=>h.elim
def wo(w:World):List (Nat×Loop):=(List.range w.heap.size).filterMap λl=>match w.heap[l]? with
 |some (Obj.loop o)=>some (l,o)
 |_=>none
theorem Mk{P:Program}{f:FuncId}{bz:List aa}{af:List Value}{w:World}{R:aa->Prop}(h:∀m,gL P f bz m λv E m'=>R v/\E=[]/\m'=m)(ai:bl iK w bz af):
  lb P f af.toArray w λe w'=>∃v pv bn,e=.returned v/\aY bn w' pv v/\R pv/\w'.os=w.os/\w'.output=w.output/\w.heap.size<=w'.heap.size/\∀k,k<w.heap.size->w'.heap[k]?=w.heap[k]?:=by
 have hm:c0 iK ⟨λ_=>.hole,0,0,wo w⟩ w:=by
  refine⟨λi aX=>absurd aX (Nat.not_lt_zero i),λ_ _=>rfl,λi b h=>(by cases h),λi j b h=>(by cases h),λi j b h=>(by cases h),λi j b h=>(by cases h),λl o ak=>?_⟩;grind [wo]
 refine(h _ iK af w hm ai).mono ?_;rintro e w' ⟨v,pv,E,m',bn,rfl,U,ab,al,aJ,rfl,rfl⟩;refine⟨v,pv,bn,rfl,U,aJ,al.os,al.output,al.size,λk aq=>?_⟩;by_cases ak:∃o,w.heap[k]?=some (.loop o)
 ·obtain⟨o,ar⟩:=ak;rw[ar];refine ab.gw k o ?_;grind [wo]
 ·exact(al.rest k aq (By k) (λo ar=>ak ⟨o,ar⟩)).1
end
section
open Go Go.RowKit Go.WideShapes Go.ChangeShapes
variable[cQ]
section
variable{H:Type}{enc:TypeId×Value->H}{P:Program}
theorem VW{f:Func}{s:ChangeSpec}{apart fresh handsOn again:Bool}{W W':World}{args:Array Value}{v:Value}{ds gs:List (DataW H)}{before pa pv:List MemPlace}
  (hW:DataW.Whole enc P f.params.toList s.vars apart W args.toList ds gs before)
  (gO:∀(b:Nat)(sp:Nat->Bool)(aV:Bool),DataW.TrodAll enc P W' b sp aV f.resultTypes.toList (v.resultList f.resultTypes.size) (s.fn H (ds++gs)).results [])
  (qb:∀sp:Nat->Bool,(∀p∈before,sp p.block=true)->DataW.TrodAll enc P W' 0 sp true f.params.toList args.toList (s.fn H (ds++gs)).args pa)
  (SM:∀sp:Nat->Bool,(∀p∈before,sp p.block=true)->DataW.TrodVars enc P W' sp s.vars (s.fn H (ds++gs)).vars pv)
  (gy:before=pa++pv) (hb:Below W.heap.size W W')
  (fU:∀(j:Nat)(t:TypeId)(r:Value),f.resultTypes[j]?=some t->(v.resultList f.resultTypes.size)[j]?=some r->Value.okWide P W' .any 0 t r):
  s.post enc P f apart fresh handsOn again W args v W':=by
 have aU:∀p∈before,p.block<W.heap.size:=λp ae=>hW.lt p ae;have hold:∀p∈before,(λb=>decide (b<W.heap.size)) p.block=true:=λp ae=>by simpa using aU p ae
 refine⟨ds,gs,before,[],pa,pv,hW,gO _ _ _,qb _ hold,SM _ hold,World.keptBut_mono (λp ae=>⟨ae,?_⟩) (hb.frame (·∈before)),λ_=>?_⟩
 ·rw[gy,List.mem_append]at ae;exact Or.inr ae
 ·obtain⟨_,_,_,_,_,bO,aI⟩:=hW;refine⟨fU,_,_,([]++pa)++pv,⟨[]++pa,pv,trodAll_append (qb _ (λ_ _=>rfl)) (gO _ _ _),SM _ (λ_ _=>rfl),rfl,?_,?_⟩,?_⟩
  ·intro b off ae;have c1:MemPlace.cell b off∈before:=by rw[gy];simpa using ae
   rw[hb.frozen (aU _ c1)];exact bO b off c1
  ·intro au;have:=aI au;rw[gy]at this;simpa using this
  ·intro p ae _;rw[gy];simpa using ae
theorem Mn(ak:laidOutB P=true){W W':World}(hb:Below W.heap.size W W'){sp:Nat->Bool}:∀{fl:List TypeId}{af:List Value}{ds:List (DataW H)}{a7:List MemPlace},DataW.TrodAll enc P W 0 (λ_=>true) true fl af ds a7->(∀t∈fl,P.readableRec t=true/\t<P.types.size) ->
  (∀p∈a7,p.block<W.heap.size)->(∀p∈a7,sp p.block=true)->DataW.TrodAll enc P W' 0 sp true fl af ds a7
 |[],[],[],_,h,_,_,_=>h
 |t::fl,v::af,d::ds,a7,h,ad,aU,ao=>by
  obtain⟨p,q,U,ab,rfl⟩:=h;exact⟨p,q,WideElems.Trod_stays ak (ad t (by simp)).1 (ad t (by simp)).2 U (λx aj=>hb.same (aU x (by simp[aj]))) (λx aj=>ao x (by simp[aj])),
   Mn ak hb ab (λt a1=>ad t (by simp[a1])) (λx aj=>aU x (by simp[aj])) (λx aj=>ao x (by simp[aj])),rfl⟩
 |[],[],_::_,_,h,_,_,_=>h.elim
 |[],_::_,_,_,h,_,_,_=>h.elim
 |_::_,[],_,_,h,_,_,_=>h.elim
 |_::_,_::_,[],_,h,_,_,_=>h.elim
end
end
section
open Go
structure bA where
 r:Nat->Nat->Prop
 c:Nat->Prop
instance:CoeFun bA (λ_=>Nat->Nat->Prop):=⟨bA.r⟩
structure b0(G:Nat)(ρ:bA):Prop where
 low:∀{a b},ρ a b->(a<G/\b=a)\/(G<=a/\G<=b)
 fn:∀{a b c},ρ a b->ρ a c->b=c
 inj:∀{a b c},ρ a c->ρ b c->a=b
structure cN(ρ σ:bA):Prop where
 r:∀a b,ρ a b->σ a b
 c:∀a,ρ.c a->σ.c a
instance{ρ σ:bA}:CoeFun (cN ρ σ) (λ_=>∀a b,ρ a b->σ a b):=⟨cN.r⟩
theorem cN.refl(ρ:bA):cN ρ ρ:=⟨λ_ _ h=>h,λ_ h=>h⟩
theorem cN.trans{ρ σ τ:bA}(h:cN ρ σ)(k:cN σ τ):cN ρ τ:=⟨λa b x=>k a b (h a b x),λa x=>k.c a (h.c a x)⟩
structure ee where
 F:FuncId->Prop
 CL:FuncId->Nat->Prop
 cp:Bool
 G:Nat
 K:Code->Prop
structure AdR(ρ:bA)(a a':Addr):Prop where
 b:ρ a.block a'.block
 o:a'.off=a.off
 s:a'.spot=a.spot
theorem AdR.mono{ρ σ:bA}(h:cN ρ σ){a a':Addr}(k:AdR ρ a a'):AdR σ a a':=⟨h _ _ k.b,k.o,k.s⟩
theorem AdR.add{ρ:bA}{a a':Addr}(h:AdR ρ a a')(n:Nat):AdR ρ (a.add n) (a'.add n):=by
 unfold Addr.add;split
 ·exact h
 ·exact⟨h.b,by simp[h.o],rfl⟩
structure si(ρ:bA)(a a':Addr):Prop extends AdR ρ a a' where
 c:ρ.c a.block
theorem si.mono{ρ σ:bA}(h:cN ρ σ){a a':Addr}(k:si ρ a a'):si σ a a':=⟨k.toAdR.mono h,h.c _ k.c⟩
theorem si.add{ρ:bA}{a a':Addr}(h:si ρ a a')(n:Nat):si ρ (a.add n) (a'.add n):=⟨h.toAdR.add n,by unfold Addr.add;split<;>exact h.c⟩
theorem AdR.eq_iff{G:Nat}{ρ:bA}(ok:b0 G ρ){a a' b a6:Addr}(h:AdR ρ a a')(k:AdR ρ b a6):a'=a6↔a=b:=by
 obtain⟨x,o,s⟩:=a;obtain⟨bk,o',s'⟩:=a';obtain⟨y,p,t⟩:=b;obtain⟨dj,p',bw⟩:=a6;obtain⟨U,ab,al⟩:=h;obtain⟨k1,k2,bP⟩:=k;subst ab al k2 bP;simp only[Addr.mk.injEq,and_congr_left_iff];rintro -;constructor
 ·rintro rfl;exact ok.inj U k1
 ·rintro rfl;exact ok.fn U k1
inductive tQ(C:ee)(ρ:bA):Fn->Fn->Prop
 |func {f:FuncId}:C.F f->tQ C ρ (.func f) (.func f)
 |yield {l aG:Nat}:ρ l aG->tQ C ρ (.yield l) (.yield aG)
theorem tQ.mono{C:ee}{ρ σ:bA}(h:cN ρ σ){f bj:Fn}(k:tQ C ρ f bj):tQ C σ f bj:=by
 cases k with
 |func bc=>exact .func bc
 |yield bc=>exact .yield (h _ _ bc)
inductive df{α β:Type}(R:α->β->Prop):List α->List β->Prop
 |nil:df R [] []
 |cons {x:α} {y:β} {xs:List α} {ys:List β}:R x y->df R xs ys->df R (x::xs) (y::ys)
def bE{α β:Type}(R:α->β->Prop)(xs:Array α)(ys:Array β):Prop:=xs.size=ys.size/\∀(i:Nat) x y,xs[i]?=some x->ys[i]?=some y->R x y
inductive aZ(C:ee)(ρ:bA):Value->Value->Prop
 |bool {b:Bool}:aZ C ρ (.bool b) (.bool b)
 |int {k:IntKind} {n:Int}:aZ C ρ (.int k n) (.int k n)
 |string {s:ByteArray}:aZ C ρ (.string s) (.string s)
 |ca:aZ C ρ (.pointer none) (.pointer none)
 |ptr {a a':Addr}:AdR ρ a a'->aZ C ρ (.pointer (some a)) (.pointer (some a'))
 |bC {n m:Nat}:aZ C ρ (.slice none n m) (.slice none n m)
 |sl {a a':Addr} {n m:Nat}:si ρ a a'->aZ C ρ (.slice (some a) n m) (.slice (some a') n m)
 |jc {a a':Addr}:aZ C ρ (.slice (some a) 0 0) (.slice (some a') 0 0)
 |qi:aZ C ρ (.map none) (.map none)
 |map {r bR:Nat}:ρ r bR->aZ C ρ (.map (some r)) (.map (some bR))
 |vh:aZ C ρ (.chan none) (.chan none)
 |chan {r bR:Nat}:ρ r bR->aZ C ρ (.chan (some r)) (.chan (some bR))
 |func {f bj:Fn} {a a' b a6:Array Value}:tQ C ρ f bj->a.size=a'.size->(∀(i:Nat) x y,a[i]?=some x->a'[i]?=some y->aZ C ρ x y)->b.size=a6.size->(∀(i:Nat) x y,b[i]?=some x->a6[i]?=some y->aZ C ρ x y)->aZ C ρ (.func f a b) (.func bj a' a6)
 |nilFunc:aZ C ρ .nilFunc .nilFunc
 |iface {t:TypeId} {v bg:Value}:aZ C ρ v bg->aZ C ρ (.iface t v) (.iface t bg)
 |nilIface:aZ C ρ .nilIface .nilIface
 |agg {a a':Array Value}:a.size=a'.size->(∀(i:Nat) x y,a[i]?=some x->a'[i]?=some y->aZ C ρ x y)->aZ C ρ (.agg a) (.agg a')
 |tuple {a a':Array Value}:a.size=a'.size->(∀(i:Nat) x y,a[i]?=some x->a'[i]?=some y->aZ C ρ x y)->aZ C ρ (.tuple a) (.tuple a')
 |bT {bg:Value}:(∀c,bg≠.agg c)->(∀c,bg≠.tuple c)->(bg≠.pointer none/\bg≠.nilIface/\bg≠.nilFunc)/\(∀n a b,bg≠.func (.method n) a b)/\(∀b,bg≠.bool b)->aZ C ρ undef bg
 |vi {n:String} {a b:Array Value}:aZ C ρ (.func (.method n) #[.nilIface] #[]) (.func (.method n) a b)
section
variable{C:ee}{ρ σ:bA}
theorem aZ.mono(h:cN ρ σ){v bg:Value}(k:aZ C ρ v bg):aZ C σ v bg:=by
 induction k with
 |ptr k=>exact .ptr (k.mono h)
 |sl k=>exact .sl (k.mono h)
 |jc=>exact .jc
 |map k=>exact .map (h _ _ k)
 |chan k=>exact .chan (h _ _ k)
 |func k U _ al _ zD tE=>exact .func (k.mono h) U zD al tE
 |iface _ az=>exact .iface az
 |agg U _ az=>exact .agg U az
 |tuple U _ az=>exact .tuple U az
 |bT U ab al=>exact .bT U ab al
 |vi=>exact .vi
 |_=>constructor
abbrev cv(C:ee)(ρ:bA):Array Value->Array Value->Prop:=bE (aZ C ρ)
theorem cv.mono(h:cN ρ σ){a a':Array Value}(k:cv C ρ a a'):cv C σ a a':=⟨k.1,λi x y aj aF=>(k.2 i x y aj aF).mono h⟩
theorem aZ.te{a a':Array Value}(h:cv C ρ a a'):aZ C ρ (.agg a) (.agg a'):=.agg h.1 h.2
theorem aZ.tuple'{a a':Array Value}(h:cv C ρ a a'):aZ C ρ (.tuple a) (.tuple a'):=.tuple h.1 h.2
end
section
variable{α β γ δ:Type}{R:α->β->Prop}{S:γ->δ->Prop}
theorem bE.nil:bE R (#[]:Array α) (#[]:Array β):=⟨rfl,λi x y h=>by simp at h⟩
theorem bE.get{xs:Array α}{ys:Array β}(h:bE R xs ys)(i:Nat):(xs[i]?=none/\ys[i]?=none)\/∃x y,xs[i]?=some x/\ys[i]?=some y/\R x y:=by
 by_cases aX:i<xs.size
 ·have aC:i<ys.size:=h.1▸aX;exact .inr ⟨xs[i],ys[i],by simp[aX],by simp[aC],h.2 i _ _ (by simp[aX]) (by simp[aC])⟩
 ·have aC:¬i<ys.size:=h.1▸aX;grind
theorem bE.push{xs:Array α}{ys:Array β}(h:bE R xs ys){x:α}{y:β}(ad:R x y):bE R (xs.push x) (ys.push y):=by
 refine⟨by simp[h.1],λi a b au hb=>?_⟩;rw[Array.getElem?_push]at au hb;rw[h.1]at au;split at au
 ·grind
 ·rename_i e;rw[if_neg e]at hb;exact h.2 i a b au hb
theorem bE.append{xs hD:Array α}{ys Ct:Array β}(h:bE R xs ys)(k:bE R hD Ct):bE R (xs++hD) (ys++Ct):=by
 refine⟨by simp[h.1,k.1],λi a b au hb=>?_⟩;rw[Array.getElem?_append]at au hb;rw[h.1]at au;split at au
 ·rename_i e;rw[if_pos e]at hb;exact h.2 i a b au hb
 ·rename_i e;rw[if_neg e]at hb;exact k.2 _ a b au hb
theorem bE.set{xs:Array α}{ys:Array β}(h:bE R xs ys)(i:Nat){x:α}{y:β}(ad:R x y):bE R (xs.setIfInBounds i x) (ys.setIfInBounds i y):=by
 refine⟨by simp[h.1],λj a b au hb=>?_⟩;rw[Array.getElem?_setIfInBounds]at au hb;split at au
 ·grind
 ·rename_i e;rw[if_neg e]at hb;exact h.2 j a b au hb
theorem bE.modify{xs:Array α}{ys:Array β}(h:bE R xs ys)(i:Nat){f:α->α}{g:β->β}(ad:∀x y,R x y->R (f x) (g y)):bE R (xs.modify i f) (ys.modify i g):=by
 refine⟨by simp[h.1],λj a b au hb=>?_⟩;rw[Array.getElem?_modify]at au hb;split at au
 ·rename_i e;rw[if_pos e]at hb;obtain⟨x,aj,rfl⟩:=Option.map_eq_some_iff.1 au;obtain⟨y,aF,rfl⟩:=Option.map_eq_some_iff.1 hb;exact ad _ _ (h.2 j x y aj aF)
 ·rename_i e;rw[if_neg e]at hb;exact h.2 j a b au hb
theorem bE.map{xs:Array α}{ys:Array β}(h:bE R xs ys){f:α->γ}{g:β->δ}(ad:∀x y,R x y->S (f x) (g y)):bE S (xs.map f) (ys.map g):=by
 refine⟨by simp[h.1],λj a b au hb=>?_⟩;rw[Array.getElem?_map]at au hb;obtain⟨x,aj,rfl⟩:=Option.map_eq_some_iff.1 au;obtain⟨y,aF,rfl⟩:=Option.map_eq_some_iff.1 hb;exact ad _ _ (h.2 j x y aj aF)
theorem bE.extract{xs:Array α}{ys:Array β}(h:bE R xs ys)(i j:Nat):bE R (xs.extract i j) (ys.extract i j):=by
 refine⟨by simp[h.1],λk a b au hb=>?_⟩;rw[Array.getElem?_extract]at au hb;rw[h.1]at au;split at au
 ·rename_i e;rw[if_pos e]at hb;exact h.2 _ a b au hb
 ·cases au
theorem bE.replicate(n:Nat){x:α}{y:β}(ad:R x y):bE R (Array.replicate n x) (Array.replicate n y):=by
 refine⟨by simp,λi a b au hb=>?_⟩;grind
theorem bE.mono{R':α->β->Prop}{xs:Array α}{ys:Array β}(h:bE R xs ys)(ad:∀x y,R x y->R' x y):bE R' xs ys:=⟨h.1,λi x y aj aF=>ad _ _ (h.2 i x y aj aF)⟩
theorem bE.one{x:α}{y:β}(ad:R x y):bE R #[x] #[y]:=bE.nil.push ad
theorem bE.toList{xs:Array α}{ys:Array β}(h:bE R xs ys):df R xs.toList ys.toList:=by
 obtain⟨xs⟩:=xs;obtain⟨ys⟩:=ys;obtain⟨U,ab⟩:=h;simp  at ab;induction xs generalizing ys with
 |nil=>cases ys with
  |nil=>exact .nil
  |cons=>simp at U
 |cons x xs az=>cases ys with
  |nil=>simp at U
  |cons y ys=>exact .cons (ab 0 x y rfl rfl) (az ys (by grind) λi a b au hb=>ab (i+1) a b (by grind) (by grind))
theorem bE.ofList{xs:List α}{ys:List β}(h:df R xs ys):bE R xs.toArray ys.toArray:=by
 induction h with
 |nil=>exact bE.nil
 |cons ad _ az=>
  refine⟨by have:=az.1;grind,λi x y aj aF=>?_⟩;cases i with
  |zero=>grind
  |succ i=>exact az.2 i x y (by grind) (by grind)
theorem bE.As{xs:Array α}{ys:Array β}(h:df R xs.toList ys.toList):bE R xs ys:=by simpa using bE.ofList h
theorem bE.back{xs:Array α}{ys:Array β}(h:bE R xs ys):(xs.back?=none/\ys.back?=none)\/∃x y,xs.back?=some x/\ys.back?=some y/\R x y:=by
 simp only[Array.back?];rw[h.1];exact h.get _
end
end
end Go.Proofs.YtlminnpaeaganaaGreat
