/- Part of the proof of RuleKnown. No condition. -/
import Derived.Test.YtlminnpaeaganaaGreatMKnownAF
namespace Go.Proofs.YtlminnpaeaganaaGreat
set_option maxRecDepth 100000
set_option linter.all false
section
open Go Go.RowKit
variable[cQ]
def Cx:aa->aa->Bool
 |.int k a,.int bB b=>decide (k=bB)&&decide (a=b)
 |.bool a,.bool b=>a==b
 |.bC,.bC=>true
 |.ca,.ca=>true
 |.eL,.eL=>true
 |.agg [],.agg []=>true
 |_,_=>false
def aR.b:aR->aR->Bool
 |.var i,.var j=>decide (i=j)
 |.proj x i,.proj y j=>decide (i=j)&&x.b y
 |.bu v,.bu u=>Cx v u
 |_,_=>false
def e9.b:e9->e9->Bool
 |.real,.real=>true
 |.cZ,.cZ=>true
 |.dyn x,.dyn y=>x.b y
 |.map,.map=>true
 |.it,.it=>true
 |_,_=>false
def e9.still:e9->Bool
 |.dyn _=>false
 |.map | .it=>false
 |_=>true
def e9.j2:e9->Bool
 |.map | .it=>false
 |_=>true
def e9.isMap:e9->Bool
 |.map=>true
 |_=>false
def e9.Kx:e9->Bool
 |.it=>true
 |_=>false
mutual
def aL.b:aL->aL->Bool
 |.e x,.e y=>x.b y
 |.undef,.undef=>true
 |.ptr i o,.ptr j p=>decide (i=j)&&decide (o=p)
 |.aV i o z,.aV j p y=>decide (i=j)&&decide (o=p)&&decide (z=y)
 |.c8,.c8=>true
 |.cq a,.cq b=>decide (a=b)
 |.own k,.own j=>decide (k=j)
 |.fF k x fo,.fF j y L8=>decide (k=j)&&x.b y&&decide (fo=L8)
 |.fQ x s fo,.fQ y t L8=>x.b y&&decide (s=t)&&decide (fo=L8)
 |.ft l a,.ft m b=>decide (a=b)&&rF l m
 |.fn f l,.fn g m=>decide (f=g)&&rF l m
 |.agg l,.agg m=>rF l m
 |.bD l,.bD m=>rF l m
 |.lit a b l,.lit c d m=>decide (a=c)&&decide (b=d)&&rF l m
 |_,_=>false
def rF:List aL->List aL->Bool
 |[],[]=>true
 |x::l,y::m=>x.b y&&rF l m
 |_,_=>false
end
mutual
def aL.cu:aL->Option aS
 |.e x=>some (.e x)
 |.agg l=>(hT l).map .agg
 |.bD l=>(hT l).map .bD
 |.lit sz len l=>(hT l).map (.lit sz len)
 |.fn f l=>(hT l).map (.fn f)
 |.ft l 0=>(hT l).map .ref
 |_=>none
def hT:List aL->Option (List aS)
 |[]=>some []
 |x::l=>match x.cu,hT l with
  |some p,some a7=>some (p::a7)
  |_,_=>none
end
mutual
def aL.owns:aL->List Nat
 |.own k=>[k+k]
 |.fF k _ _=>[k+k]
 |.ptr i _=>[i+i+1]
 |.aV i _ _=>[i+i+1]
 |.agg l=>nV l
 |.bD l=>nV l
 |.lit _ _ l=>nV l
 |.fn _ l=>nV l
 |.ft l _=>nV l
 |_=>[]
def nV:List aL->List Nat
 |[]=>[]
 |x::l=>x.owns++nV l
end
mutual
def aL.cx(i:Nat)(l:List aL):aL->aL
 |.ptr j o=>if j=i then .ft l o else .ptr j o
 |.aV j o z=>if j=i then(if l.length=z*o then .lit o z l else .bT)else .aV j o z
 |.fn f m=>.fn f (uO i l m)
 |.agg m=>.agg (uO i l m)
 |.bD m=>.bD (uO i l m)
 |.lit a b m=>.lit a b (uO i l m)
 |.ft m o=>.ft (uO i l m) o
 |.own k=>.own k
 |.fF k x fo=>.fF k x fo
 |.e y=>.e y
 |.undef=>.undef
 |.bT=>.bT
 |.c8=>.c8
 |.cq a=>.cq a
 |.fQ y s fo=>.fQ y s fo
def uO(i:Nat)(l:List aL):List aL->List aL
 |[]=>[]
 |v::m=>v.cx i l::uO i l m
end
mutual
def aL.bK(k:Nat)(x:aR):aL->aL
 |.own j=>if j=k then .e x else .own j
 |.fF j i fo=>if j=k then .bT else .fF j i fo
 |.fn f l=>.fn f (u0 k x l)
 |.ft l o=>.ft (u0 k x l) o
 |.agg l=>.agg (u0 k x l)
 |.bD l=>.bD (u0 k x l)
 |.lit a b l=>.lit a b (u0 k x l)
 |.e y=>.e y
 |.undef=>.undef
 |.bT=>.bT
 |.ptr i o=>.ptr i o
 |.aV i o z=>.aV i o z
 |.c8=>.c8
 |.cq a=>.cq a
 |.fQ y s fo=>.fQ y s fo
def u0(k:Nat)(x:aR):List aL->List aL
 |[]=>[]
 |v::l=>v.bK k x::u0 k x l
end
mutual
def aL.q2(k:Nat)(all:Bool):aL->aL
 |.own j=>if j=k/\all=true then .bT else .own j
 |.fF j i fo=>if j=k then .bT else .fF j i fo
 |.fn f l=>.fn f (u1 k all l)
 |.ft l o=>.ft (u1 k all l) o
 |.agg l=>.agg (u1 k all l)
 |.bD l=>.bD (u1 k all l)
 |.lit a b l=>.lit a b (u1 k all l)
 |.e y=>.e y
 |.undef=>.undef
 |.bT=>.bT
 |.ptr i o=>.ptr i o
 |.aV i o z=>.aV i o z
 |.c8=>.c8
 |.cq a=>.cq a
 |.fQ y s fo=>.fQ y s fo
def u1(k:Nat)(all:Bool):List aL->List aL
 |[]=>[]
 |v::l=>v.q2 k all::u1 k all l
end
def aL.E5:aL->Bool
 |.bT=>false
 |_=>true
def ga.map(f:aL->aL):ga->ga
 |.cells l=>.cells (l.map f)
 |.c8=>.c8
 |.gone=>.gone
def aL.kI:aL->aL
 |.own _=>.bT
 |.fF _ _ _=>.bT
 |.e y=>.e y
 |.undef=>.undef
 |.ptr i o=>.ptr i o
 |.aV i o z=>.aV i o z
 |.c8=>.c8
 |.cq a=>.cq a
 |.fQ y s fo=>.fQ y s fo
 |v=>match v.owns.filter (·%2==0)with
  |[]=>v
  |_=>.bT
def Sym.get(S:Sym)(t:Nat):aL:=cF S.g t
def Sym.put(S:Sym)(d:Option Tmp)(v:aL):Sym:=match d with
 |some d=>{ S with g:=(d,v)::S.g }
 |none=>S
def Sym.dD(S:Sym)(f:aL->aL):Sym:={ S with g:=mapA f S.g,bx:=S.bx.map (ga.map f) }
def Ky:aa->aL
 |.undef=>.undef
 |.bad=>.bT
 |v=>if v.plain then .e (.bu v)else .bT
def Sym.ay(S:Sym):Operand->aL
 |.tmp t=>S.get t
 |.const v=>Ky (jT v)
 |.func f=>.fn f []
 |.global _=>.bT
abbrev M:=Except String Tree
def die(s:String):M:=.error s
def FG(x:aR)(a b:M):M:=match a,b with
 |.ok a,.ok b=>.ok (.ite x a b)
 |.error e,_=>.error e
 |_,.error e=>.error e
def emit(p:Prim)(cU:Bool)(S:Sym)(k:aR->Sym->M):M:=do
 let t ←k (.var S.cd) { S with cd:=S.cd+1,cU:=if cU then S.cd::S.cU else S.cU }
 pure (.av p t)
def Sym.hK(S:Sym)(k:Nat)(x:aR):Sym:={ S.dD (aL.bK k x)with bd:=S.bd.set k none,bb:=S.bb||decide (k<S.base) }
def Kz(k:Nat)(S:Sym)(K:Sym->M):M:=match S.bd.getD k none with
 |some a=>emit (.bK a.sz a.born a.c) true S λx S=>K (S.hK k x)
 |none=>die "freeze"
def Sym.oA(S:Sym)(i:Nat)(l:List aL):Sym:={ S.dD (aL.cx i l)with bx:=(S.bx.map (ga.map (aL.cx i l))).set i .gone }
def kj:Nat->List Nat->Sym->(Sym->M)->M
 |0,_,_,_=>die "freeze- too deep"
 |_,[],S,K=>K S
 |n+1,k::l,S,K=>if k%2=0 then match S.bd.getD (k/2) none with
   |some _=>Kz (k/2) S λS=>kj n l S K
   |none=>kj n l S K
  else match S.bx.getD (k/2) .gone with
   |.cells c=>match nV c with
    |[]=>match hT c with
     |some _=>if k/2<S.dO then die "freeze- an elder box" else kj n l (S.oA (k/2) c) K
     |none=>die "freeze- a box"
    |ck=>kj n (ck++k::l) S K
   |_=>kj n l S K
def Sym.E6(S:Sym):aR->Bool
 |.bu v=>v.one
 |.proj _ _=>true
 |.var i=>S.cU.contains i
def Sym.sP(S:Sym)(a:c6)(d:Option Tmp):Sym:=Sym.put { S with bd:=S.bd++[some a] } d (.own S.bd.length)
def Sym.dm(S:Sym)(k:Nat)(all:Bool)(a:c6):Sym:={ S.dD (aL.q2 k all)with bd:=S.bd.set k (some a),bb:=S.bb||decide (k<S.base) }
def Sym.arr(S:Sym)(k:Nat):Option c6:=S.bd.getD k none
def Sym.var(S:Sym):Sym:={ S with cd:=S.cd+1 }
def Sym.dz(S:Sym)(d:Option Tmp)(sz len:Nat)(l:List aL):Sym:=Sym.put { S with bx:=S.bx++[ga.cells l] } d (.aV S.bx.length sz len)
def Sym.hq(S:Sym)(i:Nat)(l:List aL):Sym:={ S with bx:=S.bx.set i (.cells l) }
def Sym.gu(S:Sym)(d:Option Tmp)(l:List aL):Sym:=Sym.put { S with bx:=S.bx++[ga.cells l] } d (.ptr S.bx.length 0)
def aL.yN(S:Sym):aL->Bool
 |.e x=>S.E6 x
 |.ptr _ _ | .aV _ _ _ | .own _ | .fn _ _ | .lit _ _ _ | .ft _ _ | .c8 | .cq _ | .bT=>true
 |_=>false
structure zr where
 new:FuncId
 qz:Option FuncId
 qA:Option FuncId
 deriving Inhabited
structure Ctx where
 P:Program
 inl:List FuncId
 own:List (Nat×Nat)
 TK:List (Nat×Nat)
 nb:List (FuncId×Option (Nat×Nat)×Nat×Bool)
 xw:List (Nat×Nat):=[]
 eM:TypeId
 hI:zr
section
variable(X:Ctx)
def uP(t:TypeId)(v:aL)(S:Sym)(K:List aL->Sym->M):M:=
 match ik X.P t,v with
 |some true,.agg l=>if l.length=X.P.cellsOf t then K l S else die "cells"
 |some true,.e x=>emit (.agg (X.P.cellsOf t) (.e x)) false S λx S=>K ((List.range (X.P.cellsOf t)).map λj=>.e (.proj x j)) S
 |some false,.e x=>if S.E6 x then K [.e x] S else emit (.one (.e x)) true S λx S=>K [.e x] S
 |some false,.ptr i o=>K [.ptr i o] S
 |some false,.aV i o z=>K [.aV i o z] S
 |some false,.own k=>K [.own k] S
 |some false,.fn f l=>K [.fn f l] S
 |some false,.ft l o=>K [.ft l o] S
 |some false,.c8=>K [.c8] S
 |some false,.cq y=>K [.cq y] S
 |some false,.lit a b l=>K [.lit a b l] S
 |_,_=>die "cells of what is none"
def wA:List (Nat×TypeId×aL)->Sym->(List (Nat×List aL)->Sym->M)->M
 |[],S,K=>K [] S
 |(i,t,v)::l,S,K=>uP X t v S λc S=>wA l S λr S=>K ((i,c)::r) S
def AX(l:List aL)(off:Nat)(af:List aL):List aL:=l.take off++af++l.drop (off+af.length)
def w7(place:Nat->Option (Nat×Nat))(cells:List aL):List (Nat×List aL)->Option (List aL)
 |[]=>some cells
 |(i,v)::rest=>match place i with
  |none=>none
  |some (off,size)=>if v.length=size/\off+size<=cells.length then w7 place (AX cells off v) rest else none
def oJ:List aa->List aL
 |[]=>[]
 |v::l=>.e (.bu v)::oJ l
def E7(z:List aL):Nat->List aL
 |0=>[]
 |n+1=>z++E7 z n
def E8(S:Sym)(gf:Option Nat)(t:TypeId)(i off:Nat):Option aL:=match S.bx[i]?,ik X.P t with
 |some (.cells l),some true=>if off+X.P.cellsOf t<=l.length/\(X.P.info? t).isSome/\(gf.all λb=>decide (i<b))then some (.agg ((l.drop off).take (X.P.cellsOf t)))else none
 |some (.cells l),some false=>if(gf.all λb=>decide (i<b))then l[off]? else none
 |_,_=>none
def yO(lx:Option Nat)(S:Sym):List aL->Option (List aS)
 |[]=>some []
 |v::l=>match v,yO lx S l with
  |.c8,some a7=>some (.e (.bu (.ptr 0 0))::a7)
  |.ptr i 0,some a7=>match S.bx[i]? with
   |some .c8=>if(lx.all λb=>decide (i<b))then some (.e (.bu (.ptr 0 0))::a7)else none
   |_=>none
  |v,some a7=>match v.cu with
   |some p=>some (p::a7)
   |none=>none
  |_,none=>none
def thaw(lx:Option Nat)(key:Nat)(ck:List Nat)(S:Sym)(K:Sym->M):M:=match ck with
 |[]=>K S
 |k::ck=>if lx.isSome then die "x" else kj 40 (k::ck) S K
def Iu(o:Oper)(c x y:Operand)(S:Sym)(K:Sym->M):M:=match S.ay c with
 |.e (.bu (.bool t))=>K (S.put o.dst (if t then S.ay x else S.ay y))
 |.e c=>do
  let a ←K (S.put o.dst (S.ay x))
  let b ←K (S.put o.dst (S.ay y))
  pure (.ite c a b)
 |_=>die "pick"
def I1(o:Oper)(x:Operand)(S:Sym)(K:Sym->M):M:=match S.ay x with
 |.ptr i off=>K (S.put o.dst (.ptr i off))
 |.fn f l=>K (S.put o.dst (.fn f l))
 |_=>die "nilCheck"
def I2(o:Oper)(x:Operand)(i:Nat)(S:Sym)(K:Sym->M):M:=match S.ay x with
 |.bD l=>match l[i]? with
  |some v=>K (S.put o.dst v)
  |none=>die "extract"
 |.e x=>emit (.ext (.e x) i) false S λv S=>K (S.put o.dst (.e v))
 |_=>die "extract"
def Hp(o:Oper)(t:TypeId)(x:Operand)(f:Nat)(S:Sym)(K:Sym->M):M:=match X.P.underlying t with
 |some (.struct fs)=>match fs[f]? with
  |some fd=>if ik X.P fd.type=some false then(match S.ay x with
    |.agg l=>match l[fd.offset]? with
     |some v=>K (S.put o.dst v)
     |none=>die "field"
    |.e e=>if fd.offset<X.P.cellsOf t then emit (.agg (X.P.cellsOf t) (.e e)) false S λv S=>K (S.put o.dst (.e (.proj v fd.offset)))else die "field"
    |_=>die "field")else die "field"
  |none=>die "field"
 |_=>die "field"
def HQ(o:Oper)(t:TypeId)(x:Operand)(f:Nat)(S:Sym)(K:Sym->M):M:=match X.P.underlying t with
 |some (.struct fs)=>match fs[f]? with
  |some fd=>if X.P.cellsOf fd.type=0\/(X.P.info? fd.type).isNone then die "fieldAddr" else match S.ay x with
   |.ptr i off=>K (S.put o.dst (.ptr i (off+fd.offset)))
   |.fQ e sz fo=>K (S.put o.dst (.fQ e sz (fo+fd.offset)))
   |.ft l fo=>K (S.put o.dst (.ft l (fo+fd.offset)))
   |.fF k e fo=>K (S.put o.dst (.fF k e (fo+fd.offset)))
   |.e x=>emit (.deref (X.P.cellsOf t) (.e x)) false S λv S=>K (S.put o.dst (.fQ v (X.P.cellsOf t) fd.offset))
   |_=>die "fieldAddr"
  |none=>die "fieldAddr"
 |_=>die "fieldAddr"
def GW(o:Oper)(t:TypeId)(x i:Operand)(S:Sym)(K:Sym->M):M:=match X.P.underlying t with
 |some (.slice e)=>match(S.ay i).cu with
  |some pi=>if(X.P.info? e).isNone\/X.P.cellsOf e=0 then die "indexAddr" else match S.ay x with
   |.own k=>match S.arr k with
    |some a=>if a.sz=X.P.cellsOf e/\a.born.j2=true then emit (.kX a.sz a.c pi) true S λv S=>K (S.put o.dst (.fF k v 0))else die "indexAddr"
    |none=>die "indexAddr"
   |.aV b sz len=>match S.ay i with
    |.e (.bu (.int _ n))=>if 0<=n/\n<(len:Int)/\X.P.cellsOf e=sz then K (S.put o.dst (.ptr b (n.toNat*sz)))else die "indexAddr"
    |_=>die "indexAddr"
   |v=>match v.cu with
    |some Vr=>emit (.row (X.P.cellsOf e) Vr pi) false S λv S=>K (S.put o.dst (.fQ v (X.P.cellsOf e) 0))
    |none=>die "indexAddr"
  |none=>die "indexAddr"
 |some (.array len e)=>match S.ay i,S.ay x with
  |.e (.bu (.int _ n)),.ptr b off=>if 0<=n/\n<(len:Int)/\(X.P.info? e).isSome then K (S.put o.dst (.ptr b (off+n.toNat*X.P.cellsOf e)))else die "indexAddr"
  |_,_=>die "indexAddr"
 |_=>die "indexAddr"
def Iv(lx:Option Nat)(o:Oper)(t:TypeId)(x:Operand)(S:Sym)(K:Sym->M):M:=match S.ay x with
 |.ptr i off=>match E8 X S lx t i off with
  |some v=>K (S.put o.dst v)
  |none=>die "x"
 |.ft l fo=>match ik X.P t with
  |some true=>if fo+X.P.cellsOf t<=l.length/\(X.P.info? t).isSome then K (S.put o.dst (.agg ((l.drop fo).take (X.P.cellsOf t))))else die "x"
  |some false=>match l[fo]? with
   |some v=>K (S.put o.dst v)
   |none=>die "x"
  |none=>die "x"
 |.fQ e sz fo=>match ik X.P t with
  |some true=>if fo+X.P.cellsOf t<=sz/\(X.P.info? t).isSome then K (S.put o.dst (.agg ((List.range (X.P.cellsOf t)).map λj=>.e (.proj e (fo+j)))))else die "x"
  |some false=>if fo<sz then K (S.put o.dst (.e (.proj e fo)))else die "x"
  |none=>die "x"
 |.fF k i fo=>match S.arr k with
  |some a=>match ik X.P t with
   |some true=>if fo+X.P.cellsOf t<=a.sz/\(X.P.info? t).isSome then emit (.get a.sz fo (X.P.cellsOf t) a.c i) false S λv S=>K (S.put o.dst (.agg ((List.range (X.P.cellsOf t)).map λj=>.e (.proj v j))))else die "x"
   |some false=>if fo<a.sz then emit (.get a.sz fo 1 a.c i) false S λv S=>K (S.put o.dst (.e (.proj v 0)))else die "x"
   |none=>die "x"
  |none=>die "x"
 |.e x=>match ik X.P t with
  |some true=>if X.P.cellsOf t=0\/(X.P.info? t).isNone then die "x" else emit (.deref (X.P.cellsOf t) (.e x)) false S λv S=>K (S.put o.dst (.agg ((List.range (X.P.cellsOf t)).map λj=>.e (.proj v j))))
  |some false=>emit (.deref 1 (.e x)) false S λv S=>K (S.put o.dst (.e (.proj v 0)))
  |none=>die "x"
 |_=>die "x"
def DC(lx:Option Nat)(o:Oper)(t:TypeId)(x y:Operand)(S:Sym)(K:Sym->M):M:=
 if o.dst.isSome\/(X.P.info? t).isNone then die "x" else match S.ay x with
 |.ptr i off=>uP X t (S.ay y) S λc S=>match S.bx[i]? with
  |some (ga.cells l)=>if c.length=X.P.cellsOf t/\c.all aL.E5=true/\off+c.length<=l.length/\(lx.all λb=>decide (off=0)&&decide (b<=i)&&decide (l.length=c.length))then K (S.hq i (AX l off c))else die "x"
  |_=>die "x"
 |.fF _ _ _=>if lx.isSome\/X.P.cellsOf t=0 then die "x" else
  kj 40 (S.ay y).owns S λS=>uP X t (S.ay y) S λc S=>match S.ay x with
   |.fF k e fo=>match S.arr k,hT c with
    |some a,some a7=>if c.length≠X.P.cellsOf t\/a.sz<fo+c.length\/a.born.j2=false then die "x" else
      emit (.put a.sz fo a.c e a7) false S λv S=>K (S.dm k false { a with c:=v })
    |_,_=>die "x"
   |_=>die "x"
 |.fQ _ _ _=>pure .die
 |_=>die "x"
def HR(o:Oper)(t:TypeId)(parts:Array (Nat×Operand))(S:Sym)(K:Sym->M):M:=match X.P.underlying t,ki X.P t with
 |some (.struct fs),some z=>if bG z/\fs.toList.all (λf=>(X.P.info? f.type).isSome)then
   wA X (parts.toList.map λp=>(p.1,((fs[p.1]?).map (·.type)).getD 0,S.ay p.2)) S λcs S=>match w7 (ya X.P fs) (oJ z) cs with
    |some l=>K (S.put o.dst (.agg l))
    |none=>die "build"
  else die "build"
 |some (.array _ e),some z=>if bG z/\(X.P.info? e).isSome then
   wA X (parts.toList.map λp=>(p.1,e,S.ay p.2)) S λcs S=>match w7 (λi=>some (i*X.P.cellsOf e,X.P.cellsOf e)) (oJ z) cs with
    |some l=>K (S.put o.dst (.agg l))
    |none=>die "build"
  else die "build"
 |_,_=>die "build"
def Ab(lx:Option Nat)(key:Nat)(o:Oper)(t:TypeId)(len:Nat)(parts:Array (Nat×Operand))(S:Sym)(K:Sym->M):M:=match X.P.underlying t with
 |some (.slice e)=>match ki X.P e with
  |some z=>if bG z/\(X.P.info? e).isSome/\z.length=X.P.cellsOf e/\0<z.length/\len*X.P.cellsOf e<=16777216 then
    if lx.isNone&&o.dst.any (λd=>X.xw.contains (S.site,d))then
     wA X (parts.toList.map λp=>(p.1,e,S.ay p.2)) S λcs S=>match w7 (λi=>some (i*X.P.cellsOf e,X.P.cellsOf e)) (E7 (oJ z) len) cs with
      |some l=>K (S.dz o.dst (X.P.cellsOf e) len l)
      |none=>die "buildSlice"
    else
    thaw lx key (nV (parts.toList.map λp=>S.ay p.2)) S λS=>
     wA X (parts.toList.map λp=>(p.1,e,S.ay p.2)) S λcs S=>match w7 (λi=>some (i*X.P.cellsOf e,X.P.cellsOf e)) (E7 (oJ z) len) cs with
      |some l=>match hT l with
       |some a7=>if o.dst.any (λd=>X.own.contains (S.site,d))then(if lx.isSome then die "own" else emit (.j2 a7) false S λv S=>K (S.sP ⟨X.P.cellsOf e,.real,v⟩ o.dst))else K (S.put o.dst (.lit (X.P.cellsOf e) len l))
       |none=>die "buildSlice cells"
      |none=>die "buildSlice"
   else die "buildSlice"
  |none=>die "buildSlice"
 |_=>die "buildSlice"
def D8(lx:Option Nat)(o:Oper)(t:TypeId)(l c:Operand)(S:Sym)(K:Sym->M):M:=if lx.isSome then die "makeSlice" else match X.P.underlying t with
 |some (.slice e)=>match S.ay l,S.ay c,ki X.P e with
  |.e a,.e b,some z=>if a.b b/\bG z/\z.length=X.P.cellsOf e/\0<z.length/\(X.P.info? e).isSome then
    emit (.mk z (X.P.bytesOf e) (.e a)) false S λv S=>K (S.sP ⟨X.P.cellsOf e,.real,v⟩ o.dst)
   else die "makeSlice"
  |_,_,_=>die "makeSlice"
 |_=>die "makeSlice"
def zY(S:Sym):Option Operand->Option (Option aS)
 |none=>some none
 |some x=>(S.ay x).cu.map some
def HS(lx:Option Nat)(key:Nat)(o:Oper)(t:TypeId)(x:Operand)(cw aX:Option Operand)(S:Sym)(K:Sym->M):M:=
 thaw lx key (S.ay x).owns S λS=>match(S.ay x).cu,zY S cw,zY S aX with
  |some p,some a,some b=>emit (.slice t p a b) true S λv S=>K (S.put o.dst (.e v))
  |_,_,_=>die "slice"
def Dl(lx:Option Nat)(o:Oper)(t:TypeId)(x y:Operand)(S:Sym)(K:Sym->M):M:=if lx.isSome then die "append" else match X.P.underlying t with
 |some (.slice e)=>if(X.P.info? e).isSome/\0<X.P.cellsOf e/\(zeroOf X.P e).any (λz=>z.cells.size=X.P.cellsOf e)=true then
   kj 40 (S.ay y).owns S λS=>match(S.ay y).cu with
   |some L9=>match S.ay x with
    |.own k=>match S.arr k with
     |some a=>if a.sz=X.P.cellsOf e/\a.born.still=true then emit (.push a.sz (X.P.bytesOf e) a.c L9) false S λv S=>K ((S.dm k true { a with c:=v }).put o.dst (.own k))else die "append"
     |none=>die "append"
    |.e (.bu .bC)=>emit (.push (X.P.cellsOf e) (X.P.bytesOf e) (.bu (.agg [])) L9) false S λv S=>K (S.sP ⟨X.P.cellsOf e,.cZ,v⟩ o.dst)
    |_=>die "append to what is not ours"
   |none=>die "append"
  else die "append"
 |_=>die "append"
def I3(o:Oper)(t:TypeId)(x:Operand)(S:Sym)(K:Sym->M):M:=match S.ay x with
 |.aV _ _ n=>match X.P.underlying t with
  |some (.slice _)=>K (S.put o.dst (.e (.bu (.int .i64 n))))
  |_=>die "len"
 |.own k=>match X.P.underlying t,S.arr k with
  |some (.slice _),some a=>if a.born.j2=false then die "len" else emit (.oG a.sz a.c) true S λv S=>K (S.put o.dst (.e v))
  |_,_=>die "len"
 |v=>match X.P.underlying t with
  |some (.array n _)=>K (S.put o.dst (.e (.bu (.int .i64 n))))
  |_=>match v.cu with
   |some p=>emit (.len t p) true S λv S=>K (S.put o.dst (.e v))
   |none=>die "len"
abbrev fh:=Nat->FuncId->List aL->Sym->(aL->Sym->M)->M
def mW:List (FuncId×Option (Nat×Nat)×Nat×Bool)->FuncId->Option (Option (Nat×Nat)×Nat×Bool)
 |[],_=>none
 |(f,r)::l,g=>if f=g then some r else mW l g
def y9(r:Bool)(sz:Nat)(x:aS)(S:Sym)(K:c6->Sym->M):M:=if sz=0 then die "own of nothing" else emit (.cont r sz x) false S λc S=>
 if r then K ⟨sz,.real,c⟩ S else emit (.wZ x) true S λb S=>K ⟨sz,.dyn b,c⟩ S
def uI(r:Option (Nat×Nat)×Nat×Bool)(x:aR)(d:Option Tmp)(S:Sym)(K:Sym->M):M:=match r with
 |(none,sz,b)=>y9 b sz (.e x) S λa S=>K (S.sP a d)
 |(some (n,j),sz,b)=>emit (.agg n (.e x)) false S λx S=>y9 b sz (.e (.proj x j)) S λa S=>
   K (Sym.put { S with bd:=S.bd++[some a] } d (.agg (((List.range n).map λi=>aL.e (.proj x i)).set j (.own S.bd.length))))
def ad7(S:Sym)(i:Nat):Bool:=match S.bx.getD i .gone with
 |.c8=>true
 |_=>false
def QX(S:Sym)(l:List aL):List Nat:=(nV l).filter λk=>!(k%2==1&&ad7 S (k/2))
def AK(inl:fh)(yl:fh)(lx:Option Nat)(key:Nat)(o:Oper)(f:Operand)(args:List Operand)(S:Sym)(K:Sym->M):M:=match S.ay f with
 |.fn g bf=>match X.P.funcs[g]? with
  |some fn=>if fn.name = "runtime.NumGoroutine" \/ fn.body.isNone then die "call" else
   if g=X.hI.new then(if lx.isSome then die "x" else thaw lx key (nV (args.map S.ay)) S λS=>match S.ay f,hT (args.map S.ay)with
    |.fn g' [],some [p]=>if g'=g then emit (.ints p) false S λ_ S=>K (Sym.put { S with bx:=S.bx++[ga.c8] } o.dst (.ptr S.bx.length 0))else die "dice"
    |_,_=>die "dice")else
   if X.hI.qz=some g then(if lx.isSome then die "sort" else match bf,args.map S.ay with
    |[],[.own k]=>match S.arr k with
     |some a=>if a.sz=1/\a.born.still=true then emit (.qz a.c) false S λv S=>K ((S.dm k false { a with c:=v }).put o.dst .undef)else die "sort"
     |none=>die "sort"
    |_,_=>die "sort")else
   if X.hI.qA=some g then(if lx.isSome then die "compact" else match bf,args.map S.ay with
    |[],[.own k]=>match S.arr k with
     |some a=>if a.sz=1/\a.born.still=true then emit (.qA a.born a.c) true S λv S=>K ((S.dm k true a).put o.dst (.e v))else die "compact"
     |none=>die "compact"
    |_,_=>die "compact")else
   if(X.inl.contains g||X.inl.contains (100000*(key+1)+g))&&lx.isNone then inl key g (args.map S.ay++bf) S λv S=>K (S.put o.dst v)else
    thaw lx key (QX S (args.map S.ay++bf)) S λS=>match S.ay f with
     |.fn g' bf=>if g'=g then match yO lx S (args.map S.ay++bf)with
      |some a7=>Except.map (Tree.call g a7) (match mW X.nb g with
        |some r=>if X.TK.contains (S.site,key)then uI r (.var S.cd) o.dst S.var K else if lx.isSome then die "own result" else K (S.var.put o.dst (.e (.var S.cd)))
        |none=>K (S.var.put o.dst (.e (.var S.cd))))
      |none=>die "x" else die "call"
     |_=>die "call"
  |none=>die "call"
 |.e _=>if lx.isSome&&!X.nb.isEmpty then die "a value is called where own results are" else thaw lx key (QX S (args.map S.ay)) S λS=>match S.ay f with
  |.e x=>match yO lx S (args.map S.ay)with
   |some a7=>Except.map (Tree.kL x a7) (K (S.var.put o.dst (.e (.var S.cd))))
   |none=>die "args of a value"
  |_=>die "call"
 |.cq y=>if lx.isSome then die "yield" else yl key y (args.map S.ay) S λv S=>K (S.put o.dst v)
 |_=>die "call of what is none"
def rZ(P:Program)(cR:TypeId):Bool:=laidOutB P&&decide (cR<P.types.size)&&P.keyTypeAt 3 cR&&(match P.underlying cR with|some (.array _ _)|some (.struct _)=>true|_=>false)
theorem Rf{P:Program}{cR:TypeId}(h:rZ P cR=true):Maps.Keyed P cR:=by
 unfold rZ at h;simp  at h;exact Maps.Keyed.of_law (deep_law_laid h.1.1.1 (m:=3) (by omega) h.1.1.2 h.1.2 h.2)
def pe(lx:Option Nat)(o:Oper)(t:TypeId)(r:Option Operand)(S:Sym)(K:Sym->M):M:=if lx.isSome\/r.isSome then die "makeMap" else match X.P.underlying t with
 |some (.map cR _)=>if 0<X.P.cellsOf cR then emit (.j2 []) false S λv S=>K (S.sP ⟨X.P.cellsOf cR,.map,v⟩ o.dst)else die "makeMap"
 |_=>die "makeMap"
def o7(lx:Option Nat)(o:Oper)(t:TypeId)(m k:Operand)(S:Sym)(K:Sym->M):M:=if lx.isSome\/o.dst.isSome then die "mapUpdate" else match X.P.underlying t with
 |some (.map cR _)=>if rZ X.P cR then match S.ay k,S.ay m with
   |.agg l,.own k=>match S.arr k,hT l with
    |some a,some a7=>if a.born.isMap=true then emit (.ins cR a.sz a.c a7) false S λv S=>K (S.dm k false { a with c:=v })else die "mapUpdate"
    |_,_=>die "mapUpdate"
   |_,_=>die "mapUpdate"
  else die "mapUpdate- key"
 |_=>die "mapUpdate"
def ps(lx:Option Nat)(o:Oper)(t:TypeId)(x:Operand)(S:Sym)(K:Sym->M):M:=if lx.isSome then die "range" else match X.P.underlying t with
 |some (.map cR _)=>kj 40 (S.ay x).owns S λS=>match S.ay x with
  |.e v=>emit (.keys (X.P.cellsOf cR) (.e v)) false S λc S=>K (S.sP ⟨X.P.cellsOf cR,.it,c⟩ o.dst)
  |_=>die "range"
 |_=>die "range"
def pR(lx:Option Nat)(o:Oper)(x:Operand)(str:Bool)(S:Sym)(K:Sym->M):M:=if lx.isSome\/str=true then die "next" else match S.ay x with
 |.own k=>match S.arr k with
  |some a=>if a.born.Kx=true then do
    let A ←emit (.lI (.var S.cd)) false S.var λv S=>K ((S.dm k false { a with c:=v }).put o.dst (.bD [.e (.bu (.bool true)),.bT,.bT]));let B ←K (S.var.put o.dst (.bD [.e (.bu (.bool false))]))
    pure (.pick a.sz a.c (.ite (.proj (.var S.cd) 0) A B))
   else die "next"
  |none=>die "next"
 |_=>die "next"
def pH(lx:Option Nat)(o:Oper)(x:Operand)(S:Sym)(K:Sym->M):M:=if lx.isSome then die "entry" else match S.ay x with
 |.own k=>match S.arr k with
  |some a=>if a.born.Kx=true then emit (.mI a.sz a.c) false S λv S=>K (S.put o.dst (.bD [.agg ((List.range a.sz).map λj=>.e (.proj v j)),.bT]))else die "entry"
  |none=>die "entry"
 |_=>die "entry"
def sQ(inl:fh)(yl:fh)(lx:Option Nat)(key:Nat)(o:Oper)(S:Sym)(K:Sym->M):M:=match o.op with
 |.move x | .assign x=>K (S.put o.dst (S.ay x))
 |.pick c x y=>Iu o c x y S K
 |.binOp op t x y _=>match(S.ay x).cu,(S.ay y).cu with
  |some p,some q=>emit (.bin op t p q) true S λv S=>K (S.put o.dst (.e v))
  |_,_=>die "binOp"
 |.unOp .not _ x=>match(S.ay x).cu with
  |some (.e (.bu (.bool b)))=>K (S.put o.dst (.e (.bu (.bool !b))))
  |some p=>emit (.un .not p) true S λv S=>K (S.put o.dst (.e v))
  |none=>die "unOp"
 |.unOp op _ x=>match(S.ay x).cu with
  |some p=>emit (.un op p) true S λv S=>K (S.put o.dst (.e v))
  |none=>die "unOp"
 |.convert src dst x=>match(S.ay x).cu with
  |some p=>emit (.conv src dst p) true S λv S=>K (S.put o.dst (.e v))
  |none=>die "convert"
 |.nilCheck x=>I1 o x S K
 |.extract x i=>I2 o x i S K
 |.fieldAddr t x f=>HQ X o t x f S K
 |.field t x f=>Hp X o t x f S K
 |.indexAddr t x i=>GW X o t x i S K
 |.index t x i=>match(S.ay x).cu,(S.ay i).cu with
  |some p,some q=>emit (.idx t p q) true S λv S=>K (S.put o.dst (.e v))
  |_,_=>die "index"
 |.load t x=>Iv X lx o t x S K
 |.store t x y=>DC X lx o t x y S K
 |.box t x=>uP X t (S.ay x) S λc S=>K (S.gu o.dst c)
 |.alloc t=>match ki X.P t with
  |some z=>if bG z then K (S.gu o.dst (oJ z))else die "alloc"
  |none=>die "alloc"
 |.build t parts=>HR X o t parts S K
 |.buildSlice t len parts=>Ab X lx key o t len parts S K
 |.makeSlice t l c=>D8 X lx o t l c S K
 |.slice t x cw aX none=>HS lx key o t x cw aX S K
 |.makeFunc (.func f) first bf=>if first.size≠0\/(bf.toList.all λx=>(S.ay x).yN S)=false then die "makeFunc" else K (S.put o.dst (.fn f (bf.toList.map S.ay)))
 |.call c=>match c.callee with
  |.value f=>AK X inl yl lx key o f c.args.toList S K
  |.builtin .len=>match c.argTypes[0]?,c.args.toList with
   |some t,[x]=>I3 X o t x S K
   |_,_=>die "len"
  |.builtin .min=>match hT (c.args.toList.map S.ay)with
   |some l=>emit (.iz false l) true S λv S=>K (S.put o.dst (.e v))
   |none=>die "min"
  |.builtin .max=>match hT (c.args.toList.map S.ay)with
   |some l=>emit (.iz true l) true S λv S=>K (S.put o.dst (.e v))
   |none=>die "max"
  |.builtin .append=>match c.argTypes,c.args.toList with
   |⟨[t,bw]⟩,[x,y]=>if t=bw then Dl X lx o t x y S K else die "append"
   |_,_=>die "append"
  |_=>die "builtin"
 |.makeMap t r=>pe X lx o t r S K
 |.mapUpdate t m k _=>o7 X lx o t m k S K
 |.range t x=>ps X lx o t x S K
 |.next x str=>pR lx o x str S K
 |.entry x=>pH lx o x S K
 |.panic _=>pure .die
 |.makeInterface _ _=>pure .die
 |_=>die "operation"
def kh(inl:fh)(yl:fh)(lx:Option Nat)(ops:Array Oper)(e2:Nat):List Oper->Nat->Sym->(Sym->M)->M
 |[],_,S,K=>K S
 |o::l,i,S,K=>match o.guard with
  |none=>sQ X inl yl lx (e2*1000+i) o S λS=>kh inl yl lx ops e2 l (i+1) S K
  |some (j,want)=>match(ops[j]?).bind (·.dst)with
   |none=>kh inl yl lx ops e2 l (i+1) (S.put o.dst .undef) K
   |some d=>match S.get d with
    |.undef=>kh inl yl lx ops e2 l (i+1) (S.put o.dst .undef) K
    |.e (.bu (.bool b))=>if b=want then sQ X inl yl lx (e2*1000+i) o S λS=>kh inl yl lx ops e2 l (i+1) S K else kh inl yl lx ops e2 l (i+1) (S.put o.dst .undef) K
    |.e x=>
     let run:=λ(S:Sym)=>sQ X inl yl lx (e2*1000+i) o S λS=>kh inl yl lx ops e2 l (i+1) S K;let skip:=λ(S:Sym)=>kh inl yl lx ops e2 l (i+1) (S.put o.dst .undef) K;let aA:=S.put (some d) (.e (.bu (.bool true)));let Vs:=S.put (some d) (.e (.bu (.bool false)))
     if want then FG x (run aA) (skip Vs)else FG x (skip aA) (run Vs)
    |_=>die "guard"
end
end
section
open Go Go.RowKit
variable[cQ]
structure Pos where
 box:Bool
 i:Nat
 j:Nat
 own:Option (Nat×e9)
 bK:Bool
 deriving Inhabited
structure mz where
 pos:List Pos
 iI:List Nat
 live:List Nat
 pre:List Nat
 bb:Bool
 deriving Inhabited
def Sym.at(S:Sym)(p:Pos):aL:=if p.box=true then(match S.bx.getD p.i .gone with | .cells l=>l.getD p.j .bT|_=>.bT)else S.get p.i
def Sym.setAt(S:Sym)(p:Pos)(v:aL):Sym:=if p.box=true then(match S.bx.getD p.i .gone with | .cells l=>{ S with bx:=S.bx.set p.i (.cells (l.set p.j v)) } | _=>S)else{ S with g:=(p.i,v)::S.g }
def ve(S:Sym):List Pos->List Nat
 |[]=>[]
 |p::l=>match p.own,S.at p with
  |some _,.own k=>k::ve S l
  |_,_=>ve S l
def Sym.xj(S:Sym):List Nat->Sym
 |[]=>S
 |k::l=>Sym.xj { S.dD (aL.q2 k true)with bd:=S.bd.set k none } l
def S0(g:List (Nat×aL)):List Nat->List (Nat×aL)
 |[]=>[]
 |t::l=>(t,cF g t)::S0 g l
def uE(k:Nat)(Jg:Nat->aL->Bool):List (Nat×aL)->Bool
 |[]=>false
 |p::l=>Jg k p.2||uE k Jg l
mutual
def aL.has(k:Nat):aL->Bool
 |.own j=>j+j==k
 |.fF j _ _=>j+j==k
 |.ptr i _=>i+i+1==k
 |.aV i _ _=>i+i+1==k
 |.fn _ l=>ti k l
 |.agg l=>ti k l
 |.bD l=>ti k l
 |.lit _ _ l=>ti k l
 |.ft l _=>ti k l
 |_=>false
def ti(k:Nat):List aL->Bool
 |[]=>false
 |v::l=>v.has k||ti k l
end
def ga.has(k:Nat):ga->Bool
 |.cells l=>ti k l
 |_=>false
def Sym.names(S:Sym)(k:Nat):Bool:=uE k aL.has S.g||S.bx.any (ga.has k)||S.ys.any λy=>uE k aL.has y.g
def RY(f:Nat->Bool):Nat->List (Option c6)->List (Option c6)
 |_,[]=>[]
 |k,a::l=>(if f k then a else none)::RY f (k+1) l
def RZ(f:Nat->Bool):Nat->List ga->List ga
 |_,[]=>[]
 |k,a::l=>(match a with | .cells c=>if f k then .cells c else .gone|b=>b)::RZ f (k+1) l
def Sym.keep(S:Sym)(live:List Nat):Sym:=
 let S:={ S with g:=S0 S.g live };let S:={ S with bx:=RZ (λk=>decide (k<S.dO)||S.names (k+k+1)) 0 S.bx }
 { S with bd:=RY (λk=>decide (k<S.base)||S.names (k+k)) 0 S.bd }
def Sym.fresh(S:Sym):List Pos->Sym
 |[]=>S
 |p::l=>match p.own with
  |none=>Sym.fresh { S.setAt p (.e (.var S.cd))with cd:=S.cd+1 } l
  |some (sz,b)=>Sym.fresh { S.setAt p (.own S.bd.length)with bd:=S.bd++[some ⟨sz,b,.var S.cd⟩],cd:=S.cd+1 } l
def Sym.A7(S:Sym):List Nat->Sym
 |[]=>S
 |k::l=>match S.bd.getD k none with
  |some a=>Sym.A7 { S with bd:=S.bd.set k (some { a with c:=.var S.cd }),cd:=S.cd+1 } l
  |none=>Sym.A7 { S with cd:=S.cd+1 } l
def oC(b4:mz)(S:Sym):Sym:={ (Sym.fresh ((S.xj (ve S b4.pos)).keep b4.live) b4.pos).A7 b4.iI with ey:=S.ey+1,bb:=b4.bb }
def yU(S:Sym):List Pos->Option (List aS×List (Option Nat))
 |[]=>some ([],[])
 |p::l=>match yU S l with
  |none=>none
  |some (a7,ck)=>match p.own,S.at p with
   |none,v=>match v.cu with
    |some q=>some (q::a7,none::ck)
    |none=>none
   |some (sz,b),.own k=>match S.arr k with
    |some a=>if a.sz=sz/\a.born.b b=true/\b.still=true/\ck.contains (some k)=false then some (.e a.c::a7,some k::ck)else none
    |none=>none
   |some (sz,.cZ),.e (.bu .bC)=>if 0<sz then some (.e (.bu (.agg []))::a7,none::ck)else none
   |_,_=>none
def y0(ba S:Sym):List Nat->Option (List aS)
 |[]=>some []
 |k::l=>match ba.arr k,S.arr k,y0 ba S l with
  |some h,some a,some a7=>if a.sz=h.sz/\a.born.b h.born=true then some (.e a.c::a7)else none
  |_,_,_=>none
def sY(l:List Pos)(box:Bool)(i j:Nat):Bool:=l.any λp=>p.box==box&&decide (p.i=i)&&(!box||decide (p.j=j))
def tS:Option c6->Option c6->Bool
 |none,none=>true
 |some a,some b=>decide (a.sz=b.sz)&&a.born.b b.born&&a.c.b b.c
 |_,_=>false
mutual
def aL.qj(H:Sym)(n:Nat):aL->Bool
 |.own k=>decide (k<n)&&(H.arr k).isSome
 |.fF _ _ _=>false
 |.cq _=>true
 |.fn _ l=>rk H n l
 |.agg l=>rk H n l
 |.bD l=>rk H n l
 |.lit _ _ l=>rk H n l
 |.ft l _=>rk H n l
 |_=>true
def rk(H:Sym)(n:Nat):List aL->Bool
 |[]=>true
 |v::l=>v.qj H n&&rk H n l
end
def BC(H:Sym)(n:Nat)(h u v:aL):Bool:=match h with
 |.bT=>true
 |h=>h.b u&&h.b v&&h.qj H n
def pq(P:Nat->Bool)(H:Sym)(n:Nat):Nat->List aL->List aL->List aL->Bool
 |_,[],[],[]=>true
 |t,h::ao,u::us,v::af=>(P t||BC H n h u v)&&pq P H n (t+1) ao us af
 |_,_,_,_=>false
def ng(P:Nat->Bool)(H ba S:Sym)(n:Nat):List (Nat×aL)->Bool
 |[]=>true
 |p::l=>(P p.1||BC H n (H.get p.1) (ba.get p.1) (S.get p.1))&&ng P H ba S n l
def jR(l:List Pos)(H:Sym)(n:Nat):Nat->List ga->List ga->List ga->Bool
 |_,[],[],_=>true
 |i,.cells ao::fI,.cells us::ei,.cells af::ss=>pq (sY l true i) H n 0 ao us af&&jR l H n (i+1) fI ei ss
 |i,.c8::fI,.c8::ei,.c8::ss=>jR l H n (i+1) fI ei ss
 |i,.gone::fI,_::ei,_::ss=>jR l H n (i+1) fI ei ss
 |_,_,_,_=>false
def JP(ck:List (Option Nat))(as:List Nat)(H ba S:Sym)(n:Nat):Bool:=(List.range n).all λk=>
 match H.arr k with
 |none=>true
 |some h=>!ck.contains (some k)&&(as.contains k||(tS (some h) (ba.arr k)&&tS (some h) (S.arr k)))
def Bj:List cj->List cj->Bool
 |[],[]=>true
 |a::l,b::m=>decide (a.pend=b.pend)&&decide (a.busy=b.busy)&&Bj l m
 |_,_=>false
def Bi(H:Sym)(n:Nat):Nat->List Pos->Bool
 |_,[]=>true
 |v,p::l=>(match p.own with
  |none=>(H.at p).b (.e (.var v))
  |some (sz,b)=>match H.at p with
   |.own K=>decide (n<=K)&&(match H.arr K with|some a=>decide (a.sz=sz)&&a.born.b b&&a.c.b (.var v)|none=>false)
   |_=>false)&&Bi H n (v+1) l
def A8(H ba:Sym):Nat->List Nat->Bool
 |_,[]=>true
 |v,k::l=>(match H.arr k,ba.arr k with|some h,some a=>decide (h.sz=a.sz)&&h.born.b a.born&&h.c.b (.var v)|_,_=>false)&&decide (l.contains k=false)&&A8 H ba (v+1) l
def nS(H:Sym):List Pos->List (Option Nat)
 |[]=>[]
 |p::l=>(match p.own,H.at p with|some _,.own K=>some K|_,_=>none)::nS H l
def IP(ck:List (Option Nat))(n m:Nat):Bool:=(List.range m).all λk=>decide (k<n)||ck.contains (some k)
def sr:List (Option Nat)->Bool
 |[]=>true
 |none::l=>sr l
 |some k::l=>!l.contains (some k)&&sr l
def Jn(H ba S:Sym)(ck:List (Option Nat))(as:List Nat):Bool:=(List.range H.base).all λk=>tS (H.arr k) (ba.arr k)&&tS (H.arr k) (S.arr k)&&!ck.contains (some k)&&!as.contains k
def Em(b4:mz)(ba H S:Sym):Option (List aS):=match yU S b4.pos with
 |some (a7,ck)=>match y0 ba S b4.iI with
  |some bz=>if decide (H.cd=ba.cd+b4.pos.length+b4.iI.length)&&Bi H ba.bd.length ba.cd b4.pos&&A8 H ba (ba.cd+b4.pos.length) b4.iI&&sr (nS H b4.pos)&&IP (nS H b4.pos) ba.bd.length H.bd.length&&decide (ba.bd.length<=H.bd.length) &&
    ng (λt=>sY b4.pos false t 0) H ba S ba.bd.length H.g&&jR b4.pos H ba.bd.length 0 H.bx ba.bx S.bx&&JP ck b4.iI H ba S ba.bd.length&&b4.iI.all (λk=>decide (k<ba.bd.length))&&Bj H.ys S.ys&&(b4.bb||(!S.bb&&Jn H ba S ck b4.iI))then some (a7++bz)else none
  |none=>none
 |none=>none
def Jv(S:Sym):List Pos->List Nat
 |[]=>[]
 |p::l=>(if p.own.isSome||!p.bK then[]else(S.at p).owns)++Jv S l
def ad8(b4:mz)(H S:Sym):String:=
 let own:=λ(S:Sym)(v:aL)=>match v with
  |.own k=>match S.arr k with
   |some a=> "x"
   |none => "-"
  |.e (.bu .bC) => "n"
  |.e _ => "v"
  |.agg _ => "v"
  |.lit _ _ _ => "v"
  |.bT => "j"
  |.undef => "u"
  |_ => "x"
 let ok:=λ(h v:aL)=>match h with | .bT=>true|h=>h.b v
 let ch:=(List.range H.bd.length).filterMap λk=>if k<H.bd.length-(b4.pos.filter λp=>p.own.isSome).length&&!b4.iI.contains k&&(H.bd.getD k none).isSome&&(S.bd.getD k none).isSome&&!tS (H.bd.getD k none) (S.bd.getD k none)then some "x" else none
 let g:=((List.range 4000).filter λt=>H.g.any λp=>p.1==t).filterMap λt=>if sY b4.pos false t 0||ok (H.get t) (S.get t)then none else some "x"
 let b:=(List.range H.bx.length).flatMap λi=>match H.bx.getD i .gone,S.bx.getD i .gone with
  |.cells h,.cells v=>(List.range h.length).filterMap λj=>if sY b4.pos true i j||ok (h.getD j .bT) (v.getD j .bT)then none else some "x"
  |_,_=>[]
 let e:=if b4.bb||!S.bb then "" else "eff-"
 let pv:=b4.pos.map λp=> "x";let ajB:=(List.range H.bx.length).filterMap λi=>match H.bx.getD i .gone,S.bx.getD i .gone with
  |.cells _,.gone=>some "x"
  |_,_=>none
 let ajC:=(List.range H.bd.length).filterMap λk=>if k<H.bd.length-(b4.pos.filter λp=>p.own.isSome).length&&(H.bd.getD k none).isSome&&(S.bd.getD k none).isNone then some "x" else none
 String.join ch++String.join ajB++String.join ajC++String.join g++String.join b++e++String.join pv
structure Hints where
 sites:List Nat
 cp:List (Nat×Nat×Nat)
 thaw:List (Nat×Nat×Nat)
 KA:List (Nat×Nat×mz)
def Bc:List (Nat×Nat×Nat)->Nat->Nat->Nat
 |[],_,_=>0
 |(f,r,n)::l,g,q=>if f=g/\r=q then n else Bc l g q
def Jw:List (Nat×Nat×mz)->Nat->Nat->Option mz
 |[],_,_=>none
 |(f,r,n)::l,g,q=>if f=g/\r=q then some n else Jw l g q
def Jx:List (Nat×Nat×Nat)->Nat->Nat->List Nat
 |[],_,_=>[]
 |(f,r,n)::l,g,q=>if f=g/\r=q then n::Jx l g q else Jx l g q
section
variable(X:Ctx)(W:Hints)
def FA(b4:mz)(ba H S:Sym)(L:Nat)(CR:String):M:=kj 40 (Jv S b4.pos) S λS=>match Em b4 ba H S with
 |some af=>pure (.jump L af)
 |none=>die (CR++ad8 b4 H S)
def Tree.low(L:Nat):List Nat->Tree->Bool
 |_,.ret _=>true
 |ex,.jump cL _=>ex.contains cL||decide (cL<L)
 |ex,.av _ t=>t.low L ex
 |ex,.ite _ a b=>a.low L ex&&b.low L ex
 |ex,.call _ _ t=>t.low L ex
 |ex,.kL _ _ t=>t.low L ex
 |ex,.pick _ _ t=>t.low L ex
 |ex,.loop cL _ b=>b.low L (cL::ex)
 |ex,.join cL b k=>b.low L (cL::ex)&&k.low L ex
 |_,.die=>true
def xk(L:Nat)(x:M):M:=match x with
 |.ok t=>if t.low L []then .ok t else die "label"
 |.error e=>.error e
def y1(p:Nat)(S:Sym)(run:Sym->(eJ->Sym->M)->M)(K:eJ->Sym->M):M:=match Jw W.KA S.site p with
 |none=>run S K
 |some b4=>kj 40 b4.pre S λS=>do
  let H:=oC b4 S;let body ←run { S with ey:=S.ey+1 } λe br=>match e with
   |.normal=>FA b4 S H br S.ey "x"
   |e=>xk S.ey (K e br)
  let k ←K .normal H
  pure (.join S.ey body k)
mutual
def aS.b:aS->aS->Bool
 |.e x,.e y=>x.b y||(match x,y with
  |.bu (.ptr i o),.bu (.ptr j q)=>decide (i=j)&&decide (o=q)
  |_,_=>false)
 |.agg l,.agg m=>lX l m
 |.bD l,.bD m=>lX l m
 |.lit a b l,.lit c d m=>decide (a=c)&&decide (b=d)&&lX l m
 |.fn f l,.fn g m=>decide (f=g)&&lX l m
 |.ref l,.ref m=>lX l m
 |_,_=>false
def lX:List aS->List aS->Bool
 |[],[]=>true
 |x::l,y::m=>x.b y&&lX l m
 |_,_=>false
end
def BE:List aa->List aa->Bool
 |[],[]=>true
 |x::l,y::m=>Cx x y&&BE l m
 |_,_=>false
def BF:Option aS->Option aS->Bool
 |none,none=>true
 |some x,some y=>x.b y
 |_,_=>false
def Prim.b:Prim->Prim->Bool
 |.bin o t x y,.bin o' bw bk dj=>decide (o=o')&&decide (t=bw)&&x.b bk&&y.b dj
 |.un o x,.un o' bk=>decide (o=o')&&x.b bk
 |.conv s t x,.conv s' bw bk=>decide (s=s')&&decide (t=bw)&&x.b bk
 |.ext x i,.ext bk cm=>x.b bk&&decide (i=cm)
 |.agg n x,.agg eu bk=>decide (n=eu)&&x.b bk
 |.one x,.one bk=>x.b bk
 |.row z x i,.row dy bk cm=>decide (z=dy)&&x.b bk&&i.b cm
 |.idx z x i,.idx dy bk cm=>decide (z=dy)&&x.b bk&&i.b cm
 |.len z x,.len dy bk=>decide (z=dy)&&x.b bk
 |.slice z x l h,.slice dy bk aG bc=>decide (z=dy)&&x.b bk&&BF l aG&&BF h bc
 |.iz m l,.iz m' aG=>decide (m=m')&&lX l aG
 |.j2 l,.j2 aG=>lX l aG
 |.mk z b x,.mk dy a6 bk=>BE z dy&&decide (b=a6)&&x.b bk
 |.kX z c i,.kX dy c' cm=>decide (z=dy)&&c.b c'&&i.b cm
 |.get z o n c i,.get dy o' eu c' cm=>decide (z=dy)&&decide (o=o')&&decide (n=eu)&&c.b c'&&i.b cm
 |.put z o c i l,.put dy o' c' cm aG=>decide (z=dy)&&decide (o=o')&&c.b c'&&i.b cm&&lX l aG
 |.push z b c y,.push dy a6 c' dj=>decide (z=dy)&&decide (b=a6)&&c.b c'&&y.b dj
 |.oG z c,.oG dy c'=>decide (z=dy)&&c.b c'
 |.bK z b c,.bK dy a6 c'=>decide (z=dy)&&b.b a6&&c.b c'
 |.deref n x,.deref eu bk=>decide (n=eu)&&x.b bk
 |.cont r z x,.cont bR dy bk=>decide (r=bR)&&decide (z=dy)&&x.b bk
 |.wZ x,.wZ bk=>x.b bk
 |.ints x,.ints bk=>x.b bk
 |.ins k z c l,.ins bB dy c' aG=>decide (k=bB)&&decide (z=dy)&&c.b c'&&lX l aG
 |.keys z x,.keys dy bk=>decide (z=dy)&&x.b bk
 |.mI z x,.mI dy bk=>decide (z=dy)&&x.b bk
 |.lI x,.lI bk=>x.b bk
 |.qz x,.qz bk=>x.b bk
 |.qA b c,.qA a6 c'=>b.b a6&&c.b c'
 |_,_=>false
def Tree.b:Tree->Tree->Bool
 |.ret v,.ret u=>v.b u
 |.jump L l,.jump M m=>decide (L=M)&&lX l m
 |.av p t,.av q u=>p.b q&&t.b u
 |.ite c x y,.ite d u v=>c.b d&&x.b u&&y.b v
 |.call g l t,.call h m u=>decide (g=h)&&lX l m&&t.b u
 |.kL f l t,.kL g m u=>f.b g&&lX l m&&t.b u
 |.pick z c t,.pick dy c' u=>decide (z=dy)&&c.b c'&&t.b u
 |.loop L i t,.loop M j u=>decide (L=M)&&lX i j&&t.b u
 |.join L x y,.join M u v=>decide (L=M)&&x.b u&&y.b v
 |.die,.die=>true
 |_,_=>false
def EL(inl:fh)(yl:fh)(ops:Array Oper)(e2:Nat)(S:Sym)(k:Nat->Sym->M)(i:Nat):M:=match ops[i]? with
 |some o=>kh X inl yl none ops e2 [o] i S (k i)
 |none=>die "any"
def SR(t:Tree):M->Bool
 |.ok u=>t.b u
 |.error _=>false
def wv(inl:fh)(yl:fh)(ops:Array Oper)(e2:Nat):Nat->Array Bool->Sym->(Sym->M)->M
 |0,l,S,K=>match Region.ready .any ops l with
  |[]=>K S
  |_::_=>die "any"
 |n+1,l,S,K=>match Region.ready .any ops l with
  |[]=>K S
  |i::is=>do
   let t ←EL X inl yl ops e2 S (λi S=>wv inl yl ops e2 n (l.setIfInBounds i true) S K) i
   if is.all λj=>SR t (EL X inl yl ops e2 S (λi S=>wv inl yl ops e2 n (l.setIfInBounds i true) S K) j)then pure t else die "x"
inductive b6 where
 |put (d:Option Tmp) (v:aL)
 |anB (d:Option Tmp) (b off:Nat) (v:aL)
 |st (b off:Nat) (v:aL)
def b6.dst:b6->Option Tmp
 |.put d _=>d
 |.anB d _ _ _=>d
 |.st _ _ _=>none
def gW(o:Oper)(S:Sym):Option b6:=match o.guard with
 |some _=>none
 |none=>match o.op with
  |.move x=>some (.put o.dst (S.ay x))
  |.assign x=>some (.put o.dst (S.ay x))
  |.fieldAddr t x f=>match X.P.underlying t with
   |some (.struct fs)=>match fs[f]? with
    |some fd=>if X.P.cellsOf fd.type=0\/(X.P.info? fd.type).isNone then none else match S.ay x with
     |.ptr i off=>some (.put o.dst (.ptr i (off+fd.offset)))
     |_=>none
    |none=>none
   |_=>none
  |.indexAddr t x i=>match X.P.underlying t with
   |some (.slice e)=>match(S.ay i).cu with
    |some _=>if(X.P.info? e).isNone\/X.P.cellsOf e=0 then none else match S.ay x with
     |.aV b sz len=>match S.ay i with
      |.e (.bu (.int _ n))=>if 0<=n/\n<(len:Int)/\X.P.cellsOf e=sz then some (.put o.dst (.ptr b (n.toNat*sz)))else none
      |_=>none
     |_=>none
    |none=>none
   |_=>none
  |.load t x=>match S.ay x with
   |.ptr i off=>match ik X.P t with
    |some false=>match S.bx[i]? with
     |some (ga.cells l)=>match l[off]? with
      |some v=>some (.anB o.dst i off v)
      |none=>none
     |_=>none
    |_=>none
   |_=>none
  |.store t x y=>if o.dst.isSome\/(X.P.info? t).isNone then none else match S.ay x with
   |.ptr i off=>match ik X.P t,S.ay y with
    |some false,.e v=>if S.E6 v then(match S.bx[i]? with
     |some (ga.cells l)=>if 1=X.P.cellsOf t/\off+1<=l.length then some (.st i off (.e v))else none
     |_=>none)else none
    |_,_=>none
   |_=>none
  |_=>none
def eV(S:Sym):b6->Sym
 |.put d v=>S.put d v
 |.anB d _ _ v=>S.put d v
 |.st b off v=>match S.bx[b]? with
  |some (ga.cells l)=>S.hq b (AX l off [v])
  |_=>S
def nN:List Oper->Sym->Option (List b6)
 |[],_=>some []
 |o::os,S=>match gW X o S with
  |some e=>match nN os (eV S e)with
   |some es=>some (e::es)
   |none=>none
  |none=>none
def b6.clash:b6->b6->Bool
 |.st b k _,.st a6 bB _=>Nat.beq b a6&&Nat.beq k bB
 |.st b k _,.anB _ a6 bB _=>Nat.beq b a6&&Nat.beq k bB
 |.anB _ b k _,.st a6 bB _=>Nat.beq b a6&&Nat.beq k bB
 |x,y=>match x.dst,y.dst with
  |some d,some dq=>Nat.beq d dq
  |_,_=>false
def hi:List b6->Bool
 |[]=>true
 |e::es=>es.all (λe'=>!e.clash e')&&hi es
def ns:Operand->List Nat
 |.tmp t=>[t]
 |_=>[]
def pW:Op->List Nat
 |.move x | .assign x | .fieldAddr _ x _ | .load _ x=>ns x
 |.indexAddr _ x y | .store _ x y=>ns x++ns y
 |_=>[]
def oe(o:Oper)(i t:Nat):List b6->Nat->Bool
 |[],_=>true
 |e::es,j=>(match e.dst with
  |some d=>!Nat.beq d t||(Nat.blt j i&&o.after.any λdJ=>Region.binds .any dJ&&Nat.beq dJ.on j)
  |none=>true)&&oe o i t es (j+1)
def qS(es:List b6):List Oper->Nat->Bool
 |[],_=>true
 |o::os,i=>o.after.all (λdJ=>!Region.binds .any dJ||Nat.blt dJ.on i)&&(pW o.op).all (λt=>oe o i t es 0)&&qS es os (i+1)
def sV(ops:Array Oper)(S:Sym):Option Sym:=match nN X ops.toList S with
 |some es=>if hi es&&qS es ops.toList 0 then some (es.foldl eV S)else none
 |none=>none
def sO:eJ->Option (Option Nat)
 |.normal=>none
 |.ret=>some none
 |.exit i=>some (some i)
def xl:Option (Option Nat)->eJ
 |none=>.normal
 |some none=>.ret
 |some (some i)=>.exit i
mutual
def aL.qx(n:Nat):aL->aL
 |.cq y=>if y<n then .cq y else .bT
 |.fn f l=>.fn f (rC n l)
 |.ft l o=>.ft (rC n l) o
 |.agg l=>.agg (rC n l)
 |.bD l=>.bD (rC n l)
 |.lit a b l=>.lit a b (rC n l)
 |.own k=>.own k
 |.fF k x fo=>.fF k x fo
 |.e y=>.e y
 |.undef=>.undef
 |.bT=>.bT
 |.ptr i o=>.ptr i o
 |.aV i o z=>.aV i o z
 |.c8=>.c8
 |.fQ y s fo=>.fQ y s fo
def rC(n:Nat):List aL->List aL
 |[]=>[]
 |v::l=>v.qx n::rC n l
end
def HK(inl:fh)(f:FuncId)(h:Operand)(a7:Array Tmp)(a b:Code)(p:Nat)(S:Sym)(K:eJ->Sym->M):M:=match S.ay h with
 |.fn g bf=>match X.P.funcs[g]? with
  |some fn=>if fn.name = "runtime.NumGoroutine" \/ fn.body.isNone then die "range" else
   inl (700000+p%100000) g (.cq S.ys.length::bf) { S with ys:=S.ys++[⟨mapA aL.kI S.g,f,a7.toList,a,b,p,none,false⟩] } λ_ br=>
    match br.ys[S.ys.length]? with
    |some y=>if y.busy then die "range" else K (xl y.pend) { br with bx:=br.bx.map (ga.map (aL.qx S.ys.length)),ys:=br.ys.take S.ys.length }
    |none=>die "range"
  |none=>die "range"
 |_=>die "range over a function that is not known"
def comp(inl:fh)(yl:fh)(f:FuncId):Code->Nat->Sym->(eJ->Sym->M)->M
 |.skip,_,S,K=>K .normal S
 |.label _,_,S,K=>K .normal S
 |.scope x,p,S,K=>comp inl yl f x (2*p) S K
 |.ret,_,S,K=>K .ret S
 |.exit id,_,S,K=>K (.exit id) S
 |.seq x y,p,S,K=>comp inl yl f x (2*p) S λe S=>match e with
  |.normal=>comp inl yl f y (2*p+1) S K
  |e=>K e S
 |.cond c x y,p,S,K=>y1 W p S (λS K=>match S.ay c with
   |.e (.bu (.bool b))=>if b then comp inl yl f x (2*p) S K else comp inl yl f y (2*p+1) S K
   |.e e=>do
    let a ←comp inl yl f x (2*p) S K
    let b ←comp inl yl f y (2*p+1) S K
    pure (.ite e a b)
   |_=>die "cond") K
 |.block id x,p,S,K=>y1 W p S (λS K=>comp inl yl f x (2*p) S λe S=>match e with
   |.exit i=>if i=id then K .normal S else K (.exit i) S
   |e=>K e S) K
 |.region e2 ops false,p,S,K=>y1 W p S (λS K=>kh X inl yl none ops e2 ops.toList 0 S (K .normal)) K
 |.region e2 ops true,p,S,K=>y1 W p S (λS K=>
   if Ra ops (Bc W.cp f e2)then kj 40 (Jx W.thaw S.site e2) S λS=>
    kh X inl yl (some S.bx.length) ops e2 (ops.toList.take (Bc W.cp f e2)) 0 S λS=>kh X inl yl none ops e2 (ops.toList.drop (Bc W.cp f e2)) (Bc W.cp f e2) S (K .normal)
   else match sV X ops S with
    |some br=>K .normal br
    |none=>wv X inl yl ops e2 ops.size (Array.replicate ops.size false) S (K .normal)) K
 |.loop x,p,S,K=>match Jw W.KA S.site p with
  |none=>die "x"
  |some b4=>kj 40 (b4.pre++Jv S b4.pos) S λS=>do
   let H:=oC b4 S
   match Em b4 S H S with
   |none=>die "x"
   |some af=>do
    let body ←comp inl yl f x (2*p) H λe br=>match e with
     |.normal=>FA b4 S H br S.ey "x"
     |e=>xk S.ey (K e br)
    pure (.loop S.ey af body)
 |.rangeFunc h a7 a b,p,S,K=>HK X inl f h a7 a b p S K
 |_,_,_,_=>die "code"
def pA(S:Sym):List ResultVar->Option (List aL)
 |[]=>some []
 |.tmp t::l=>(pA S l).map (S.get t::·)
 |.cell x t::l=>match S.get x with
  |.ptr i off=>match E8 X S none t i off,pA S l with
   |some v,some af=>some (v::af)
   |_,_=>none
  |_=>none
def pB:List aL->aL
 |[v]=>v
 |l=>.bD l
def hj:Nat->List aL->List (Nat×aL)
 |_,[]=>[]
 |i,v::l=>(i,v)::hj (i+1) l
def Sym.sub(S:Sym)(g:List (Nat×aL))(site:Nat):Sym:={ S with g:=g,site:=site,base:=S.bd.length,dO:=S.bx.length,bb:=false }
def Sym.back(S br:Sym):Sym:={ br with g:=if br.bb then mapA aL.kI S.g else S.g,site:=S.site,base:=S.base,dO:=S.dO,bb:=S.bb||br.bb }
def y2(g:List (Nat×aL)):List Nat->List aL->List (Nat×aL)
 |p::a7,v::af=>y2 ((p,v)::g) a7 af
 |_,_=>g
def tg(l:List cj)(y:Nat)(b:Bool)(e:Option (Option Nat)):List cj:=match l[y]? with
 |some r=>l.set y { r with pend:=e,busy:=b }
 |none=>l
mutual
def vf:Nat->fh
 |0,_,g,_,_,_=>die "x"
 |n+1,key,g,args,S,K=>match X.P.funcs[g]? with
  |none=>die "function"
  |some fn=>match fn.body with
   |none=>die "body"
   |some c=>if(hr fn.ntmps c&&!jU X.P c)=false\/fn.ntmps<args.length then die "slots" else
    if W.sites.contains (S.site*1000000+key+1)=false then die "x" else
    comp X W (vf n) (vg n) g c 1 (S.sub (hj 0 args) (S.site*1000000+key+1)) λe br=>match e with
     |.exit _=>die "exit"
     |_=>match pA X br fn.results.toList with
      |some af=>K (pB af) (S.back br)
      |none=>die "x"
def vg:Nat->fh
 |0,_,_,_,_,_=>die "too deep- yield"
 |n+1,key,y,args,S,K=>match S.ys[y]? with
  |none=>die "yield"
  |some r=>if r.pend≠none\/r.busy=true\/args.length≠r.a7.length\/mm r.kV=false\/mm r.body=false then die "yield behind the end" else
   if W.sites.contains (S.site*1000000+key+1)=false then die "x" else
   comp X W (vf n) (vg n) r.f r.kV (2*r.p) (S.sub (y2 r.g r.a7 args) (S.site*1000000+key+1)) λe ba=>match e with
    |.normal=>match ba.ys[y]? with
     |some eh=>if eh.pend≠none\/eh.busy=true then die "yield- assignments" else
      comp X W (vf n) (vg n) r.f r.body (2*r.p+1) { ba with ys:=tg ba.ys y true none } λe br=>K (.e (.bu (.bool (iH e).isNone))) { S.back br with ys:=tg br.ys y false (sO e) }
     |none=>die "yield- assignments"
    |_=>die "yield- assignments"
end
def AW(eM:TypeId):List TypeId->Nat->List aL
 |[],_=>[]
 |t::l,i=>(if t=eM then .c8 else .e (.var i))::AW eM l (i+1)
def Bm:Nat->Nat->List aL
 |0,_=>[]
 |n+1,i=>.e (.var i)::Bm n (i+1)
def RM(fn:Func):Sym:={ g:=hj 0 (AW X.eM fn.params.toList 0++Bm fn.nfree fn.params.size),bx:=[],bd:=[],ys:=[],cd:=fn.params.size+fn.nfree,cU:=[],ey:=0,site:=0,base:=0,dO:=0,bb:=false }
def D7(f:FuncId)(K:Func->Sym->M):M:=match X.P.funcs[f]? with
 |none=>die "function"
 |some fn=>match fn.body with
  |none=>die "body"
  |some c=>if(hr fn.ntmps c&&!jU X.P c)=false\/fn.ntmps<fn.params.size+fn.nfree then die "slots" else
   comp X W (vf X W 12) (vg X W 12) f c 1 (RM X fn) λe S=>match e with
    |.exit _=>die "exit"
    |_=>K fn S
def TF(fn:Func)(S:Sym):M:=match pA X S fn.results.toList with
 |some af=>kj 40 (nV af) S λS=>match pA X S fn.results.toList with
  |some af=>match(pB af).cu with
   |some v=>pure (.ret v)
   |none=>die "result"
  |none=>die "result"
 |none=>die "results"
def IU(f:FuncId):M:=D7 X W f (TF X)
def E1:Option (Nat×Nat)->aL->Option Nat
 |none,.own k=>some k
 |some (n,j),.agg l=>if l.length=n then match l[j]? with
  |some (.own k)=>some k
  |_=>none
  else none
 |_,_=>none
def RP:Option (Nat×Nat)->aL->aR->aL
 |none,_,x=>.e x
 |some (_,j),.agg l,x=>.agg (l.set j (.e x))
 |_,_,_=>.bT
def TG(r:Option (Nat×Nat))(fn:Func)(S:Sym):M:=match pA X S fn.results.toList with
 |some af=>match E1 r (pB af)with
  |some k=>kj 40 ((nV af).filter λi=>i != k+k) S λS=>match pA X S fn.results.toList with
   |some af=>match E1 r (pB af)with
    |some k=>match S.arr k with
     |some a=>if a.born.j2=false then die "result" else emit (.bK a.sz a.born a.c) true S λx S=>match(RP r (pB af) x).cu with
      |some v=>pure (.ret v)
      |none=>die "result"
     |none=>die "result"
    |none=>die "result"
   |none=>die "result"
  |none=>match r,pB af with
   |none,.e (.bu .bC)=>pure (.ret (.e (.bu .bC)))
   |_,_=>die "no own result"
 |none=>die "results"
def Ir(r:Option (Nat×Nat))(f:FuncId):M:=D7 X W f (TG X r)
end
end
end Go.Proofs.YtlminnpaeaganaaGreat
