/- Part of the proof of RuleBeside. No condition. -/
import Derived.Test.YtlminnpaeaganaaGreatMBesideAE
namespace Go.Proofs.YtlminnpaeaganaaGreat
set_option maxRecDepth 100000
set_option linter.all false
section
open Go Go.RowKit
variable[cQ]
def Cx:aa->aa->Bool
 |.int k a,.int bB b=>decide (k=bB)&&decide (a=b)
 |.bool a,.bool b=>a==b
 |.bC,.bC=>true
 |.ca,.ca=>true
 |.eL,.eL=>true
 |.agg [],.agg []=>true
 |_,_=>false
def aR.b:aR->aR->Bool
 |.var i,.var j=>decide (i=j)
 |.proj x i,.proj y j=>decide (i=j)&&x.b y
 |.bu v,.bu u=>Cx v u
 |_,_=>false
def e9.b:e9->e9->Bool
 |.real,.real=>true
 |.cZ,.cZ=>true
 |.dyn x,.dyn y=>x.b y
 |.map,.map=>true
 |.it,.it=>true
 |_,_=>false
def e9.still:e9->Bool
 |.dyn _=>false
 |.map | .it=>false
 |_=>true
def e9.j2:e9->Bool
 |.map | .it=>false
 |_=>true
def e9.isMap:e9->Bool
 |.map=>true
 |_=>false
def e9.Kx:e9->Bool
 |.it=>true
 |_=>false
mutual
def aL.b:aL->aL->Bool
 |.e x,.e y=>x.b y
 |.undef,.undef=>true
 |.ptr i o,.ptr j p=>decide (i=j)&&decide (o=p)
 |.c8,.c8=>true
 |.cq a,.cq b=>decide (a=b)
 |.own k,.own j=>decide (k=j)
 |.fF k x fo,.fF j y L8=>decide (k=j)&&x.b y&&decide (fo=L8)
 |.fQ x s fo,.fQ y t L8=>x.b y&&decide (s=t)&&decide (fo=L8)
 |.ft l a,.ft m b=>decide (a=b)&&rF l m
 |.fn f l,.fn g m=>decide (f=g)&&rF l m
 |.agg l,.agg m=>rF l m
 |.bD l,.bD m=>rF l m
 |.lit a b l,.lit c d m=>decide (a=c)&&decide (b=d)&&rF l m
 |_,_=>false
def rF:List aL->List aL->Bool
 |[],[]=>true
 |x::l,y::m=>x.b y&&rF l m
 |_,_=>false
end
mutual
def aL.cu:aL->Option aS
 |.e x=>some (.e x)
 |.agg l=>(hT l).map .agg
 |.bD l=>(hT l).map .bD
 |.lit sz len l=>(hT l).map (.lit sz len)
 |.fn f l=>(hT l).map (.fn f)
 |.ft l 0=>(hT l).map .ref
 |_=>none
def hT:List aL->Option (List aS)
 |[]=>some []
 |x::l=>match x.cu,hT l with
  |some p,some ps=>some (p::ps)
  |_,_=>none
end
mutual
def aL.owns:aL->List Nat
 |.own k=>[k+k]
 |.fF k _ _=>[k+k]
 |.ptr i _=>[i+i+1]
 |.agg l=>nV l
 |.bD l=>nV l
 |.lit _ _ l=>nV l
 |.fn _ l=>nV l
 |.ft l _=>nV l
 |_=>[]
def nV:List aL->List Nat
 |[]=>[]
 |x::l=>x.owns++nV l
end
mutual
def aL.cx(i:Nat)(l:List aL):aL->aL
 |.ptr j o=>if j=i then .ft l o else .ptr j o
 |.fn f m=>.fn f (uO i l m)
 |.agg m=>.agg (uO i l m)
 |.bD m=>.bD (uO i l m)
 |.lit a b m=>.lit a b (uO i l m)
 |.ft m o=>.ft (uO i l m) o
 |.own k=>.own k
 |.fF k x fo=>.fF k x fo
 |.e y=>.e y
 |.undef=>.undef
 |.bT=>.bT
 |.c8=>.c8
 |.cq a=>.cq a
 |.fQ y s fo=>.fQ y s fo
def uO(i:Nat)(l:List aL):List aL->List aL
 |[]=>[]
 |v::m=>v.cx i l::uO i l m
end
mutual
def aL.bK(k:Nat)(x:aR):aL->aL
 |.own j=>if j=k then .e x else .own j
 |.fF j i fo=>if j=k then .bT else .fF j i fo
 |.fn f l=>.fn f (u0 k x l)
 |.ft l o=>.ft (u0 k x l) o
 |.agg l=>.agg (u0 k x l)
 |.bD l=>.bD (u0 k x l)
 |.lit a b l=>.lit a b (u0 k x l)
 |.e y=>.e y
 |.undef=>.undef
 |.bT=>.bT
 |.ptr i o=>.ptr i o
 |.c8=>.c8
 |.cq a=>.cq a
 |.fQ y s fo=>.fQ y s fo
def u0(k:Nat)(x:aR):List aL->List aL
 |[]=>[]
 |v::l=>v.bK k x::u0 k x l
end
mutual
def aL.q2(k:Nat)(all:Bool):aL->aL
 |.own j=>if j=k/\all=true then .bT else .own j
 |.fF j i fo=>if j=k then .bT else .fF j i fo
 |.fn f l=>.fn f (u1 k all l)
 |.ft l o=>.ft (u1 k all l) o
 |.agg l=>.agg (u1 k all l)
 |.bD l=>.bD (u1 k all l)
 |.lit a b l=>.lit a b (u1 k all l)
 |.e y=>.e y
 |.undef=>.undef
 |.bT=>.bT
 |.ptr i o=>.ptr i o
 |.c8=>.c8
 |.cq a=>.cq a
 |.fQ y s fo=>.fQ y s fo
def u1(k:Nat)(all:Bool):List aL->List aL
 |[]=>[]
 |v::l=>v.q2 k all::u1 k all l
end
def aL.E5:aL->Bool
 |.bT=>false
 |_=>true
def ga.map(f:aL->aL):ga->ga
 |.cells l=>.cells (l.map f)
 |.c8=>.c8
 |.gone=>.gone
def aL.kI:aL->aL
 |.own _=>.bT
 |.fF _ _ _=>.bT
 |.e y=>.e y
 |.undef=>.undef
 |.ptr i o=>.ptr i o
 |.c8=>.c8
 |.cq a=>.cq a
 |.fQ y s fo=>.fQ y s fo
 |v=>match v.owns.filter (·%2==0)with
  |[]=>v
  |_=>.bT
def Sym.get(S:Sym)(t:Nat):aL:=S.g.getD t .bT
def Sym.put(S:Sym)(d:Option Tmp)(v:aL):Sym:=match d with
 |some d=>{ S with g:=S.g.set d v }
 |none=>S
def Sym.dD(S:Sym)(f:aL->aL):Sym:={ S with g:=S.g.map f,bx:=S.bx.map (ga.map f) }
def Ky:aa->aL
 |.undef=>.undef
 |.bad=>.bT
 |v=>if v.plain then .e (.bu v)else .bT
def Sym.ay(S:Sym):Operand->aL
 |.tmp t=>S.get t
 |.const v=>Ky (jT v)
 |.func f=>.fn f []
 |.global _=>.bT
abbrev M:=Except String Tree
def die(s:String):M:=.error s
def FG(x:aR)(a b:M):M:=match a,b with
 |.ok a,.ok b=>.ok (.ite x a b)
 |.error e,_=>.error e
 |_,.error e=>.error e
def emit(p:Prim)(cU:Bool)(S:Sym)(k:aR->Sym->M):M:=do
 let t ←k (.var S.cd) { S with cd:=S.cd+1,cU:=if cU then S.cd::S.cU else S.cU }
 pure (.av p t)
def Sym.hK(S:Sym)(k:Nat)(x:aR):Sym:={ S.dD (aL.bK k x)with bd:=S.bd.set k none,bb:=S.bb||decide (k<S.base) }
def Kz(k:Nat)(S:Sym)(K:Sym->M):M:=match S.bd.getD k none with
 |some a=>emit (.bK a.sz a.born a.c) true S λx S=>K (S.hK k x)
 |none=>die "freeze"
def Sym.oA(S:Sym)(i:Nat)(l:List aL):Sym:={ S.dD (aL.cx i l)with bx:=(S.bx.map (ga.map (aL.cx i l))).set i .gone }
def kj:Nat->List Nat->Sym->(Sym->M)->M
 |0,_,_,_=>die "freeze- too deep"
 |_,[],S,K=>K S
 |n+1,k::l,S,K=>if k%2=0 then match S.bd.getD (k/2) none with
   |some _=>Kz (k/2) S λS=>kj n l S K
   |none=>kj n l S K
  else match S.bx.getD (k/2) .gone with
   |.cells c=>match nV c with
    |[]=>match hT c with
     |some _=>if k/2<S.dO then die "freeze- an elder box" else kj n l (S.oA (k/2) c) K
     |none=>die "freeze- a box"
    |ck=>kj n (ck++k::l) S K
   |_=>kj n l S K
def Sym.E6(S:Sym):aR->Bool
 |.bu v=>v.one
 |.proj _ _=>true
 |.var i=>S.cU.contains i
def Sym.sP(S:Sym)(a:c6)(d:Option Tmp):Sym:=Sym.put { S with bd:=S.bd++[some a] } d (.own S.bd.length)
def Sym.dm(S:Sym)(k:Nat)(all:Bool)(a:c6):Sym:={ S.dD (aL.q2 k all)with bd:=S.bd.set k (some a),bb:=S.bb||decide (k<S.base) }
def Sym.arr(S:Sym)(k:Nat):Option c6:=S.bd.getD k none
def Sym.var(S:Sym):Sym:={ S with cd:=S.cd+1 }
def Sym.hq(S:Sym)(i:Nat)(l:List aL):Sym:={ S with bx:=S.bx.set i (.cells l) }
def Sym.gu(S:Sym)(d:Option Tmp)(l:List aL):Sym:=Sym.put { S with bx:=S.bx++[ga.cells l] } d (.ptr S.bx.length 0)
def aL.yN(S:Sym):aL->Bool
 |.e x=>S.E6 x
 |.ptr _ _ | .own _ | .fn _ _ | .lit _ _ _ | .ft _ _ | .c8 | .cq _ | .bT=>true
 |_=>false
structure zr where
 new:FuncId
 qz:Option FuncId
 qA:Option FuncId
 deriving Inhabited
structure Ctx where
 P:Program
 inl:List FuncId
 own:List (Nat×Nat)
 TK:List (Nat×Nat)
 nb:List (FuncId×Option (Nat×Nat)×Nat×Bool)
 eM:TypeId
 hI:zr
section
variable(X:Ctx)
def uP(t:TypeId)(v:aL)(S:Sym)(K:List aL->Sym->M):M:=
 match ik X.P t,v with
 |some true,.agg l=>if l.length=X.P.cellsOf t then K l S else die "cells"
 |some true,.e x=>emit (.agg (X.P.cellsOf t) (.e x)) false S λx S=>K ((List.range (X.P.cellsOf t)).map λj=>.e (.proj x j)) S
 |some false,.e x=>if S.E6 x then K [.e x] S else emit (.one (.e x)) true S λx S=>K [.e x] S
 |some false,.ptr i o=>K [.ptr i o] S
 |some false,.own k=>K [.own k] S
 |some false,.fn f l=>K [.fn f l] S
 |some false,.ft l o=>K [.ft l o] S
 |some false,.c8=>K [.c8] S
 |some false,.cq y=>K [.cq y] S
 |some false,.lit a b l=>K [.lit a b l] S
 |_,_=>die "cells of what is none"
def wA:List (Nat×TypeId×aL)->Sym->(List (Nat×List aL)->Sym->M)->M
 |[],S,K=>K [] S
 |(i,t,v)::l,S,K=>uP X t v S λc S=>wA l S λr S=>K ((i,c)::r) S
def AX(l:List aL)(off:Nat)(af:List aL):List aL:=l.take off++af++l.drop (off+af.length)
def w7(place:Nat->Option (Nat×Nat))(cells:List aL):List (Nat×List aL)->Option (List aL)
 |[]=>some cells
 |(i,v)::rest=>match place i with
  |none=>none
  |some (off,size)=>if v.length=size/\off+size<=cells.length then w7 place (AX cells off v) rest else none
def oJ:List aa->List aL
 |[]=>[]
 |v::l=>.e (.bu v)::oJ l
def E7(z:List aL):Nat->List aL
 |0=>[]
 |n+1=>z++E7 z n
def E8(S:Sym)(gf:Option Nat)(t:TypeId)(i off:Nat):Option aL:=match S.bx[i]?,ik X.P t with
 |some (.cells l),some true=>if off+X.P.cellsOf t<=l.length/\(X.P.info? t).isSome/\(gf.all λb=>decide (i<b))then some (.agg ((l.drop off).take (X.P.cellsOf t)))else none
 |some (.cells l),some false=>if(gf.all λb=>decide (i<b))then l[off]? else none
 |_,_=>none
def yO(lx:Option Nat)(S:Sym):List aL->Option (List aS)
 |[]=>some []
 |v::l=>match v,yO lx S l with
  |.c8,some ps=>some (.e (.bu (.ptr 0 0))::ps)
  |.ptr i 0,some ps=>match S.bx[i]? with
   |some .c8=>if(lx.all λb=>decide (i<b))then some (.e (.bu (.ptr 0 0))::ps)else none
   |_=>none
  |v,some ps=>match v.cu with
   |some p=>some (p::ps)
   |none=>none
  |_,none=>none
def thaw(lx:Option Nat)(key:Nat)(ck:List Nat)(S:Sym)(K:Sym->M):M:=match ck with
 |[]=>K S
 |k::ck=>if lx.isSome then die "x" else kj 40 (k::ck) S K
def Iu(o:Oper)(c x y:Operand)(S:Sym)(K:Sym->M):M:=match S.ay c with
 |.e (.bu (.bool t))=>K (S.put o.dst (if t then S.ay x else S.ay y))
 |.e c=>do
  let a ←K (S.put o.dst (S.ay x))
  let b ←K (S.put o.dst (S.ay y))
  pure (.ite c a b)
 |_=>die "pick"
def I1(o:Oper)(x:Operand)(S:Sym)(K:Sym->M):M:=match S.ay x with
 |.ptr i off=>K (S.put o.dst (.ptr i off))
 |.fn f l=>K (S.put o.dst (.fn f l))
 |_=>die "nilCheck"
def I2(o:Oper)(x:Operand)(i:Nat)(S:Sym)(K:Sym->M):M:=match S.ay x with
 |.bD l=>match l[i]? with
  |some v=>K (S.put o.dst v)
  |none=>die "extract"
 |.e x=>emit (.ext (.e x) i) false S λv S=>K (S.put o.dst (.e v))
 |_=>die "extract"
def Hp(o:Oper)(t:TypeId)(x:Operand)(f:Nat)(S:Sym)(K:Sym->M):M:=match X.P.underlying t with
 |some (.struct fs)=>match fs[f]? with
  |some fd=>if ik X.P fd.type=some false then(match S.ay x with
    |.agg l=>match l[fd.offset]? with
     |some v=>K (S.put o.dst v)
     |none=>die "field"
    |.e e=>if fd.offset<X.P.cellsOf t then emit (.agg (X.P.cellsOf t) (.e e)) false S λv S=>K (S.put o.dst (.e (.proj v fd.offset)))else die "field"
    |_=>die "field")else die "field"
  |none=>die "field"
 |_=>die "field"
def HQ(o:Oper)(t:TypeId)(x:Operand)(f:Nat)(S:Sym)(K:Sym->M):M:=match X.P.underlying t with
 |some (.struct fs)=>match fs[f]? with
  |some fd=>if X.P.cellsOf fd.type=0\/(X.P.info? fd.type).isNone then die "fieldAddr" else match S.ay x with
   |.ptr i off=>K (S.put o.dst (.ptr i (off+fd.offset)))
   |.fQ e sz fo=>K (S.put o.dst (.fQ e sz (fo+fd.offset)))
   |.ft l fo=>K (S.put o.dst (.ft l (fo+fd.offset)))
   |.fF k e fo=>K (S.put o.dst (.fF k e (fo+fd.offset)))
   |.e x=>emit (.deref (X.P.cellsOf t) (.e x)) false S λv S=>K (S.put o.dst (.fQ v (X.P.cellsOf t) fd.offset))
   |_=>die "fieldAddr"
  |none=>die "fieldAddr"
 |_=>die "fieldAddr"
def GW(o:Oper)(t:TypeId)(x i:Operand)(S:Sym)(K:Sym->M):M:=match X.P.underlying t with
 |some (.slice e)=>match(S.ay i).cu with
  |some pi=>if(X.P.info? e).isNone\/X.P.cellsOf e=0 then die "indexAddr" else match S.ay x with
   |.own k=>match S.arr k with
    |some a=>if a.sz=X.P.cellsOf e/\a.born.j2=true then emit (.kX a.sz a.c pi) true S λv S=>K (S.put o.dst (.fF k v 0))else die "indexAddr"
    |none=>die "indexAddr"
   |v=>match v.cu with
    |some Vr=>emit (.row (X.P.cellsOf e) Vr pi) false S λv S=>K (S.put o.dst (.fQ v (X.P.cellsOf e) 0))
    |none=>die "indexAddr"
  |none=>die "indexAddr"
 |some (.array len e)=>match S.ay i,S.ay x with
  |.e (.bu (.int _ n)),.ptr b off=>if 0<=n/\n<(len:Int)/\(X.P.info? e).isSome then K (S.put o.dst (.ptr b (off+n.toNat*X.P.cellsOf e)))else die "indexAddr"
  |_,_=>die "indexAddr"
 |_=>die "indexAddr"
def Iv(lx:Option Nat)(o:Oper)(t:TypeId)(x:Operand)(S:Sym)(K:Sym->M):M:=match S.ay x with
 |.ptr i off=>match E8 X S lx t i off with
  |some v=>K (S.put o.dst v)
  |none=>die "x"
 |.ft l fo=>match ik X.P t with
  |some true=>if fo+X.P.cellsOf t<=l.length/\(X.P.info? t).isSome then K (S.put o.dst (.agg ((l.drop fo).take (X.P.cellsOf t))))else die "x"
  |some false=>match l[fo]? with
   |some v=>K (S.put o.dst v)
   |none=>die "x"
  |none=>die "x"
 |.fQ e sz fo=>match ik X.P t with
  |some true=>if fo+X.P.cellsOf t<=sz/\(X.P.info? t).isSome then K (S.put o.dst (.agg ((List.range (X.P.cellsOf t)).map λj=>.e (.proj e (fo+j)))))else die "x"
  |some false=>if fo<sz then K (S.put o.dst (.e (.proj e fo)))else die "x"
  |none=>die "x"
 |.fF k i fo=>match S.arr k with
  |some a=>match ik X.P t with
   |some true=>if fo+X.P.cellsOf t<=a.sz/\(X.P.info? t).isSome then emit (.get a.sz fo (X.P.cellsOf t) a.c i) false S λv S=>K (S.put o.dst (.agg ((List.range (X.P.cellsOf t)).map λj=>.e (.proj v j))))else die "x"
   |some false=>if fo<a.sz then emit (.get a.sz fo 1 a.c i) false S λv S=>K (S.put o.dst (.e (.proj v 0)))else die "x"
   |none=>die "x"
  |none=>die "x"
 |.e x=>match ik X.P t with
  |some true=>if X.P.cellsOf t=0\/(X.P.info? t).isNone then die "x" else emit (.deref (X.P.cellsOf t) (.e x)) false S λv S=>K (S.put o.dst (.agg ((List.range (X.P.cellsOf t)).map λj=>.e (.proj v j))))
  |some false=>emit (.deref 1 (.e x)) false S λv S=>K (S.put o.dst (.e (.proj v 0)))
  |none=>die "x"
 |_=>die "x"
def DC(lx:Option Nat)(o:Oper)(t:TypeId)(x y:Operand)(S:Sym)(K:Sym->M):M:=
 if o.dst.isSome\/(X.P.info? t).isNone then die "x" else match S.ay x with
 |.ptr i off=>uP X t (S.ay y) S λc S=>match S.bx[i]? with
  |some (ga.cells l)=>if c.length=X.P.cellsOf t/\c.all aL.E5=true/\off+c.length<=l.length/\(lx.all λb=>decide (off=0)&&decide (b<=i)&&decide (l.length=c.length))then K (S.hq i (AX l off c))else die "x"
  |_=>die "x"
 |.fF _ _ _=>if lx.isSome\/X.P.cellsOf t=0 then die "x" else
  kj 40 (S.ay y).owns S λS=>uP X t (S.ay y) S λc S=>match S.ay x with
   |.fF k e fo=>match S.arr k,hT c with
    |some a,some ps=>if c.length≠X.P.cellsOf t\/a.sz<fo+c.length\/a.born.j2=false then die "x" else
      emit (.put a.sz fo a.c e ps) false S λv S=>K (S.dm k false { a with c:=v })
    |_,_=>die "x"
   |_=>die "x"
 |.fQ _ _ _=>pure .die
 |_=>die "x"
def HR(o:Oper)(t:TypeId)(parts:Array (Nat×Operand))(S:Sym)(K:Sym->M):M:=match X.P.underlying t,ki X.P t with
 |some (.struct fs),some z=>if bG z/\fs.toList.all (λf=>(X.P.info? f.type).isSome)then
   wA X (parts.toList.map λp=>(p.1,((fs[p.1]?).map (·.type)).getD 0,S.ay p.2)) S λcs S=>match w7 (ya X.P fs) (oJ z) cs with
    |some l=>K (S.put o.dst (.agg l))
    |none=>die "build"
  else die "build"
 |some (.array _ e),some z=>if bG z/\(X.P.info? e).isSome then
   wA X (parts.toList.map λp=>(p.1,e,S.ay p.2)) S λcs S=>match w7 (λi=>some (i*X.P.cellsOf e,X.P.cellsOf e)) (oJ z) cs with
    |some l=>K (S.put o.dst (.agg l))
    |none=>die "build"
  else die "build"
 |_,_=>die "build"
def Ab(lx:Option Nat)(key:Nat)(o:Oper)(t:TypeId)(len:Nat)(parts:Array (Nat×Operand))(S:Sym)(K:Sym->M):M:=match X.P.underlying t with
 |some (.slice e)=>match ki X.P e with
  |some z=>if bG z/\(X.P.info? e).isSome/\z.length=X.P.cellsOf e/\0<z.length/\len*X.P.cellsOf e<=16777216 then
    thaw lx key (nV (parts.toList.map λp=>S.ay p.2)) S λS=>
     wA X (parts.toList.map λp=>(p.1,e,S.ay p.2)) S λcs S=>match w7 (λi=>some (i*X.P.cellsOf e,X.P.cellsOf e)) (E7 (oJ z) len) cs with
      |some l=>match hT l with
       |some ps=>if o.dst.any (λd=>X.own.contains (S.site,d))then(if lx.isSome then die "own" else emit (.j2 ps) false S λv S=>K (S.sP ⟨X.P.cellsOf e,.real,v⟩ o.dst))else K (S.put o.dst (.lit (X.P.cellsOf e) len l))
       |none=>die "buildSlice cells"
      |none=>die "buildSlice"
   else die "buildSlice"
  |none=>die "buildSlice"
 |_=>die "buildSlice"
def D8(lx:Option Nat)(o:Oper)(t:TypeId)(l c:Operand)(S:Sym)(K:Sym->M):M:=if lx.isSome then die "makeSlice" else match X.P.underlying t with
 |some (.slice e)=>match S.ay l,S.ay c,ki X.P e with
  |.e a,.e b,some z=>if a.b b/\bG z/\z.length=X.P.cellsOf e/\0<z.length/\(X.P.info? e).isSome then
    emit (.mk z (X.P.bytesOf e) (.e a)) false S λv S=>K (S.sP ⟨X.P.cellsOf e,.real,v⟩ o.dst)
   else die "makeSlice"
  |_,_,_=>die "makeSlice"
 |_=>die "makeSlice"
def zY(S:Sym):Option Operand->Option (Option aS)
 |none=>some none
 |some x=>(S.ay x).cu.map some
def HS(lx:Option Nat)(key:Nat)(o:Oper)(t:TypeId)(x:Operand)(lo hi:Option Operand)(S:Sym)(K:Sym->M):M:=
 thaw lx key (S.ay x).owns S λS=>match(S.ay x).cu,zY S lo,zY S hi with
  |some p,some a,some b=>emit (.slice t p a b) true S λv S=>K (S.put o.dst (.e v))
  |_,_,_=>die "slice"
def Dl(lx:Option Nat)(o:Oper)(t:TypeId)(x y:Operand)(S:Sym)(K:Sym->M):M:=if lx.isSome then die "append" else match X.P.underlying t with
 |some (.slice e)=>if(X.P.info? e).isSome/\0<X.P.cellsOf e/\(zeroOf X.P e).any (λz=>z.cells.size=X.P.cellsOf e)=true then
   kj 40 (S.ay y).owns S λS=>match(S.ay y).cu with
   |some L9=>match S.ay x with
    |.own k=>match S.arr k with
     |some a=>if a.sz=X.P.cellsOf e/\a.born.still=true then emit (.push a.sz (X.P.bytesOf e) a.c L9) false S λv S=>K ((S.dm k true { a with c:=v }).put o.dst (.own k))else die "append"
     |none=>die "append"
    |.e (.bu .bC)=>emit (.push (X.P.cellsOf e) (X.P.bytesOf e) (.bu (.agg [])) L9) false S λv S=>K (S.sP ⟨X.P.cellsOf e,.cZ,v⟩ o.dst)
    |_=>die "append to what is not ours"
   |none=>die "append"
  else die "append"
 |_=>die "append"
def I3(o:Oper)(t:TypeId)(x:Operand)(S:Sym)(K:Sym->M):M:=match S.ay x with
 |.own k=>match X.P.underlying t,S.arr k with
  |some (.slice _),some a=>if a.born.j2=false then die "len" else emit (.oG a.sz a.c) true S λv S=>K (S.put o.dst (.e v))
  |_,_=>die "len"
 |v=>match X.P.underlying t with
  |some (.array n _)=>K (S.put o.dst (.e (.bu (.int .i64 n))))
  |_=>match v.cu with
   |some p=>emit (.len t p) true S λv S=>K (S.put o.dst (.e v))
   |none=>die "len"
abbrev fh:=Nat->FuncId->List aL->Sym->(aL->Sym->M)->M
def mW:List (FuncId×Option (Nat×Nat)×Nat×Bool)->FuncId->Option (Option (Nat×Nat)×Nat×Bool)
 |[],_=>none
 |(f,r)::l,g=>if f=g then some r else mW l g
def y9(r:Bool)(sz:Nat)(x:aS)(S:Sym)(K:c6->Sym->M):M:=if sz=0 then die "own of nothing" else emit (.cont r sz x) false S λc S=>
 if r then K ⟨sz,.real,c⟩ S else emit (.wZ x) true S λb S=>K ⟨sz,.dyn b,c⟩ S
def uI(r:Option (Nat×Nat)×Nat×Bool)(x:aR)(d:Option Tmp)(S:Sym)(K:Sym->M):M:=match r with
 |(none,sz,b)=>y9 b sz (.e x) S λa S=>K (S.sP a d)
 |(some (n,j),sz,b)=>emit (.agg n (.e x)) false S λx S=>y9 b sz (.e (.proj x j)) S λa S=>
   K (Sym.put { S with bd:=S.bd++[some a] } d (.agg (((List.range n).map λi=>aL.e (.proj x i)).set j (.own S.bd.length))))
def ad7(S:Sym)(i:Nat):Bool:=match S.bx.getD i .gone with
 |.c8=>true
 |_=>false
def QX(S:Sym)(l:List aL):List Nat:=(nV l).filter λk=>!(k%2==1&&ad7 S (k/2))
def AK(inl:fh)(yl:fh)(lx:Option Nat)(key:Nat)(o:Oper)(f:Operand)(args:List Operand)(S:Sym)(K:Sym->M):M:=match S.ay f with
 |.fn g caps=>match X.P.funcs[g]? with
  |some fn=>if fn.name = "runtime.NumGoroutine" \/ fn.body.isNone then die "call" else
   if g=X.hI.new then(if lx.isSome then die "x" else thaw lx key (nV (args.map S.ay)) S λS=>match S.ay f,hT (args.map S.ay)with
    |.fn g' [],some [p]=>if g'=g then emit (.ints p) false S λ_ S=>K (Sym.put { S with bx:=S.bx++[ga.c8] } o.dst (.ptr S.bx.length 0))else die "dice"
    |_,_=>die "dice")else
   if X.hI.qz=some g then(if lx.isSome then die "sort" else match caps,args.map S.ay with
    |[],[.own k]=>match S.arr k with
     |some a=>if a.sz=1/\a.born.still=true then emit (.qz a.c) false S λv S=>K ((S.dm k false { a with c:=v }).put o.dst .undef)else die "sort"
     |none=>die "sort"
    |_,_=>die "sort")else
   if X.hI.qA=some g then(if lx.isSome then die "compact" else match caps,args.map S.ay with
    |[],[.own k]=>match S.arr k with
     |some a=>if a.sz=1/\a.born.still=true then emit (.qA a.born a.c) true S λv S=>K ((S.dm k true a).put o.dst (.e v))else die "compact"
     |none=>die "compact"
    |_,_=>die "compact")else
   if X.inl.contains g&&lx.isNone then inl key g (args.map S.ay++caps) S λv S=>K (S.put o.dst v)else
    thaw lx key (QX S (args.map S.ay++caps)) S λS=>match S.ay f with
     |.fn g' caps=>if g'=g then match yO lx S (args.map S.ay++caps)with
      |some ps=>Except.map (Tree.call g ps) (match mW X.nb g with
        |some r=>if X.TK.contains (S.site,key)then uI r (.var S.cd) o.dst S.var K else if lx.isSome then die "own result" else K (S.var.put o.dst (.e (.var S.cd)))
        |none=>K (S.var.put o.dst (.e (.var S.cd))))
      |none=>die "x" else die "call"
     |_=>die "call"
  |none=>die "call"
 |.e _=>if lx.isSome&&!X.nb.isEmpty then die "a value is called where own results are" else thaw lx key (QX S (args.map S.ay)) S λS=>match S.ay f with
  |.e x=>match yO lx S (args.map S.ay)with
   |some ps=>Except.map (Tree.kL x ps) (K (S.var.put o.dst (.e (.var S.cd))))
   |none=>die "args of a value"
  |_=>die "call"
 |.cq y=>if lx.isSome then die "yield" else yl key y (args.map S.ay) S λv S=>K (S.put o.dst v)
 |_=>die "call of what is none"
def sQ(inl:fh)(yl:fh)(lx:Option Nat)(key:Nat)(o:Oper)(S:Sym)(K:Sym->M):M:=match o.op with
 |.move x | .assign x=>K (S.put o.dst (S.ay x))
 |.pick c x y=>Iu o c x y S K
 |.binOp op t x y _=>match(S.ay x).cu,(S.ay y).cu with
  |some p,some q=>emit (.bin op t p q) true S λv S=>K (S.put o.dst (.e v))
  |_,_=>die "binOp"
 |.unOp .not _ x=>match(S.ay x).cu with
  |some (.e (.bu (.bool b)))=>K (S.put o.dst (.e (.bu (.bool !b))))
  |some p=>emit (.un .not p) true S λv S=>K (S.put o.dst (.e v))
  |none=>die "unOp"
 |.unOp op _ x=>match(S.ay x).cu with
  |some p=>emit (.un op p) true S λv S=>K (S.put o.dst (.e v))
  |none=>die "unOp"
 |.convert src dst x=>match(S.ay x).cu with
  |some p=>emit (.conv src dst p) true S λv S=>K (S.put o.dst (.e v))
  |none=>die "convert"
 |.nilCheck x=>I1 o x S K
 |.extract x i=>I2 o x i S K
 |.fieldAddr t x f=>HQ X o t x f S K
 |.field t x f=>Hp X o t x f S K
 |.indexAddr t x i=>GW X o t x i S K
 |.index t x i=>match(S.ay x).cu,(S.ay i).cu with
  |some p,some q=>emit (.idx t p q) true S λv S=>K (S.put o.dst (.e v))
  |_,_=>die "index"
 |.load t x=>Iv X lx o t x S K
 |.store t x y=>DC X lx o t x y S K
 |.box t x=>uP X t (S.ay x) S λc S=>K (S.gu o.dst c)
 |.alloc t=>match ki X.P t with
  |some z=>if bG z then K (S.gu o.dst (oJ z))else die "alloc"
  |none=>die "alloc"
 |.build t parts=>HR X o t parts S K
 |.buildSlice t len parts=>Ab X lx key o t len parts S K
 |.makeSlice t l c=>D8 X lx o t l c S K
 |.slice t x lo hi none=>HS lx key o t x lo hi S K
 |.makeFunc (.func f) first caps=>if first.size≠0\/(caps.toList.all λx=>(S.ay x).yN S)=false then die "makeFunc" else K (S.put o.dst (.fn f (caps.toList.map S.ay)))
 |.call c=>match c.callee with
  |.value f=>AK X inl yl lx key o f c.args.toList S K
  |.builtin .len=>match c.argTypes[0]?,c.args.toList with
   |some t,[x]=>I3 X o t x S K
   |_,_=>die "len"
  |.builtin .min=>match hT (c.args.toList.map S.ay)with
   |some l=>emit (.iz false l) true S λv S=>K (S.put o.dst (.e v))
   |none=>die "min"
  |.builtin .max=>match hT (c.args.toList.map S.ay)with
   |some l=>emit (.iz true l) true S λv S=>K (S.put o.dst (.e v))
   |none=>die "max"
  |.builtin .append=>match c.argTypes,c.args.toList with
   |⟨[t,bw]⟩,[x,y]=>if t=bw then Dl X lx o t x y S K else die "append"
   |_,_=>die "append"
  |_=>die "builtin"
 |.panic _=>pure .die
 |.makeInterface _ _=>pure .die
 |_=>die "operation"
def kh(inl:fh)(yl:fh)(lx:Option Nat)(ops:Array Oper)(e2:Nat):List Oper->Nat->Sym->(Sym->M)->M
 |[],_,S,K=>K S
 |o::l,i,S,K=>match o.guard with
  |none=>sQ X inl yl lx (e2*1000+i) o S λS=>kh inl yl lx ops e2 l (i+1) S K
  |some (j,want)=>match(ops[j]?).bind (·.dst)with
   |none=>kh inl yl lx ops e2 l (i+1) (S.put o.dst .undef) K
   |some d=>match S.get d with
    |.undef=>kh inl yl lx ops e2 l (i+1) (S.put o.dst .undef) K
    |.e (.bu (.bool b))=>if b=want then sQ X inl yl lx (e2*1000+i) o S λS=>kh inl yl lx ops e2 l (i+1) S K else kh inl yl lx ops e2 l (i+1) (S.put o.dst .undef) K
    |.e x=>
     let run:=λ(S:Sym)=>sQ X inl yl lx (e2*1000+i) o S λS=>kh inl yl lx ops e2 l (i+1) S K;let skip:=λ(S:Sym)=>kh inl yl lx ops e2 l (i+1) (S.put o.dst .undef) K;let aA:=S.put (some d) (.e (.bu (.bool true)));let Vs:=S.put (some d) (.e (.bu (.bool false)))
     if want then FG x (run aA) (skip Vs)else FG x (skip aA) (run Vs)
    |_=>die "guard"
end
end
section
open Go Go.RowKit
variable[cQ]
structure Pos where
 box:Bool
 i:Nat
 j:Nat
 own:Option (Nat×e9)
 bK:Bool
 deriving Inhabited
structure mz where
 pos:List Pos
 iI:List Nat
 live:List Nat
 pre:List Nat
 bb:Bool
 deriving Inhabited
def Sym.at(S:Sym)(p:Pos):aL:=if p.box=true then(match S.bx.getD p.i .gone with | .cells l=>l.getD p.j .bT|_=>.bT)else S.get p.i
def Sym.setAt(S:Sym)(p:Pos)(v:aL):Sym:=if p.box=true then(match S.bx.getD p.i .gone with | .cells l=>{ S with bx:=S.bx.set p.i (.cells (l.set p.j v)) } | _=>S)else{ S with g:=S.g.set p.i v }
def ve(S:Sym):List Pos->List Nat
 |[]=>[]
 |p::l=>match p.own,S.at p with
  |some _,.own k=>k::ve S l
  |_,_=>ve S l
def Sym.xj(S:Sym):List Nat->Sym
 |[]=>S
 |k::l=>Sym.xj { S.dD (aL.q2 k true)with bd:=S.bd.set k none } l
def S0(live:List Nat):Nat->List aL->List aL
 |_,[]=>[]
 |t,v::l=>(if live.contains t then v else .bT)::S0 live (t+1) l
mutual
def aL.has(k:Nat):aL->Bool
 |.own j=>j+j==k
 |.fF j _ _=>j+j==k
 |.ptr i _=>i+i+1==k
 |.fn _ l=>ti k l
 |.agg l=>ti k l
 |.bD l=>ti k l
 |.lit _ _ l=>ti k l
 |.ft l _=>ti k l
 |_=>false
def ti(k:Nat):List aL->Bool
 |[]=>false
 |v::l=>v.has k||ti k l
end
def ga.has(k:Nat):ga->Bool
 |.cells l=>ti k l
 |_=>false
def Sym.names(S:Sym)(k:Nat):Bool:=ti k S.g||S.bx.any (ga.has k)||S.ys.any λy=>ti k y.g
def RY(f:Nat->Bool):Nat->List (Option c6)->List (Option c6)
 |_,[]=>[]
 |k,a::l=>(if f k then a else none)::RY f (k+1) l
def RZ(f:Nat->Bool):Nat->List ga->List ga
 |_,[]=>[]
 |k,a::l=>(match a with | .cells c=>if f k then .cells c else .gone|b=>b)::RZ f (k+1) l
def Sym.keep(S:Sym)(live:List Nat):Sym:=
 let S:={ S with g:=S0 live 0 S.g };let S:={ S with bx:=RZ (λk=>decide (k<S.dO)||S.names (k+k+1)) 0 S.bx }
 { S with bd:=RY (λk=>decide (k<S.base)||S.names (k+k)) 0 S.bd }
def Sym.fresh(S:Sym):List Pos->Sym
 |[]=>S
 |p::l=>match p.own with
  |none=>Sym.fresh { S.setAt p (.e (.var S.cd))with cd:=S.cd+1 } l
  |some (sz,b)=>Sym.fresh { S.setAt p (.own S.bd.length)with bd:=S.bd++[some ⟨sz,b,.var S.cd⟩],cd:=S.cd+1 } l
def Sym.A7(S:Sym):List Nat->Sym
 |[]=>S
 |k::l=>match S.bd.getD k none with
  |some a=>Sym.A7 { S with bd:=S.bd.set k (some { a with c:=.var S.cd }),cd:=S.cd+1 } l
  |none=>Sym.A7 { S with cd:=S.cd+1 } l
def oC(b4:mz)(S:Sym):Sym:={ (Sym.fresh ((S.xj (ve S b4.pos)).keep b4.live) b4.pos).A7 b4.iI with ey:=S.ey+1,bb:=b4.bb }
def yU(S:Sym):List Pos->Option (List aS×List (Option Nat))
 |[]=>some ([],[])
 |p::l=>match yU S l with
  |none=>none
  |some (ps,ck)=>match p.own,S.at p with
   |none,v=>match v.cu with
    |some q=>some (q::ps,none::ck)
    |none=>none
   |some (sz,b),.own k=>match S.arr k with
    |some a=>if a.sz=sz/\a.born.b b=true/\b.still=true/\ck.contains (some k)=false then some (.e a.c::ps,some k::ck)else none
    |none=>none
   |some (sz,.cZ),.e (.bu .bC)=>if 0<sz then some (.e (.bu (.agg []))::ps,none::ck)else none
   |_,_=>none
def y0(ba S:Sym):List Nat->Option (List aS)
 |[]=>some []
 |k::l=>match ba.arr k,S.arr k,y0 ba S l with
  |some h,some a,some ps=>if a.sz=h.sz/\a.born.b h.born=true then some (.e a.c::ps)else none
  |_,_,_=>none
def sY(l:List Pos)(box:Bool)(i j:Nat):Bool:=l.any λp=>p.box==box&&decide (p.i=i)&&(!box||decide (p.j=j))
def tS:Option c6->Option c6->Bool
 |none,none=>true
 |some a,some b=>decide (a.sz=b.sz)&&a.born.b b.born&&a.c.b b.c
 |_,_=>false
mutual
def aL.qj(H:Sym)(n:Nat):aL->Bool
 |.own k=>decide (k<n)&&(H.arr k).isSome
 |.fF _ _ _=>false
 |.cq _=>true
 |.fn _ l=>rk H n l
 |.agg l=>rk H n l
 |.bD l=>rk H n l
 |.lit _ _ l=>rk H n l
 |.ft l _=>rk H n l
 |_=>true
def rk(H:Sym)(n:Nat):List aL->Bool
 |[]=>true
 |v::l=>v.qj H n&&rk H n l
end
def BC(H:Sym)(n:Nat)(h u v:aL):Bool:=match h with
 |.bT=>true
 |h=>h.b u&&h.b v&&h.qj H n
def pq(P:Nat->Bool)(H:Sym)(n:Nat):Nat->List aL->List aL->List aL->Bool
 |_,[],[],[]=>true
 |t,h::ao,u::us,v::af=>(P t||BC H n h u v)&&pq P H n (t+1) ao us af
 |_,_,_,_=>false
def jR(l:List Pos)(H:Sym)(n:Nat):Nat->List ga->List ga->List ga->Bool
 |_,[],[],_=>true
 |i,.cells ao::fI,.cells us::ei,.cells af::ss=>pq (sY l true i) H n 0 ao us af&&jR l H n (i+1) fI ei ss
 |i,.c8::fI,.c8::ei,.c8::ss=>jR l H n (i+1) fI ei ss
 |i,.gone::fI,_::ei,_::ss=>jR l H n (i+1) fI ei ss
 |_,_,_,_=>false
def JP(ck:List (Option Nat))(as:List Nat)(H ba S:Sym)(n:Nat):Bool:=(List.range n).all λk=>
 match H.arr k with
 |none=>true
 |some h=>!ck.contains (some k)&&(as.contains k||(tS (some h) (ba.arr k)&&tS (some h) (S.arr k)))
def Bj:List cj->List cj->Bool
 |[],[]=>true
 |a::l,b::m=>decide (a.pend=b.pend)&&decide (a.busy=b.busy)&&Bj l m
 |_,_=>false
def Bi(H:Sym)(n:Nat):Nat->List Pos->Bool
 |_,[]=>true
 |v,p::l=>(match p.own with
  |none=>(H.at p).b (.e (.var v))
  |some (sz,b)=>match H.at p with
   |.own K=>decide (n<=K)&&(match H.arr K with|some a=>decide (a.sz=sz)&&a.born.b b&&a.c.b (.var v)|none=>false)
   |_=>false)&&Bi H n (v+1) l
def A8(H ba:Sym):Nat->List Nat->Bool
 |_,[]=>true
 |v,k::l=>(match H.arr k,ba.arr k with|some h,some a=>decide (h.sz=a.sz)&&h.born.b a.born&&h.c.b (.var v)|_,_=>false)&&decide (l.contains k=false)&&A8 H ba (v+1) l
def nS(H:Sym):List Pos->List (Option Nat)
 |[]=>[]
 |p::l=>(match p.own,H.at p with|some _,.own K=>some K|_,_=>none)::nS H l
def IP(ck:List (Option Nat))(n m:Nat):Bool:=(List.range m).all λk=>decide (k<n)||ck.contains (some k)
def sr:List (Option Nat)->Bool
 |[]=>true
 |none::l=>sr l
 |some k::l=>!l.contains (some k)&&sr l
def Jn(H ba S:Sym)(ck:List (Option Nat))(as:List Nat):Bool:=(List.range H.base).all λk=>tS (H.arr k) (ba.arr k)&&tS (H.arr k) (S.arr k)&&!ck.contains (some k)&&!as.contains k
def Em(b4:mz)(ba H S:Sym):Option (List aS):=match yU S b4.pos with
 |some (ps,ck)=>match y0 ba S b4.iI with
  |some bz=>if decide (H.cd=ba.cd+b4.pos.length+b4.iI.length)&&Bi H ba.bd.length ba.cd b4.pos&&A8 H ba (ba.cd+b4.pos.length) b4.iI&&sr (nS H b4.pos)&&IP (nS H b4.pos) ba.bd.length H.bd.length&&decide (ba.bd.length<=H.bd.length) &&
    pq (λt=>sY b4.pos false t 0) H ba.bd.length 0 H.g ba.g S.g&&jR b4.pos H ba.bd.length 0 H.bx ba.bx S.bx&&JP ck b4.iI H ba S ba.bd.length&&b4.iI.all (λk=>decide (k<ba.bd.length))&&Bj H.ys S.ys&&(b4.bb||(!S.bb&&Jn H ba S ck b4.iI))then some (ps++bz)else none
  |none=>none
 |none=>none
def Jv(S:Sym):List Pos->List Nat
 |[]=>[]
 |p::l=>(if p.own.isSome||!p.bK then[]else(S.at p).owns)++Jv S l
def ad8(b4:mz)(H S:Sym):String:=
 let own:=λ(S:Sym)(v:aL)=>match v with
  |.own k=>match S.arr k with
   |some a=> "x"
   |none => "-"
  |.e (.bu .bC) => "n"
  |.e _ => "v"
  |.agg _ => "v"
  |.lit _ _ _ => "v"
  |.bT => "j"
  |.undef => "u"
  |_ => "x"
 let ok:=λ(h v:aL)=>match h with | .bT=>true|h=>h.b v
 let ch:=(List.range H.bd.length).filterMap λk=>if k<H.bd.length-(b4.pos.filter λp=>p.own.isSome).length&&!b4.iI.contains k&&(H.bd.getD k none).isSome&&(S.bd.getD k none).isSome&&!tS (H.bd.getD k none) (S.bd.getD k none)then some "x" else none
 let g:=(List.range H.g.length).filterMap λt=>if sY b4.pos false t 0||ok (H.g.getD t .bT) (S.g.getD t .bT)then none else some "x"
 let b:=(List.range H.bx.length).flatMap λi=>match H.bx.getD i .gone,S.bx.getD i .gone with
  |.cells h,.cells v=>(List.range h.length).filterMap λj=>if sY b4.pos true i j||ok (h.getD j .bT) (v.getD j .bT)then none else some "x"
  |_,_=>[]
 let e:=if b4.bb||!S.bb then "" else "eff-"
 let pv:=b4.pos.map λp=> "x";let ajB:=(List.range H.bx.length).filterMap λi=>match H.bx.getD i .gone,S.bx.getD i .gone with
  |.cells _,.gone=>some "x"
  |_,_=>none
 let ajC:=(List.range H.bd.length).filterMap λk=>if k<H.bd.length-(b4.pos.filter λp=>p.own.isSome).length&&(H.bd.getD k none).isSome&&(S.bd.getD k none).isNone then some "x" else none
 String.join ch++String.join ajB++String.join ajC++String.join g++String.join b++e++String.join pv
structure Hints where
 sites:List Nat
 cp:List (Nat×Nat×Nat)
 thaw:List (Nat×Nat×Nat)
 KA:List (Nat×Nat×mz)
def Bc:List (Nat×Nat×Nat)->Nat->Nat->Nat
 |[],_,_=>0
 |(f,r,n)::l,g,q=>if f=g/\r=q then n else Bc l g q
def Jw:List (Nat×Nat×mz)->Nat->Nat->Option mz
 |[],_,_=>none
 |(f,r,n)::l,g,q=>if f=g/\r=q then some n else Jw l g q
def Jx:List (Nat×Nat×Nat)->Nat->Nat->List Nat
 |[],_,_=>[]
 |(f,r,n)::l,g,q=>if f=g/\r=q then n::Jx l g q else Jx l g q
section
variable(X:Ctx)(W:Hints)
def FA(b4:mz)(ba H S:Sym)(L:Nat)(CR:String):M:=kj 40 (Jv S b4.pos) S λS=>match Em b4 ba H S with
 |some af=>pure (.jump L af)
 |none=>die (CR++ad8 b4 H S)
def Tree.low(L:Nat):List Nat->Tree->Bool
 |_,.ret _=>true
 |ex,.jump cL _=>ex.contains cL||decide (cL<L)
 |ex,.av _ t=>t.low L ex
 |ex,.ite _ a b=>a.low L ex&&b.low L ex
 |ex,.call _ _ t=>t.low L ex
 |ex,.kL _ _ t=>t.low L ex
 |ex,.pick _ _ t=>t.low L ex
 |ex,.loop cL _ b=>b.low L (cL::ex)
 |ex,.join cL b k=>b.low L (cL::ex)&&k.low L ex
 |_,.die=>true
def xk(L:Nat)(x:M):M:=match x with
 |.ok t=>if t.low L []then .ok t else die "label"
 |.error e=>.error e
def y1(p:Nat)(S:Sym)(run:Sym->(eJ->Sym->M)->M)(K:eJ->Sym->M):M:=match Jw W.KA S.site p with
 |none=>run S K
 |some b4=>kj 40 b4.pre S λS=>do
  let H:=oC b4 S;let body ←run { S with ey:=S.ey+1 } λe br=>match e with
   |.normal=>FA b4 S H br S.ey "x"
   |e=>xk S.ey (K e br)
  let k ←K .normal H
  pure (.join S.ey body k)
mutual
def aS.b:aS->aS->Bool
 |.e x,.e y=>x.b y||(match x,y with
  |.bu (.ptr i o),.bu (.ptr j q)=>decide (i=j)&&decide (o=q)
  |_,_=>false)
 |.agg l,.agg m=>lX l m
 |.bD l,.bD m=>lX l m
 |.lit a b l,.lit c d m=>decide (a=c)&&decide (b=d)&&lX l m
 |.fn f l,.fn g m=>decide (f=g)&&lX l m
 |.ref l,.ref m=>lX l m
 |_,_=>false
def lX:List aS->List aS->Bool
 |[],[]=>true
 |x::l,y::m=>x.b y&&lX l m
 |_,_=>false
end
def BE:List aa->List aa->Bool
 |[],[]=>true
 |x::l,y::m=>Cx x y&&BE l m
 |_,_=>false
def BF:Option aS->Option aS->Bool
 |none,none=>true
 |some x,some y=>x.b y
 |_,_=>false
def Prim.b:Prim->Prim->Bool
 |.bin o t x y,.bin o' bw bk dj=>decide (o=o')&&decide (t=bw)&&x.b bk&&y.b dj
 |.un o x,.un o' bk=>decide (o=o')&&x.b bk
 |.conv s t x,.conv s' bw bk=>decide (s=s')&&decide (t=bw)&&x.b bk
 |.ext x i,.ext bk cm=>x.b bk&&decide (i=cm)
 |.agg n x,.agg eu bk=>decide (n=eu)&&x.b bk
 |.one x,.one bk=>x.b bk
 |.row z x i,.row dy bk cm=>decide (z=dy)&&x.b bk&&i.b cm
 |.idx z x i,.idx dy bk cm=>decide (z=dy)&&x.b bk&&i.b cm
 |.len z x,.len dy bk=>decide (z=dy)&&x.b bk
 |.slice z x l h,.slice dy bk aG bc=>decide (z=dy)&&x.b bk&&BF l aG&&BF h bc
 |.iz m l,.iz m' aG=>decide (m=m')&&lX l aG
 |.j2 l,.j2 aG=>lX l aG
 |.mk z b x,.mk dy a6 bk=>BE z dy&&decide (b=a6)&&x.b bk
 |.kX z c i,.kX dy c' cm=>decide (z=dy)&&c.b c'&&i.b cm
 |.get z o n c i,.get dy o' eu c' cm=>decide (z=dy)&&decide (o=o')&&decide (n=eu)&&c.b c'&&i.b cm
 |.put z o c i l,.put dy o' c' cm aG=>decide (z=dy)&&decide (o=o')&&c.b c'&&i.b cm&&lX l aG
 |.push z b c y,.push dy a6 c' dj=>decide (z=dy)&&decide (b=a6)&&c.b c'&&y.b dj
 |.oG z c,.oG dy c'=>decide (z=dy)&&c.b c'
 |.bK z b c,.bK dy a6 c'=>decide (z=dy)&&b.b a6&&c.b c'
 |.deref n x,.deref eu bk=>decide (n=eu)&&x.b bk
 |.cont r z x,.cont bR dy bk=>decide (r=bR)&&decide (z=dy)&&x.b bk
 |.wZ x,.wZ bk=>x.b bk
 |.ints x,.ints bk=>x.b bk
 |.ins k z c l,.ins bB dy c' aG=>decide (k=bB)&&decide (z=dy)&&c.b c'&&lX l aG
 |.keys z x,.keys dy bk=>decide (z=dy)&&x.b bk
 |.mI z x,.mI dy bk=>decide (z=dy)&&x.b bk
 |.lI x,.lI bk=>x.b bk
 |.qz x,.qz bk=>x.b bk
 |.qA b c,.qA a6 c'=>b.b a6&&c.b c'
 |_,_=>false
def Tree.b:Tree->Tree->Bool
 |.ret v,.ret u=>v.b u
 |.jump L l,.jump M m=>decide (L=M)&&lX l m
 |.av p t,.av q u=>p.b q&&t.b u
 |.ite c x y,.ite d u v=>c.b d&&x.b u&&y.b v
 |.call g l t,.call h m u=>decide (g=h)&&lX l m&&t.b u
 |.kL f l t,.kL g m u=>f.b g&&lX l m&&t.b u
 |.pick z c t,.pick dy c' u=>decide (z=dy)&&c.b c'&&t.b u
 |.loop L i t,.loop M j u=>decide (L=M)&&lX i j&&t.b u
 |.join L x y,.join M u v=>decide (L=M)&&x.b u&&y.b v
 |.die,.die=>true
 |_,_=>false
def EL(inl:fh)(yl:fh)(ops:Array Oper)(e2:Nat)(S:Sym)(k:Nat->Sym->M)(i:Nat):M:=match ops[i]? with
 |some o=>kh X inl yl none ops e2 [o] i S (k i)
 |none=>die "any"
def SR(t:Tree):M->Bool
 |.ok u=>t.b u
 |.error _=>false
def wv(inl:fh)(yl:fh)(ops:Array Oper)(e2:Nat):Nat->Array Bool->Sym->(Sym->M)->M
 |0,l,S,K=>match Region.ready .any ops l with
  |[]=>K S
  |_::_=>die "any"
 |n+1,l,S,K=>match Region.ready .any ops l with
  |[]=>K S
  |i::is=>do
   let t ←EL X inl yl ops e2 S (λi S=>wv inl yl ops e2 n (l.setIfInBounds i true) S K) i
   if is.all λj=>SR t (EL X inl yl ops e2 S (λi S=>wv inl yl ops e2 n (l.setIfInBounds i true) S K) j)then pure t else die "x"
def sO:eJ->Option (Option Nat)
 |.normal=>none
 |.ret=>some none
 |.exit i=>some (some i)
def xl:Option (Option Nat)->eJ
 |none=>.normal
 |some none=>.ret
 |some (some i)=>.exit i
mutual
def aL.qx(n:Nat):aL->aL
 |.cq y=>if y<n then .cq y else .bT
 |.fn f l=>.fn f (rC n l)
 |.ft l o=>.ft (rC n l) o
 |.agg l=>.agg (rC n l)
 |.bD l=>.bD (rC n l)
 |.lit a b l=>.lit a b (rC n l)
 |.own k=>.own k
 |.fF k x fo=>.fF k x fo
 |.e y=>.e y
 |.undef=>.undef
 |.bT=>.bT
 |.ptr i o=>.ptr i o
 |.c8=>.c8
 |.fQ y s fo=>.fQ y s fo
def rC(n:Nat):List aL->List aL
 |[]=>[]
 |v::l=>v.qx n::rC n l
end
def HK(inl:fh)(f:FuncId)(h:Operand)(ps:Array Tmp)(a b:Code)(p:Nat)(S:Sym)(K:eJ->Sym->M):M:=match S.ay h with
 |.fn g caps=>match X.P.funcs[g]? with
  |some fn=>if fn.name = "runtime.NumGoroutine" \/ fn.body.isNone then die "range" else
   inl (700000+p%100000) g (.cq S.ys.length::caps) { S with ys:=S.ys++[⟨S.g.map aL.kI,f,ps.toList,a,b,p,none,false⟩] } λ_ br=>
    match br.ys[S.ys.length]? with
    |some y=>if y.busy then die "range" else K (xl y.pend) { br with bx:=br.bx.map (ga.map (aL.qx S.ys.length)),ys:=br.ys.take S.ys.length }
    |none=>die "range"
  |none=>die "range"
 |_=>die "range over a function that is not known"
def comp(inl:fh)(yl:fh)(f:FuncId):Code->Nat->Sym->(eJ->Sym->M)->M
 |.skip,_,S,K=>K .normal S
 |.label _,_,S,K=>K .normal S
 |.scope x,p,S,K=>comp inl yl f x (2*p) S K
 |.ret,_,S,K=>K .ret S
 |.exit id,_,S,K=>K (.exit id) S
 |.seq x y,p,S,K=>comp inl yl f x (2*p) S λe S=>match e with
  |.normal=>comp inl yl f y (2*p+1) S K
  |e=>K e S
 |.cond c x y,p,S,K=>y1 W p S (λS K=>match S.ay c with
   |.e (.bu (.bool b))=>if b then comp inl yl f x (2*p) S K else comp inl yl f y (2*p+1) S K
   |.e e=>do
    let a ←comp inl yl f x (2*p) S K
    let b ←comp inl yl f y (2*p+1) S K
    pure (.ite e a b)
   |_=>die "cond") K
 |.block id x,p,S,K=>y1 W p S (λS K=>comp inl yl f x (2*p) S λe S=>match e with
   |.exit i=>if i=id then K .normal S else K (.exit i) S
   |e=>K e S) K
 |.region e2 ops false,p,S,K=>y1 W p S (λS K=>kh X inl yl none ops e2 ops.toList 0 S (K .normal)) K
 |.region e2 ops true,p,S,K=>y1 W p S (λS K=>
   if Ra ops (Bc W.cp f e2)then kj 40 (Jx W.thaw S.site e2) S λS=>
    kh X inl yl (some S.bx.length) ops e2 (ops.toList.take (Bc W.cp f e2)) 0 S λS=>kh X inl yl none ops e2 (ops.toList.drop (Bc W.cp f e2)) (Bc W.cp f e2) S (K .normal)
   else wv X inl yl ops e2 ops.size (Array.replicate ops.size false) S (K .normal)) K
 |.loop x,p,S,K=>match Jw W.KA S.site p with
  |none=>die "x"
  |some b4=>kj 40 (b4.pre++Jv S b4.pos) S λS=>do
   let H:=oC b4 S
   match Em b4 S H S with
   |none=>die "x"
   |some af=>do
    let body ←comp inl yl f x (2*p) H λe br=>match e with
     |.normal=>FA b4 S H br S.ey "x"
     |e=>xk S.ey (K e br)
    pure (.loop S.ey af body)
 |.rangeFunc h ps a b,p,S,K=>HK X inl f h ps a b p S K
 |_,_,_,_=>die "code"
def pA(S:Sym):List ResultVar->Option (List aL)
 |[]=>some []
 |.tmp t::l=>(pA S l).map (S.get t::·)
 |.cell x t::l=>match S.get x with
  |.ptr i off=>match E8 X S none t i off,pA S l with
   |some v,some af=>some (v::af)
   |_,_=>none
  |_=>none
def pB:List aL->aL
 |[v]=>v
 |l=>.bD l
def Sym.sub(S:Sym)(g:List aL)(site:Nat):Sym:={ S with g:=g,site:=site,base:=S.bd.length,dO:=S.bx.length,bb:=false }
def Sym.back(S br:Sym):Sym:={ br with g:=if br.bb then S.g.map aL.kI else S.g,site:=S.site,base:=S.base,dO:=S.dO,bb:=S.bb||br.bb }
def y2(g:List aL):List Nat->List aL->List aL
 |p::ps,v::af=>y2 (g.set p v) ps af
 |_,_=>g
def tg(l:List cj)(y:Nat)(b:Bool)(e:Option (Option Nat)):List cj:=match l[y]? with
 |some r=>l.set y { r with pend:=e,busy:=b }
 |none=>l
mutual
def vf:Nat->fh
 |0,_,g,_,_,_=>die "x"
 |n+1,key,g,args,S,K=>match X.P.funcs[g]? with
  |none=>die "function"
  |some fn=>match fn.body with
   |none=>die "body"
   |some c=>if(hr fn.ntmps c&&!jU X.P c)=false\/fn.ntmps<args.length then die "slots" else
    if W.sites.contains (S.site*1000000+key+1)=false then die "x" else
    comp X W (vf n) (vg n) g c 1 (S.sub (args++List.replicate (fn.ntmps-args.length) .undef) (S.site*1000000+key+1)) λe br=>match e with
     |.exit _=>die "exit"
     |_=>match pA X br fn.results.toList with
      |some af=>K (pB af) (S.back br)
      |none=>die "x"
def vg:Nat->fh
 |0,_,_,_,_,_=>die "too deep- yield"
 |n+1,key,y,args,S,K=>match S.ys[y]? with
  |none=>die "yield"
  |some r=>if r.pend≠none\/r.busy=true\/args.length≠r.ps.length\/mm r.kV=false\/mm r.body=false then die "yield behind the end" else
   if W.sites.contains (S.site*1000000+key+1)=false then die "x" else
   comp X W (vf n) (vg n) r.f r.kV (2*r.p) (S.sub (y2 r.g r.ps args) (S.site*1000000+key+1)) λe ba=>match e with
    |.normal=>match ba.ys[y]? with
     |some eh=>if eh.pend≠none\/eh.busy=true then die "yield- assignments" else
      comp X W (vf n) (vg n) r.f r.body (2*r.p+1) { ba with ys:=tg ba.ys y true none } λe br=>K (.e (.bu (.bool (iH e).isNone))) { S.back br with ys:=tg br.ys y false (sO e) }
     |none=>die "yield- assignments"
    |_=>die "yield- assignments"
end
def AW(eM:TypeId):List TypeId->Nat->List aL
 |[],_=>[]
 |t::l,i=>(if t=eM then .c8 else .e (.var i))::AW eM l (i+1)
def Bm:Nat->Nat->List aL
 |0,_=>[]
 |n+1,i=>.e (.var i)::Bm n (i+1)
def RM(fn:Func):Sym:={ g:=AW X.eM fn.params.toList 0++Bm fn.nfree fn.params.size++List.replicate (fn.ntmps-(fn.params.size+fn.nfree)) .undef,bx:=[],bd:=[],ys:=[],cd:=fn.params.size+fn.nfree,cU:=[],ey:=0,site:=0,base:=0,dO:=0,bb:=false }
def D7(f:FuncId)(K:Func->Sym->M):M:=match X.P.funcs[f]? with
 |none=>die "function"
 |some fn=>match fn.body with
  |none=>die "body"
  |some c=>if(hr fn.ntmps c&&!jU X.P c)=false\/fn.ntmps<fn.params.size+fn.nfree then die "slots" else
   comp X W (vf X W 12) (vg X W 12) f c 1 (RM X fn) λe S=>match e with
    |.exit _=>die "exit"
    |_=>K fn S
def TF(fn:Func)(S:Sym):M:=match pA X S fn.results.toList with
 |some af=>kj 40 (nV af) S λS=>match pA X S fn.results.toList with
  |some af=>match(pB af).cu with
   |some v=>pure (.ret v)
   |none=>die "result"
  |none=>die "result"
 |none=>die "results"
def IU(f:FuncId):M:=D7 X W f (TF X)
def E1:Option (Nat×Nat)->aL->Option Nat
 |none,.own k=>some k
 |some (n,j),.agg l=>if l.length=n then match l[j]? with
  |some (.own k)=>some k
  |_=>none
  else none
 |_,_=>none
def RP:Option (Nat×Nat)->aL->aR->aL
 |none,_,x=>.e x
 |some (_,j),.agg l,x=>.agg (l.set j (.e x))
 |_,_,_=>.bT
def TG(r:Option (Nat×Nat))(fn:Func)(S:Sym):M:=match pA X S fn.results.toList with
 |some af=>match E1 r (pB af)with
  |some k=>kj 40 ((nV af).filter λi=>i != k+k) S λS=>match pA X S fn.results.toList with
   |some af=>match E1 r (pB af)with
    |some k=>match S.arr k with
     |some a=>if a.born.j2=false then die "result" else emit (.bK a.sz a.born a.c) true S λx S=>match(RP r (pB af) x).cu with
      |some v=>pure (.ret v)
      |none=>die "result"
     |none=>die "result"
    |none=>die "result"
   |none=>die "result"
  |none=>match r,pB af with
   |none,.e (.bu .bC)=>pure (.ret (.e (.bu .bC)))
   |_,_=>die "no own result"
 |none=>die "results"
def Ir(r:Option (Nat×Nat))(f:FuncId):M:=D7 X W f (TG X r)
end
end
section
open Go Go.RowKit
variable[cQ]
theorem hH(l:List aa):bG l=true↔∀p∈l,p.plain=true/\p.one=true:=by
 induction l with
 |nil=>trivial
 |cons p ps az=>grind [bG]
theorem X9(l:List aa):jO l=true↔∀p∈l,p.plain=true:=by
 induction l with
 |nil=>trivial
 |cons p ps az=>simp[jO,az]
mutual
theorem Dn(e:b9):∀p:aa,p.plain=true->p.bW e=p
 |.int _ _,_ | .bool _,_ | .str _,_ | .ca,_ | .eL,_ | .bC,_=>by rfl
 |.undef,h | .bad,h | .dead _,h | .cq _,h | .ptr _ _,h=>by rfl
 |.mp _ (some _) _ _,h=>by trivial
 |.mp _ none _ _,h=>by rfl
 |.sl none _ _ _ cs,h=>by simp only[aa.bW,pS e cs (by assumption)]
 |.sl (some _) _ _ _ cs,h=>by trivial
 |.bJ none _ cs,h=>by simp only[aa.bW,pS e cs (by assumption)]
 |.bJ (some _) _ cs,h=>by trivial
 |.fn _ cs,h=>by simp only[aa.bW,pS e cs (by assumption)]
 |.agg cs,h=>by simp only[aa.bW,pS e cs (by assumption)]
 |.bD cs,h=>by simp only[aa.bW,M5 e cs (by assumption)]
theorem pS(e:b9):∀l:List aa,bG l=true->eF e l=l
 |[],_=>rfl
 |p::ps,h=>by
  simp[bG]at h;simp only[eF,Dn e p h.1.1,pS e ps h.2]
theorem M5(e:b9):∀l:List aa,jO l=true->eF e l=l
 |[],_=>rfl
 |p::ps,h=>by
  simp[jO]at h;simp only[eF,Dn e p h.1,M5 e ps h.2]
end
mutual
theorem HT(id:Nat):∀p:aa,p.plain=true->p.bK id=p
 |.int _ _,_ | .bool _,_ | .str _,_ | .ca,_ | .eL,_ | .bC,_=>by rfl
 |.undef,h | .bad,h | .dead _,h | .cq _,h | .ptr _ _,h=>by rfl
 |.mp _ (some _) _ _,h=>by trivial
 |.mp _ none _ _,h=>by rfl
 |.sl none _ _ _ cs,h=>by simp only[aa.bK,um id cs (by assumption)]
 |.sl (some _) _ _ _ cs,h=>by trivial
 |.bJ none _ cs,h=>by simp only[aa.bK,um id cs (by assumption)]
 |.bJ (some _) _ cs,h=>by trivial
 |.fn _ cs,h=>by simp only[aa.bK,um id cs (by assumption)]
 |.agg cs,h=>by simp only[aa.bK,um id cs (by assumption)]
 |.bD cs,h=>by simp only[aa.bK,NI id cs (by assumption)]
theorem um(id:Nat):∀l:List aa,bG l=true->iW id l=l
 |[],_=>rfl
 |p::ps,h=>by
  simp[bG]at h;simp only[iW,HT id p h.1.1,um id ps h.2]
theorem NI(id:Nat):∀l:List aa,jO l=true->iW id l=l
 |[],_=>rfl
 |p::ps,h=>by
  simp[jO]at h;simp only[iW,HT id p h.1,NI id ps h.2]
end
mutual
theorem Df(n:Nat):∀p:aa,p.plain=true->p.cH n=p
 |.int _ _,_ | .bool _,_ | .str _,_ | .ca,_ | .eL,_ | .bC,_=>by rfl
 |.undef,h | .bad,h | .dead _,h | .cq _,h | .ptr _ _,h=>by trivial
 |.mp _ (some _) _ _,h=>by rfl
 |.mp _ none _ _,h=>by rfl
 |.sl none _ _ _ cs,h=>by simp only[aa.cH,ox n cs (by assumption)]
 |.sl (some _) _ _ _ cs,h=>by trivial
 |.bJ none _ cs,h=>by simp only[aa.cH,ox n cs (by assumption)]
 |.bJ (some _) _ cs,h=>by trivial
 |.fn _ cs,h=>by simp only[aa.cH,ox n cs (by assumption)]
 |.agg cs,h=>by simp only[aa.cH,ox n cs (by assumption)]
 |.bD cs,h=>by simp only[aa.cH,M6 n cs (by assumption)]
theorem ox(n:Nat):∀l:List aa,bG l=true->iR n l=l
 |[],_=>rfl
 |p::ps,h=>by
  simp[bG]at h;simp only[iR,Df n p h.1.1,ox n ps h.2]
theorem M6(n:Nat):∀l:List aa,jO l=true->iR n l=l
 |[],_=>rfl
 |p::ps,h=>by
  simp[jO]at h;simp only[iR,Df n p h.1,M6 n ps h.2]
end
mutual
theorem Ag(n an:Nat):∀p:aa,p.plain=true->p.anon n an=p
 |.int _ _,_ | .bool _,_ | .str _,_ | .ca,_ | .eL,_ | .bC,_=>by rfl
 |.undef,h | .bad,h | .dead _,h | .cq _,h | .ptr _ _,h=>by trivial
 |.mp _ (some _) _ _,h=>by trivial
 |.mp _ none _ _,h=>by rfl
 |.sl none _ _ _ cs,h=>by simp only[aa.anon,vZ n an cs (by assumption)]
 |.sl (some _) _ _ _ cs,h=>by trivial
 |.bJ none _ cs,h=>by simp only[aa.anon,vZ n an cs (by assumption)]
 |.bJ (some _) _ cs,h=>by trivial
 |.fn _ cs,h=>by simp only[aa.anon,vZ n an cs (by assumption)]
 |.agg cs,h=>by simp only[aa.anon,vZ n an cs (by assumption)]
 |.bD cs,h=>by simp only[aa.anon,M7 n an cs (by assumption)]
theorem vZ(n an:Nat):∀l:List aa,bG l=true->kK n an l=l
 |[],_=>rfl
 |p::ps,h=>by
  simp[bG]at h;simp only[kK,Ag n an p h.1.1,vZ n an ps h.2]
theorem M7(n an:Nat):∀l:List aa,jO l=true->kK n an l=l
 |[],_=>rfl
 |p::ps,h=>by
  simp[jO]at h;simp only[kK,Ag n an p h.1,M7 n an ps h.2]
end
mutual
theorem AL(n an:Nat):∀p:aa,p.plain=true->p.cT n an
 |.int _ _,_ | .bool _,_ | .str _,_ | .ca,_ | .eL,_ | .bC,_=>by trivial
 |.undef,h | .bad,h | .dead _,h | .cq _,h | .ptr _ _,h=>by trivial
 |.mp _ (some _) _ _,h=>by trivial
 |.mp _ none _ _,h=>by trivial
 |.sl none _ _ _ cs,h=>by exact yu n an cs (by assumption)
 |.sl (some _) _ _ _ cs,h=>by trivial
 |.bJ none _ cs,h=>by exact yu n an cs (by assumption)
 |.bJ (some _) _ cs,h=>by trivial
 |.fn _ cs,h=>by exact yu n an cs (by assumption)
 |.agg cs,h=>by exact yu n an cs (by assumption)
 |.bD cs,h=>by exact OI n an cs (by assumption)
theorem yu(n an:Nat):∀l:List aa,bG l=true->e5 n an l
 |[],_=>by trivial
 |p::ps,h=>by
  simp[bG]at h;exact⟨AL n an p h.1.1,yu n an ps h.2⟩
theorem OI(n an:Nat):∀l:List aa,jO l=true->e5 n an l
 |[],_=>by trivial
 |p::ps,h=>by
  simp[jO]at h;exact⟨AL n an p h.1,OI n an ps h.2⟩
end
theorem OJ(E:List b9){p:aa}(h:p.plain=true):p.sub E=p:=by
 induction E with
 |nil=>rfl
 |cons e E az=>grind [aa.sub,Dn]
def aR.ok(ρ:List aa):aR->Prop
 |.var i=>(ρ.getD i .bad).plain=true
 |.proj e j=>e.ok ρ/\(cM (e.den ρ) j).plain=true
 |.bu v=>v.plain=true
theorem aR.jJ{ρ:List aa}{x:aR}(h:x.ok ρ):(x.den ρ).plain=true:=by
 cases x with
 |var i=>exact h
 |proj e j=>exact h.2
 |bu v=>exact h
theorem Zz{v:aa}{j:Nat}(h:v.plain=true)(ae:(cM v j).plain=true):(cM v j).one=true:=by
 unfold cM at *;grind [aa.plain,hH]
theorem W5{ρ b1:List aa}(h:ρ<+:b1){i:Nat}(ae:(ρ.getD i .bad).plain=true):b1.getD i .bad=ρ.getD i .bad:=by
 obtain⟨t,rfl⟩:=h;grind [aa.plain]
theorem aR.j9{ρ b1:List aa}(h:ρ<+:b1):∀{x:aR},x.ok ρ->x.den b1=x.den ρ/\x.ok b1
 |.var i,aj=>by
  have e:=W5 h aj;exact⟨e,by grind [aR.ok]⟩
 |.proj x j,aj=>by
  obtain⟨e,k⟩:=aR.j9 h aj.1;have aO:aR.den b1 (.proj x j)=aR.den ρ (.proj x j):=by simp only[aR.den,e]
  exact⟨aO,k,by rw[e];exact aj.2⟩
 |.bu v,aj=>⟨rfl,aj⟩
structure cP where
 P:Program
 n0:Nat
 hG:Nat
 lH:Nat->di
 d0:Nat
 DI:List aa->Prop
 cV:TN
 UF:Nat->Option c6
 TC:Nat->Option Nat
 kv:List (Nat×Loop)
 GI:List aa
structure Env where
 ρ:List aa
 bd:List (Option c6)
 fw:Nat
 ids:Nat->Option Nat
def mO(b:e9)(id:Option Nat)(sz:Nat)(cs:List aa):aa:=match id with
 |some id=>match b with
  |.map=>.mp false (some id) sz cs
  |.it=>.mp true (some id) sz cs
  |_=>.sl (some id) sz 0 (cs.length/sz) cs
 |none=>.bC
def c6.rel(E:Env)(k:Nat)(a:c6)(cs:List aa):Prop:=
 a.c.ok E.ρ/\a.c.den E.ρ=.agg cs/\0<a.sz/\cs.length=cs.length/a.sz*a.sz/\isNil E.ρ a.born cs=some (E.ids k).isNone/\(∀x,a.born=.dyn x->x.ok E.ρ)
mutual
def bZ(F:cP)(E:Env):aL->aa->Prop
 |.e x,q=>q=x.den E.ρ/\x.ok E.ρ
 |.undef,q=>q=.undef
 |.bT,_=>True
 |.ptr i o,q=>q=.ptr (F.n0+i) o/\i<E.fw
 |.c8,q=>q=.ptr F.d0 0/\F.d0<F.n0/\F.lH F.d0=.inv F.DI
 |.cq y,q=>∃l,F.cV.ys[y]?.map eN.l=some l/\q=.cq l
 |.own k,q=>∃a cs,E.bd.getD k none=some a/\a.rel E k cs/\q=mO a.born (E.ids k) a.sz cs
 |.fF k x fo,q=>∃a cs id n gJ,E.bd.getD k none=some a/\a.rel E k cs/\E.ids k=some id/\x.den E.ρ=.int gJ n/\x.ok E.ρ/\0<=n/\n.toNat<cs.length/a.sz/\q=.bJ (some id) (n.toNat*a.sz+fo) (cs.drop (n.toNat*a.sz+fo))
 |.fQ x sz fo,q=>∃cs off lI,x.den E.ρ=.agg cs/\x.ok E.ρ/\cs.length=sz/\q=.bJ none off (cs.drop fo++lI)
 |.ft l fo,q=>∃aG,cJ F E l aG/\bG aG=true/\q=.bJ none fo (aG.drop fo)
 |.fn f l,q=>∃aG,q=.fn f aG/\cJ F E l aG
 |.agg l,q=>∃aG,q=.agg aG/\cJ F E l aG
 |.bD l,q=>∃aG,q=.bD aG/\hk F E l aG
 |.lit sz len l,q=>∃aG,q=.sl none sz 0 len aG/\cJ F E l aG/\bG aG=true/\aG.length=len*sz
def cJ(F:cP)(E:Env):List aL->List aa->Prop
 |[],l=>l=[]
 |v::af,l=>∃q aG,l=q::aG/\bZ F E v q/\(v=.bT\/q.one=true)/\cJ F E af aG
def hk(F:cP)(E:Env):List aL->List aa->Prop
 |[],l=>l=[]
 |v::af,l=>∃q aG,l=q::aG/\bZ F E v q/\hk F E af aG
end
def vQ(F:cP)(E:Env):ga->di->Prop
 |.cells l,c=>∃aG,c=.cells aG/\cJ F E l aG
 |.c8,c=>c=.inv F.DI
 |.gone,_=>True
def Sym.env(S:Sym)(ρ:List aa)(ids:Nat->Option Nat):Env:=⟨ρ,S.bd,S.bx.length,ids⟩
mutual
def aL.jS:aL->aL
 |.own _=>.bT
 |.fF _ _ _=>.bT
 |.fn f l=>.fn f (q3 l)
 |.ft l o=>.ft (q3 l) o
 |.agg l=>.agg (q3 l)
 |.bD l=>.bD (q3 l)
 |.lit a b l=>.lit a b (q3 l)
 |.e y=>.e y
 |.undef=>.undef
 |.bT=>.bT
 |.ptr i o=>.ptr i o
 |.c8=>.c8
 |.cq a=>.cq a
 |.fQ y s fo=>.fQ y s fo
def q3:List aL->List aL
 |[]=>[]
 |v::l=>v.jS::q3 l
end
def cj.now(y:cj)(r:eN):Nat×Loop:=(r.l,{ r.o with state:=if y.busy then .busy else if y.pend.isSome then .done else .ready,pending:=iH (xl y.pend) })
structure zL(F:cP)(y:cj)(r:eN):Prop where
 ps:r.o.params.toList=y.ps
 kV:r.o.assign=y.kV
 body:r.o.body=y.body
 lt:∀p∈y.ps,p<r.o.tmps.size
 LY:hr r.o.tmps.size y.kV=true
 LZ:hr r.o.tmps.size y.body=true
 own:∀t,(y.g.getD t .bT).jS=y.g.getD t .bT
 g:∀t,bZ F ⟨F.GI,[],F.cV.n-F.n0,λ_=>none⟩ (y.g.getD t .bT) (r.g t)
structure lW(F:cP)(ys:List cj)(ρ:List aa)(rc:List (Nat×Loop)):Prop where
 pre:F.GI<+:ρ
 len:ys.length=F.cV.ys.length
 rc:rc=List.zipWith cj.now ys F.cV.ys++F.kv
 y:∀(i:Nat) y r,ys[i]?=some y->F.cV.ys[i]?=some r->zL F y r
 ne:∀(i j:Nat) r bR,F.cV.ys[i]?=some r->F.cV.ys[j]?=some bR->r.l=bR.l->i=j
 zK:∀r∈F.cV.ys,∀p∈F.kv,p.1≠r.l
theorem lW.mono{F:cP}{ys:List cj}{ρ b1:List aa}{rc:List (Nat×Loop)}(h:lW F ys ρ rc)(k:ρ<+:b1):lW F ys b1 rc:=⟨h.pre.trans k,h.len,h.rc,h.y,h.ne,h.zK⟩
theorem lW.push{F:cP}{ys:List cj}{ρ l:List aa}{rc:List (Nat×Loop)}(h:lW F ys ρ rc):lW F ys (ρ++l) rc:=h.mono (List.prefix_append _ _)
structure Rel(F:cP)(S:Sym)(ρ:List aa)(ids:Nat->Option Nat)(s:aA):Prop where
 len:ρ.length=S.cd
 cU:∀i,i∈S.cU->(ρ.getD i .bad).one=true
 slot:∀t,bZ F (S.env ρ ids) (S.get t) (s.g t)
 dt:s.m.n=F.n0+S.bx.length
 old:∀i,i<F.n0->s.m.β i=F.lH i
 box:∀i b,S.bx[i]?=some b->vQ F (S.env ρ ids) b (s.m.β (F.n0+i))
 hO:∀k id,ids k=some id->F.hG<=id/\id<s.m.an/\k<S.bd.length
 mv:∀k j id,ids k=some id->ids j=some id->k=j
 arr:∀k a,S.bd.getD k none=some a->∃cs,a.rel (S.env ρ ids) k cs
 a0:s.a0=F.cV
 cV:F.hG<=F.cV.a/\F.n0<=F.cV.n
 kY:∀e∈s.bb,F.hG<=e.id/\e.clean
 bb:S.bb=false\/F.hG=F.cV.a->s.bb=[]
 new:S.bb=false->∀k id,ids k=some id->S.base<=k->F.cV.a<=id
 keep:S.bb=false->∀k,k<S.base->S.bd.getD k none=F.UF k/\ids k=F.TC k
 dO:F.cV.n=F.n0+S.dO
 lG:S.base<=S.bd.length
 mS:S.dO<=S.bx.length
 an:F.cV.a<=s.m.an
 kZ:∀i l,i<F.n0->F.lH i=.cells l->e5 F.n0 F.hG l
 rc:lW F S.ys ρ s.m.rc
theorem Rel.S1{F:cP}{S:Sym}{ρ:List aa}{ids:Nat->Option Nat}{s:aA}(h:Rel F S ρ ids s){k id:Nat}(cr:ids k=some id)(he:(S.bb||decide (k<S.base))=false\/F.hG=F.cV.a):F.cV.a<=id:=by
 rcases he with he|he
 ·simp  at he;exact h.new he.1 k id cr (by omega)
 ·rw[←he];exact(h.hO k id cr).1
theorem A9{a b:Bool}{p:Prop}(h:(a||b)=false\/p):a=false\/p:=h.imp_left λh=>by grind
section
variable{F:cP}{E E':Env}
theorem jL:∀{l:List aL}{aG:List aa},cJ F E l aG↔l.length=aG.length/\∀(j:Nat) v q,l[j]?=some v->aG[j]?=some q->bZ F E v q/\(v=.bT\/q.one=true)
 |[],aG=>by grind [cJ]
 |v::af,[]=>by simp[cJ]
 |v::af,q::bz=>by
  simp[cJ];constructor
  ·rintro⟨dF,aG,⟨rfl,rfl⟩,aT,U,ab⟩;rw[jL]at ab;grind
  ·rintro⟨ak,h⟩;obtain⟨aT,U⟩:=h 0 v q (by simp) (by simp);exact⟨q,bz,⟨rfl,rfl⟩,aT,U,jL.2 ⟨by grind,λj u r aC ad=>h (j+1) u r (by grind) (by grind)⟩⟩
theorem mi{l:List aL}{aG:List aa}(h:cJ F E l aG):l.length=aG.length:=(jL.1 h).1
theorem c6.EK{k:Nat}{a:c6}{cs cs':List aa}(h:a.rel E k cs)(bc:a.rel E k cs'):cs=cs':=by
 have:=h.2.1.symm.trans bc.2.1;grind
end
structure Env.le(E E':Env):Prop where
 ρ:E.ρ<+:E'.ρ
 bd:∀k a,E.bd.getD k none=some a->E'.bd.getD k none=some a
 fw:E.fw<=E'.fw
 ids:∀k a,E.bd.getD k none=some a->E'.ids k=E.ids k
theorem Env.le.refl(E:Env):E.le E:=⟨List.prefix_refl _,λ_ _ h=>h,Nat.le_refl _,λ_ _ _=>rfl⟩
theorem Env.le.trans{E nJ Vt:Env}(h:E.le nJ)(k:nJ.le Vt):E.le Vt:=
 ⟨h.ρ.trans k.ρ,λi a e=>k.bd i a (h.bd i a e),Nat.le_trans h.fw k.fw,λi a e=>(k.ids i a (h.bd i a e)).trans (h.ids i a e)⟩
theorem yd{ρ b1:List aa}(h:ρ<+:b1){b:e9}{cs:List aa}(hb:∀x,b=.dyn x->x.ok ρ):isNil b1 b cs=isNil ρ b cs:=by
 cases b with
 |real=>rfl
 |cZ=>rfl
 |map=>rfl
 |it=>rfl
 |dyn x=>simp only[isNil,(aR.j9 h (hb x rfl)).1]
theorem wm(b:e9)(id:Option Nat)(sz:Nat)(cs:List aa):(mO b id sz cs).one=true:=by
 unfold mO;split
 ·split<;>rfl
 ·rfl
theorem la{b:e9}(h:b.j2=true)(id:Option Nat)(sz:Nat)(cs:List aa):mO b id sz cs=match id with|some id=>.sl (some id) sz 0 (cs.length/sz) cs|none=>.bC:=by cases b<;>first|rfl|cases h
theorem c6.rel.mono{E E':Env}(h:E.le E'){k:Nat}{a:c6}{cs:List aa}(au:E.bd.getD k none=some a)(ad:a.rel E k cs):a.rel E' k cs:=by
 obtain⟨U,ab,al,aJ,bm,bI⟩:=ad;obtain⟨aK,aO⟩:=aR.j9 h.ρ U;exact⟨aO,by grind,al,aJ,by rw[yd h.ρ bI,h.ids k a au];exact bm,λx aj=>(aR.j9 h.ρ (bI x aj)).2⟩
mutual
theorem bZ.mono{F:cP}{E E':Env}(h:E.le E'):∀{v:aL}{q:aa},bZ F E v q->bZ F E' v q
 |.e x,q,ad=>by
  simp only[bZ]at ad⊢;obtain⟨aK,aO⟩:=aR.j9 h.ρ ad.2;grind
 |.undef,q,ad=>by assumption
 |.bT,q,ad=>by assumption
 |.ptr i o,q,ad=>by exact⟨ad.1,Nat.lt_of_lt_of_le ad.2 h.fw⟩
 |.c8,q,ad=>by assumption
 |.cq _,q,ad=>by assumption
 |.own k,q,ad=>by
  obtain⟨a,cs,U,ab,al⟩:=ad;exact⟨a,cs,h.bd k a U,ab.mono h U,by rw[h.ids k a U];exact al⟩
 |.fF k x fo,q,ad=>by
  obtain⟨a,cs,id,n,gJ,U,ab,al,aJ,bm,bI⟩:=ad;obtain⟨aK,aO⟩:=aR.j9 h.ρ bm;exact⟨a,cs,id,n,gJ,h.bd k a U,ab.mono h U,by rw[h.ids k a U];exact al,by grind,aO,bI⟩
 |.fQ x sz fo,q,ad=>by
  simp only[bZ]at ad⊢;obtain⟨cs,off,lI,U,ab,al⟩:=ad;obtain⟨aK,aO⟩:=aR.j9 h.ρ ab;grind
 |.ft l fo,q,ad=>by
  obtain⟨aG,U,ab⟩:=ad;exact⟨aG,cJ.mono h U,ab⟩
 |.fn f l,q,ad=>by
  obtain⟨aG,U,ab⟩:=ad;exact⟨aG,U,cJ.mono h ab⟩
 |.agg l,q,ad=>by
  obtain⟨aG,U,ab⟩:=ad;exact⟨aG,U,cJ.mono h ab⟩
 |.bD l,q,ad=>by
  obtain⟨aG,U,ab⟩:=ad;exact⟨aG,U,hk.mono h ab⟩
 |.lit sz len l,q,ad=>by
  obtain⟨aG,U,ab,al⟩:=ad;exact⟨aG,U,cJ.mono h ab,al⟩
theorem cJ.mono{F:cP}{E E':Env}(h:E.le E'):∀{l:List aL}{aG:List aa},cJ F E l aG->cJ F E' l aG
 |[],aG,ad=>by assumption
 |v::af,aG,ad=>by
  obtain⟨q,r,U,ab,al,aJ⟩:=ad;exact⟨q,r,U,bZ.mono h ab,al,cJ.mono h aJ⟩
theorem hk.mono{F:cP}{E E':Env}(h:E.le E'):∀{l:List aL}{aG:List aa},hk F E l aG->hk F E' l aG
 |[],aG,ad=>by assumption
 |v::af,aG,ad=>by
  obtain⟨q,r,U,ab,aJ⟩:=ad;exact⟨q,r,U,bZ.mono h ab,hk.mono h aJ⟩
end
mutual
theorem wJ{F:cP}{E:Env}:∀{v:aL}{p:aS}{q:aa},v.cu=some p->bZ F E v q->q=p.den E.ρ/\q.plain=true
 |.e x,p,q,ae,ad=>by
  simp[aL.cu]at ae;subst ae;simp only[bZ]at ad;exact⟨ad.1,by grind [aR.jJ]⟩
 |.agg l,p,q,ae,ad=>by
  obtain⟨ps,gy,rfl⟩:=Option.map_eq_some_iff.1 ae;obtain⟨aG,rfl,ak⟩:=ad;obtain⟨e,ah⟩:=sG gy ak;grind [aS.den,aa.plain]
 |.bD l,p,q,ae,ad=>by
  obtain⟨ps,gy,rfl⟩:=Option.map_eq_some_iff.1 ae;obtain⟨aG,rfl,ak⟩:=ad;obtain⟨e,ah⟩:=QY gy ak;grind [aS.den,aa.plain]
 |.lit sz len l,p,q,ae,ad=>by
  obtain⟨ps,gy,rfl⟩:=Option.map_eq_some_iff.1 ae;obtain⟨aG,rfl,ak,cD,_⟩:=ad;obtain⟨e,ah⟩:=sG gy ak;grind [aS.den,aa.plain]
 |.fn f l,p,q,ae,ad=>by
  obtain⟨ps,gy,rfl⟩:=Option.map_eq_some_iff.1 ae;obtain⟨aG,rfl,ak⟩:=ad;obtain⟨e,ah⟩:=sG gy ak;grind [aS.den,aa.plain]
 |.ft l 0,p,q,ae,ad=>by
  obtain⟨ps,gy,rfl⟩:=Option.map_eq_some_iff.1 ae;obtain⟨aG,ak,cD,rfl⟩:=ad;obtain⟨e,ah⟩:=sG gy ak;grind [aS.den,aa.plain]
 |.ft l (n+1),p,q,ae,ad=>by trivial
 |.undef,p,q,ae,ad | .bT,p,q,ae,ad | .ptr _ _,p,q,ae,ad | .c8,p,q,ae,ad | .cq _,p,q,ae,ad | .own _,p,q,ae,ad | .fF _ _ _,p,q,ae,ad | .fQ _ _ _,p,q,ae,ad=>by trivial
theorem sG{F:cP}{E:Env}:∀{l:List aL}{ps:List aS}{aG:List aa},hT l=some ps->cJ F E l aG->aG=ep E.ρ ps/\bG aG=true
 |[],ps,aG,ae,ad=>by
  simp[hT]at ae;subst ae;subst ad;trivial
 |v::af,ps,aG,ae,ad=>by
  simp only[hT]at ae;split at ae
  ·rename_i p iv U ab;injection ae with ae;obtain⟨q,r,rfl,al,aJ,bm⟩:=ad;obtain⟨aK,aO⟩:=wJ U al;obtain⟨bS,b8⟩:=sG ab bm;grind [aL.cu,ep,bG]
  ·cases ae
theorem QY{F:cP}{E:Env}:∀{l:List aL}{ps:List aS}{aG:List aa},hT l=some ps->hk F E l aG->aG=ep E.ρ ps/\jO aG=true
 |[],ps,aG,ae,ad=>by
  simp[hT]at ae;subst ae;subst ad;trivial
 |v::af,ps,aG,ae,ad=>by
  simp only[hT]at ae;split at ae
  ·rename_i p iv U ab;injection ae with ae;obtain⟨q,r,rfl,al,bm⟩:=ad;obtain⟨aK,aO⟩:=wJ U al;obtain⟨bS,b8⟩:=QY ab bm;grind [ep,jO]
  ·cases ae
end
end
end Go.Proofs.YtlminnpaeaganaaGreat
