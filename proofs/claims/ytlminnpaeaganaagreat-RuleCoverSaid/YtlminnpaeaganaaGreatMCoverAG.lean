/- Part of the proof of RuleCover. No condition. -/
import Derived.ProofKit
import Derived.Below
import Derived.ChangeSame
import Derived.Carry
import Derived.WideKeyArgs
import Derived.WalkKit
import Derived.Conc.Own
import Derived.Test.YtlminnpaeaganaaGreatMCoverAF
namespace Go.Proofs.YtlminnpaeaganaaGreat
set_option maxRecDepth 100000
set_option linter.all false
section
open Go Go.RowKit
variable[cQ]
structure Pos where
 box:Bool
 i:Nat
 j:Nat
 own:Option (Nat×e9)
 bK:Bool
 deriving Inhabited
structure mz where
 pos:List Pos
 iI:List Nat
 live:List Nat
 pre:List Nat
 bb:Bool
 deriving Inhabited
def Sym.at(S:Sym)(p:Pos):aL:=if p.box=true then(match S.bx.getD p.i .gone with | .cells l=>l.getD p.j .bT|_=>.bT)else S.get p.i
def Sym.setAt(S:Sym)(p:Pos)(v:aL):Sym:=if p.box=true then(match S.bx.getD p.i .gone with | .cells l=>{ S with bx:=S.bx.set p.i (.cells (l.set p.j v)) } | _=>S)else{ S with g:=S.g.set p.i v }
def ve(S:Sym):List Pos->List Nat
 |[]=>[]
 |p::l=>match p.own,S.at p with
  |some _,.own k=>k::ve S l
  |_,_=>ve S l
def Sym.xj(S:Sym):List Nat->Sym
 |[]=>S
 |k::l=>Sym.xj { S.dD (aL.ts k true)with bd:=S.bd.set k none } l
def S0(live:List Nat):Nat->List aL->List aL
 |_,[]=>[]
 |t,v::l=>(if live.contains t then v else .bT)::S0 live (t+1) l
mutual
def aL.has(k:Nat):aL->Bool
 |.own j=>j+j==k
 |.fF j _ _=>j+j==k
 |.ptr i _=>i+i+1==k
 |.fn _ l=>ti k l
 |.agg l=>ti k l
 |.bD l=>ti k l
 |.lit _ _ l=>ti k l
 |.ft l _=>ti k l
 |_=>false
def ti(k:Nat):List aL->Bool
 |[]=>false
 |v::l=>v.has k||ti k l
end
def ga.has(k:Nat):ga->Bool
 |.cells l=>ti k l
 |_=>false
def Sym.names(S:Sym)(k:Nat):Bool:=ti k S.g||S.bx.any (ga.has k)||S.ys.any λy=>ti k y.g
def RY(f:Nat->Bool):Nat->List (Option c6)->List (Option c6)
 |_,[]=>[]
 |k,a::l=>(if f k then a else none)::RY f (k+1) l
def RZ(f:Nat->Bool):Nat->List ga->List ga
 |_,[]=>[]
 |k,a::l=>(match a with | .cells c=>if f k then .cells c else .gone|b=>b)::RZ f (k+1) l
def Sym.eP(S:Sym)(live:List Nat):Sym:=
 let S:={ S with g:=S0 live 0 S.g };let S:={ S with bx:=RZ (λk=>decide (k<S.dO)||S.names (k+k+1)) 0 S.bx }
 { S with bd:=RY (λk=>decide (k<S.base)||S.names (k+k)) 0 S.bd }
def Sym.fresh(S:Sym):List Pos->Sym
 |[]=>S
 |p::l=>match p.own with
  |none=>Sym.fresh { S.setAt p (.e (.var S.cd))with cd:=S.cd+1 } l
  |some (sz,b)=>Sym.fresh { S.setAt p (.own S.bd.length)with bd:=S.bd++[some ⟨sz,b,.var S.cd⟩],cd:=S.cd+1 } l
def Sym.A7(S:Sym):List Nat->Sym
 |[]=>S
 |k::l=>match S.bd.getD k none with
  |some a=>Sym.A7 { S with bd:=S.bd.set k (some { a with c:=.var S.cd }),cd:=S.cd+1 } l
  |none=>Sym.A7 { S with cd:=S.cd+1 } l
def oC(b4:mz)(S:Sym):Sym:={ (Sym.fresh ((S.xj (ve S b4.pos)).eP b4.live) b4.pos).A7 b4.iI with ey:=S.ey+1,bb:=b4.bb }
def yU(S:Sym):List Pos->Option (List aS×List (Option Nat))
 |[]=>some ([],[])
 |p::l=>match yU S l with
  |none=>none
  |some (ps,ck)=>match p.own,S.at p with
   |none,v=>match v.cu with
    |some q=>some (q::ps,none::ck)
    |none=>none
   |some (sz,b),.own k=>match S.arr k with
    |some a=>if a.sz=sz/\a.born.b b=true/\b.still=true/\ck.contains (some k)=false then some (.e a.c::ps,some k::ck)else none
    |none=>none
   |some (sz,.cZ),.e (.bu .bC)=>if 0<sz then some (.e (.bu (.agg []))::ps,none::ck)else none
   |_,_=>none
def y0(ba S:Sym):List Nat->Option (List aS)
 |[]=>some []
 |k::l=>match ba.arr k,S.arr k,y0 ba S l with
  |some h,some a,some ps=>if a.sz=h.sz/\a.born.b h.born=true then some (.e a.c::ps)else none
  |_,_,_=>none
def sY(l:List Pos)(box:Bool)(i j:Nat):Bool:=l.any λp=>p.box==box&&decide (p.i=i)&&(!box||decide (p.j=j))
def tS:Option c6->Option c6->Bool
 |none,none=>true
 |some a,some b=>decide (a.sz=b.sz)&&a.born.b b.born&&a.c.b b.c
 |_,_=>false
mutual
def aL.qj(H:Sym)(n:Nat):aL->Bool
 |.own k=>decide (k<n)&&(H.arr k).isSome
 |.fF _ _ _=>false
 |.cq _=>true
 |.fn _ l=>rk H n l
 |.agg l=>rk H n l
 |.bD l=>rk H n l
 |.lit _ _ l=>rk H n l
 |.ft l _=>rk H n l
 |_=>true
def rk(H:Sym)(n:Nat):List aL->Bool
 |[]=>true
 |v::l=>v.qj H n&&rk H n l
end
def BC(H:Sym)(n:Nat)(h u v:aL):Bool:=match h with
 |.bT=>true
 |h=>h.b u&&h.b v&&h.qj H n
def pq(P:Nat->Bool)(H:Sym)(n:Nat):Nat->List aL->List aL->List aL->Bool
 |_,[],[],[]=>true
 |t,h::ao,u::us,v::af=>(P t||BC H n h u v)&&pq P H n (t+1) ao us af
 |_,_,_,_=>false
def jR(l:List Pos)(H:Sym)(n:Nat):Nat->List ga->List ga->List ga->Bool
 |_,[],[],_=>true
 |i,.cells ao::fI,.cells us::ei,.cells af::ss=>pq (sY l true i) H n 0 ao us af&&jR l H n (i+1) fI ei ss
 |i,.c8::fI,.c8::ei,.c8::ss=>jR l H n (i+1) fI ei ss
 |i,.gone::fI,_::ei,_::ss=>jR l H n (i+1) fI ei ss
 |_,_,_,_=>false
def JP(ck:List (Option Nat))(as:List Nat)(H ba S:Sym)(n:Nat):Bool:=(List.range n).all λk=>
 match H.arr k with
 |none=>true
 |some h=>!ck.contains (some k)&&(as.contains k||(tS (some h) (ba.arr k)&&tS (some h) (S.arr k)))
def Bj:List cj->List cj->Bool
 |[],[]=>true
 |a::l,b::m=>decide (a.pend=b.pend)&&decide (a.busy=b.busy)&&Bj l m
 |_,_=>false
def Bi(H:Sym)(n:Nat):Nat->List Pos->Bool
 |_,[]=>true
 |v,p::l=>(match p.own with
  |none=>(H.at p).b (.e (.var v))
  |some (sz,b)=>match H.at p with
   |.own K=>decide (n<=K)&&(match H.arr K with|some a=>decide (a.sz=sz)&&a.born.b b&&a.c.b (.var v)|none=>false)
   |_=>false)&&Bi H n (v+1) l
def A8(H ba:Sym):Nat->List Nat->Bool
 |_,[]=>true
 |v,k::l=>(match H.arr k,ba.arr k with|some h,some a=>decide (h.sz=a.sz)&&h.born.b a.born&&h.c.b (.var v)|_,_=>false)&&decide (l.contains k=false)&&A8 H ba (v+1) l
def nS(H:Sym):List Pos->List (Option Nat)
 |[]=>[]
 |p::l=>(match p.own,H.at p with|some _,.own K=>some K|_,_=>none)::nS H l
def IP(ck:List (Option Nat))(n m:Nat):Bool:=(List.range m).all λk=>decide (k<n)||ck.contains (some k)
def v9:List (Option Nat)->Bool
 |[]=>true
 |none::l=>v9 l
 |some k::l=>!l.contains (some k)&&v9 l
def Jn(H ba S:Sym)(ck:List (Option Nat))(as:List Nat):Bool:=(List.range H.base).all λk=>tS (H.arr k) (ba.arr k)&&tS (H.arr k) (S.arr k)&&!ck.contains (some k)&&!as.contains k
def Em(b4:mz)(ba H S:Sym):Option (List aS):=match yU S b4.pos with
 |some (ps,ck)=>match y0 ba S b4.iI with
  |some bz=>if decide (H.cd=ba.cd+b4.pos.length+b4.iI.length)&&Bi H ba.bd.length ba.cd b4.pos&&A8 H ba (ba.cd+b4.pos.length) b4.iI&&v9 (nS H b4.pos)&&IP (nS H b4.pos) ba.bd.length H.bd.length&&decide (ba.bd.length<=H.bd.length) &&
    pq (λt=>sY b4.pos false t 0) H ba.bd.length 0 H.g ba.g S.g&&jR b4.pos H ba.bd.length 0 H.bx ba.bx S.bx&&JP ck b4.iI H ba S ba.bd.length&&b4.iI.all (λk=>decide (k<ba.bd.length))&&Bj H.ys S.ys&&(b4.bb||(!S.bb&&Jn H ba S ck b4.iI))then some (ps++bz)else none
  |none=>none
 |none=>none
def Jv(S:Sym):List Pos->List Nat
 |[]=>[]
 |p::l=>(if p.own.isSome||!p.bK then[]else(S.at p).owns)++Jv S l
def ad8(b4:mz)(H S:Sym):String:=
 let own:=λ(S:Sym)(v:aL)=>match v with
  |.own k=>match S.arr k with
   |some a=> "x"
   |none => "-"
  |.e (.bu .bC) => "n"
  |.e _ => "v"
  |.agg _ => "v"
  |.lit _ _ _ => "v"
  |.bT => "j"
  |.undef => "u"
  |_ => "x"
 let ok:=λ(h v:aL)=>match h with | .bT=>true|h=>h.b v
 let ch:=(List.range H.bd.length).filterMap λk=>if k<H.bd.length-(b4.pos.filter λp=>p.own.isSome).length&&!b4.iI.contains k&&(H.bd.getD k none).isSome&&(S.bd.getD k none).isSome&&!tS (H.bd.getD k none) (S.bd.getD k none)then some "x" else none
 let g:=(List.range H.g.length).filterMap λt=>if sY b4.pos false t 0||ok (H.g.getD t .bT) (S.g.getD t .bT)then none else some "x"
 let b:=(List.range H.bx.length).flatMap λi=>match H.bx.getD i .gone,S.bx.getD i .gone with
  |.cells h,.cells v=>(List.range h.length).filterMap λj=>if sY b4.pos true i j||ok (h.getD j .bT) (v.getD j .bT)then none else some "x"
  |_,_=>[]
 let e:=if b4.bb||!S.bb then "" else "eff-"
 let pv:=b4.pos.map λp=> "x";let ajB:=(List.range H.bx.length).filterMap λi=>match H.bx.getD i .gone,S.bx.getD i .gone with
  |.cells _,.gone=>some "x"
  |_,_=>none
 let ajC:=(List.range H.bd.length).filterMap λk=>if k<H.bd.length-(b4.pos.filter λp=>p.own.isSome).length&&(H.bd.getD k none).isSome&&(S.bd.getD k none).isNone then some "x" else none
 String.join ch++String.join ajB++String.join ajC++String.join g++String.join b++e++String.join pv
structure Hints where
 sites:List Nat
 cp:List (Nat×Nat×Nat)
 thaw:List (Nat×Nat×Nat)
 KA:List (Nat×Nat×mz)
def Bc:List (Nat×Nat×Nat)->Nat->Nat->Nat
 |[],_,_=>0
 |(f,r,n)::l,g,q=>if f=g/\r=q then n else Bc l g q
def Jw:List (Nat×Nat×mz)->Nat->Nat->Option mz
 |[],_,_=>none
 |(f,r,n)::l,g,q=>if f=g/\r=q then some n else Jw l g q
def Jx:List (Nat×Nat×Nat)->Nat->Nat->List Nat
 |[],_,_=>[]
 |(f,r,n)::l,g,q=>if f=g/\r=q then n::Jx l g q else Jx l g q
section
variable(X:Ctx)(W:Hints)
def FA(b4:mz)(ba H S:Sym)(L:Nat)(CR:String):M:=kj 40 (Jv S b4.pos) S λS=>match Em b4 ba H S with
 |some af=>pure (.jump L af)
 |none=>die (CR++ad8 b4 H S)
def Tree.low(L:Nat):List Nat->Tree->Bool
 |_,.ret _=>true
 |ex,.jump cL _=>ex.contains cL||decide (cL<L)
 |ex,.av _ t=>t.low L ex
 |ex,.ite _ a b=>a.low L ex&&b.low L ex
 |ex,.call _ _ t=>t.low L ex
 |ex,.kL _ _ t=>t.low L ex
 |ex,.pick _ _ t=>t.low L ex
 |ex,.loop cL _ b=>b.low L (cL::ex)
 |ex,.join cL b k=>b.low L (cL::ex)&&k.low L ex
 |_,.die=>true
def xk(L:Nat)(x:M):M:=match x with
 |.ok t=>if t.low L []then .ok t else die "label"
 |.error e=>.error e
def y1(p:Nat)(S:Sym)(run:Sym->(eJ->Sym->M)->M)(K:eJ->Sym->M):M:=match Jw W.KA S.site p with
 |none=>run S K
 |some b4=>kj 40 b4.pre S λS=>do
  let H:=oC b4 S;let body ←run { S with ey:=S.ey+1 } λe br=>match e with
   |.normal=>FA b4 S H br S.ey "x"
   |e=>xk S.ey (K e br)
  let k ←K .normal H
  pure (.join S.ey body k)
mutual
def aS.b:aS->aS->Bool
 |.e x,.e y=>x.b y||(match x,y with
  |.bu (.ptr i o),.bu (.ptr j q)=>decide (i=j)&&decide (o=q)
  |_,_=>false)
 |.agg l,.agg m=>lX l m
 |.bD l,.bD m=>lX l m
 |.lit a b l,.lit c d m=>decide (a=c)&&decide (b=d)&&lX l m
 |.fn f l,.fn g m=>decide (f=g)&&lX l m
 |.ref l,.ref m=>lX l m
 |_,_=>false
def lX:List aS->List aS->Bool
 |[],[]=>true
 |x::l,y::m=>x.b y&&lX l m
 |_,_=>false
end
def BE:List aa->List aa->Bool
 |[],[]=>true
 |x::l,y::m=>Cx x y&&BE l m
 |_,_=>false
def BF:Option aS->Option aS->Bool
 |none,none=>true
 |some x,some y=>x.b y
 |_,_=>false
def Prim.b:Prim->Prim->Bool
 |.bin o t x y,.bin o' bw bk dj=>decide (o=o')&&decide (t=bw)&&x.b bk&&y.b dj
 |.un o x,.un o' bk=>decide (o=o')&&x.b bk
 |.conv s t x,.conv s' bw bk=>decide (s=s')&&decide (t=bw)&&x.b bk
 |.ext x i,.ext bk cm=>x.b bk&&decide (i=cm)
 |.agg n x,.agg eu bk=>decide (n=eu)&&x.b bk
 |.one x,.one bk=>x.b bk
 |.row z x i,.row dy bk cm=>decide (z=dy)&&x.b bk&&i.b cm
 |.idx z x i,.idx dy bk cm=>decide (z=dy)&&x.b bk&&i.b cm
 |.len z x,.len dy bk=>decide (z=dy)&&x.b bk
 |.slice z x l h,.slice dy bk aG bc=>decide (z=dy)&&x.b bk&&BF l aG&&BF h bc
 |.iz m l,.iz m' aG=>decide (m=m')&&lX l aG
 |.j2 l,.j2 aG=>lX l aG
 |.mk z b x,.mk dy a6 bk=>BE z dy&&decide (b=a6)&&x.b bk
 |.kX z c i,.kX dy c' cm=>decide (z=dy)&&c.b c'&&i.b cm
 |.get z o n c i,.get dy o' eu c' cm=>decide (z=dy)&&decide (o=o')&&decide (n=eu)&&c.b c'&&i.b cm
 |.put z o c i l,.put dy o' c' cm aG=>decide (z=dy)&&decide (o=o')&&c.b c'&&i.b cm&&lX l aG
 |.push z b c y,.push dy a6 c' dj=>decide (z=dy)&&decide (b=a6)&&c.b c'&&y.b dj
 |.oG z c,.oG dy c'=>decide (z=dy)&&c.b c'
 |.bK z b c,.bK dy a6 c'=>decide (z=dy)&&b.b a6&&c.b c'
 |.deref n x,.deref eu bk=>decide (n=eu)&&x.b bk
 |.cont r z x,.cont bR dy bk=>decide (r=bR)&&decide (z=dy)&&x.b bk
 |.wZ x,.wZ bk=>x.b bk
 |.ints x,.ints bk=>x.b bk
 |.ins k z c l,.ins bB dy c' aG=>decide (k=bB)&&decide (z=dy)&&c.b c'&&lX l aG
 |.keys z x,.keys dy bk=>decide (z=dy)&&x.b bk
 |.mI z x,.mI dy bk=>decide (z=dy)&&x.b bk
 |.lI x,.lI bk=>x.b bk
 |.qz x,.qz bk=>x.b bk
 |.qA b c,.qA a6 c'=>b.b a6&&c.b c'
 |_,_=>false
def Tree.b:Tree->Tree->Bool
 |.ret v,.ret u=>v.b u
 |.jump L l,.jump M m=>decide (L=M)&&lX l m
 |.av p t,.av q u=>p.b q&&t.b u
 |.ite c x y,.ite d u v=>c.b d&&x.b u&&y.b v
 |.call g l t,.call h m u=>decide (g=h)&&lX l m&&t.b u
 |.kL f l t,.kL g m u=>f.b g&&lX l m&&t.b u
 |.pick z c t,.pick dy c' u=>decide (z=dy)&&c.b c'&&t.b u
 |.loop L i t,.loop M j u=>decide (L=M)&&lX i j&&t.b u
 |.join L x y,.join M u v=>decide (L=M)&&x.b u&&y.b v
 |.die,.die=>true
 |_,_=>false
def EL(inl:fh)(yl:fh)(ops:Array Oper)(e2:Nat)(S:Sym)(k:Nat->Sym->M)(i:Nat):M:=match ops[i]? with
 |some o=>kh X inl yl none ops e2 [o] i S (k i)
 |none=>die "any"
def SR(t:Tree):M->Bool
 |.ok u=>t.b u
 |.error _=>false
def wv(inl:fh)(yl:fh)(ops:Array Oper)(e2:Nat):Nat->Array Bool->Sym->(Sym->M)->M
 |0,l,S,K=>match Region.ready .any ops l with
  |[]=>K S
  |_::_=>die "any"
 |n+1,l,S,K=>match Region.ready .any ops l with
  |[]=>K S
  |i::is=>do
   let t ←EL X inl yl ops e2 S (λi S=>wv inl yl ops e2 n (l.setIfInBounds i true) S K) i
   if is.all λj=>SR t (EL X inl yl ops e2 S (λi S=>wv inl yl ops e2 n (l.setIfInBounds i true) S K) j)then pure t else die "x"
def sO:eJ->Option (Option Nat)
 |.normal=>none
 |.ret=>some none
 |.exit i=>some (some i)
def xl:Option (Option Nat)->eJ
 |none=>.normal
 |some none=>.ret
 |some (some i)=>.exit i
mutual
def aL.qx(n:Nat):aL->aL
 |.cq y=>if y<n then .cq y else .bT
 |.fn f l=>.fn f (rC n l)
 |.ft l o=>.ft (rC n l) o
 |.agg l=>.agg (rC n l)
 |.bD l=>.bD (rC n l)
 |.lit a b l=>.lit a b (rC n l)
 |.own k=>.own k
 |.fF k x fo=>.fF k x fo
 |.e y=>.e y
 |.undef=>.undef
 |.bT=>.bT
 |.ptr i o=>.ptr i o
 |.c8=>.c8
 |.fQ y s fo=>.fQ y s fo
def rC(n:Nat):List aL->List aL
 |[]=>[]
 |v::l=>v.qx n::rC n l
end
def HK(inl:fh)(f:FuncId)(h:Operand)(ps:Array Tmp)(a b:Code)(p:Nat)(S:Sym)(K:eJ->Sym->M):M:=match S.ay h with
 |.fn g caps=>match X.P.funcs[g]? with
  |some fn=>if fn.name = "runtime.NumGoroutine" \/ fn.body.isNone then die "range" else
   inl (700000+p%100000) g (.cq S.ys.length::caps) { S with ys:=S.ys++[⟨S.g.map aL.kI,f,ps.toList,a,b,p,none,false⟩] } λ_ br=>
    match br.ys[S.ys.length]? with
    |some y=>if y.busy then die "range" else K (xl y.pend) { br with bx:=br.bx.map (ga.map (aL.qx S.ys.length)),ys:=br.ys.take S.ys.length }
    |none=>die "range"
  |none=>die "range"
 |_=>die "range over a function that is not known"
def comp(inl:fh)(yl:fh)(f:FuncId):Code->Nat->Sym->(eJ->Sym->M)->M
 |.skip,_,S,K=>K .normal S
 |.label _,_,S,K=>K .normal S
 |.scope x,p,S,K=>comp inl yl f x (2*p) S K
 |.ret,_,S,K=>K .ret S
 |.exit id,_,S,K=>K (.exit id) S
 |.seq x y,p,S,K=>comp inl yl f x (2*p) S λe S=>match e with
  |.normal=>comp inl yl f y (2*p+1) S K
  |e=>K e S
 |.cond c x y,p,S,K=>y1 W p S (λS K=>match S.ay c with
   |.e (.bu (.bool b))=>if b then comp inl yl f x (2*p) S K else comp inl yl f y (2*p+1) S K
   |.e e=>do
    let a ←comp inl yl f x (2*p) S K
    let b ←comp inl yl f y (2*p+1) S K
    pure (.ite e a b)
   |_=>die "cond") K
 |.block id x,p,S,K=>y1 W p S (λS K=>comp inl yl f x (2*p) S λe S=>match e with
   |.exit i=>if i=id then K .normal S else K (.exit i) S
   |e=>K e S) K
 |.region e2 ops false,p,S,K=>y1 W p S (λS K=>kh X inl yl none ops e2 ops.toList 0 S (K .normal)) K
 |.region e2 ops true,p,S,K=>y1 W p S (λS K=>
   if Ra ops (Bc W.cp f e2)then kj 40 (Jx W.thaw S.site e2) S λS=>
    kh X inl yl (some S.bx.length) ops e2 (ops.toList.take (Bc W.cp f e2)) 0 S λS=>kh X inl yl none ops e2 (ops.toList.drop (Bc W.cp f e2)) (Bc W.cp f e2) S (K .normal)
   else wv X inl yl ops e2 ops.size (Array.replicate ops.size false) S (K .normal)) K
 |.loop x,p,S,K=>match Jw W.KA S.site p with
  |none=>die "x"
  |some b4=>kj 40 (b4.pre++Jv S b4.pos) S λS=>do
   let H:=oC b4 S
   match Em b4 S H S with
   |none=>die "x"
   |some af=>do
    let body ←comp inl yl f x (2*p) H λe br=>match e with
     |.normal=>FA b4 S H br S.ey "x"
     |e=>xk S.ey (K e br)
    pure (.loop S.ey af body)
 |.rangeFunc h ps a b,p,S,K=>HK X inl f h ps a b p S K
 |_,_,_,_=>die "code"
def pA(S:Sym):List ResultVar->Option (List aL)
 |[]=>some []
 |.tmp t::l=>(pA S l).map (S.get t::·)
 |.cell x t::l=>match S.get x with
  |.ptr i off=>match E8 X S none t i off,pA S l with
   |some v,some af=>some (v::af)
   |_,_=>none
  |_=>none
def pB:List aL->aL
 |[v]=>v
 |l=>.bD l
def Sym.sub(S:Sym)(g:List aL)(site:Nat):Sym:={ S with g:=g,site:=site,base:=S.bd.length,dO:=S.bx.length,bb:=false }
def Sym.back(S br:Sym):Sym:={ br with g:=if br.bb then S.g.map aL.kI else S.g,site:=S.site,base:=S.base,dO:=S.dO,bb:=S.bb||br.bb }
def y2(g:List aL):List Nat->List aL->List aL
 |p::ps,v::af=>y2 (g.set p v) ps af
 |_,_=>g
def tg(l:List cj)(y:Nat)(b:Bool)(e:Option (Option Nat)):List cj:=match l[y]? with
 |some r=>l.set y { r with pend:=e,busy:=b }
 |none=>l
mutual
def vf:Nat->fh
 |0,_,g,_,_,_=>die "x"
 |n+1,key,g,args,S,K=>match X.P.funcs[g]? with
  |none=>die "function"
  |some fn=>match fn.body with
   |none=>die "body"
   |some c=>if(hr fn.ntmps c&&!jU X.P c)=false\/fn.ntmps<args.length then die "slots" else
    if W.sites.contains (S.site*1000000+key+1)=false then die "x" else
    comp X W (vf n) (vg n) g c 1 (S.sub (args++List.replicate (fn.ntmps-args.length) .undef) (S.site*1000000+key+1)) λe br=>match e with
     |.exit _=>die "exit"
     |_=>match pA X br fn.results.toList with
      |some af=>K (pB af) (S.back br)
      |none=>die "x"
def vg:Nat->fh
 |0,_,_,_,_,_=>die "too deep- yield"
 |n+1,key,y,args,S,K=>match S.ys[y]? with
  |none=>die "yield"
  |some r=>if r.pend≠none\/r.busy=true\/args.length≠r.ps.length\/mm r.kV=false\/mm r.body=false then die "yield behind the end" else
   if W.sites.contains (S.site*1000000+key+1)=false then die "x" else
   comp X W (vf n) (vg n) r.f r.kV (2*r.p) (S.sub (y2 r.g r.ps args) (S.site*1000000+key+1)) λe ba=>match e with
    |.normal=>match ba.ys[y]? with
     |some eh=>if eh.pend≠none\/eh.busy=true then die "yield- assignments" else
      comp X W (vf n) (vg n) r.f r.body (2*r.p+1) { ba with ys:=tg ba.ys y true none } λe br=>K (.e (.bu (.bool (iH e).isNone))) { S.back br with ys:=tg br.ys y false (sO e) }
     |none=>die "yield- assignments"
    |_=>die "yield- assignments"
end
def AW(eM:TypeId):List TypeId->Nat->List aL
 |[],_=>[]
 |t::l,i=>(if t=eM then .c8 else .e (.var i))::AW eM l (i+1)
def Bm:Nat->Nat->List aL
 |0,_=>[]
 |n+1,i=>.e (.var i)::Bm n (i+1)
def RM(fn:Func):Sym:={ g:=AW X.eM fn.params.toList 0++Bm fn.nfree fn.params.size++List.replicate (fn.ntmps-(fn.params.size+fn.nfree)) .undef,bx:=[],bd:=[],ys:=[],cd:=fn.params.size+fn.nfree,cU:=[],ey:=0,site:=0,base:=0,dO:=0,bb:=false }
def D7(f:FuncId)(K:Func->Sym->M):M:=match X.P.funcs[f]? with
 |none=>die "function"
 |some fn=>match fn.body with
  |none=>die "body"
  |some c=>if(hr fn.ntmps c&&!jU X.P c)=false\/fn.ntmps<fn.params.size+fn.nfree then die "slots" else
   comp X W (vf X W 12) (vg X W 12) f c 1 (RM X fn) λe S=>match e with
    |.exit _=>die "exit"
    |_=>K fn S
def TF(fn:Func)(S:Sym):M:=match pA X S fn.results.toList with
 |some af=>kj 40 (nV af) S λS=>match pA X S fn.results.toList with
  |some af=>match(pB af).cu with
   |some v=>pure (.ret v)
   |none=>die "result"
  |none=>die "result"
 |none=>die "results"
def IU(f:FuncId):M:=D7 X W f (TF X)
def E1:Option (Nat×Nat)->aL->Option Nat
 |none,.own k=>some k
 |some (n,j),.agg l=>if l.length=n then match l[j]? with
  |some (.own k)=>some k
  |_=>none
  else none
 |_,_=>none
def RP:Option (Nat×Nat)->aL->aR->aL
 |none,_,x=>.e x
 |some (_,j),.agg l,x=>.agg (l.set j (.e x))
 |_,_,_=>.bT
def TG(r:Option (Nat×Nat))(fn:Func)(S:Sym):M:=match pA X S fn.results.toList with
 |some af=>match E1 r (pB af)with
  |some k=>kj 40 ((nV af).filter λi=>i != k+k) S λS=>match pA X S fn.results.toList with
   |some af=>match E1 r (pB af)with
    |some k=>match S.arr k with
     |some a=>if a.born.j2=false then die "result" else emit (.bK a.sz a.born a.c) true S λx S=>match(RP r (pB af) x).cu with
      |some v=>pure (.ret v)
      |none=>die "result"
     |none=>die "result"
    |none=>die "result"
   |none=>die "result"
  |none=>match r,pB af with
   |none,.e (.bu .bC)=>pure (.ret (.e (.bu .bC)))
   |_,_=>die "no own result"
 |none=>die "results"
def Ir(r:Option (Nat×Nat))(f:FuncId):M:=D7 X W f (TG X r)
end
end
section
open Go Go.RowKit
variable[cQ]
theorem hH(l:List aa):bG l=true↔∀p∈l,p.plain=true/\p.one=true:=by
 induction l with
 |nil=>trivial
 |cons p ps az=>grind [bG]
theorem X9(l:List aa):jO l=true↔∀p∈l,p.plain=true:=by
 induction l with
 |nil=>trivial
 |cons p ps az=>simp[jO,az]
mutual
theorem Dn(e:b9):∀p:aa,p.plain=true->p.bW e=p
 |.int _ _,_ | .bool _,_ | .str _,_ | .ca,_ | .eL,_ | .bC,_=>by rfl
 |.undef,h | .bad,h | .dead _,h | .cq _,h | .ptr _ _,h=>by rfl
 |.mp _ (some _) _ _,h=>by trivial
 |.mp _ none _ _,h=>by rfl
 |.sl none _ _ _ cs,h=>by simp only[aa.bW,pS e cs (by assumption)]
 |.sl (some _) _ _ _ cs,h=>by trivial
 |.bJ none _ cs,h=>by simp only[aa.bW,pS e cs (by assumption)]
 |.bJ (some _) _ cs,h=>by trivial
 |.fn _ cs,h=>by simp only[aa.bW,pS e cs (by assumption)]
 |.agg cs,h=>by simp only[aa.bW,pS e cs (by assumption)]
 |.bD cs,h=>by simp only[aa.bW,M5 e cs (by assumption)]
theorem pS(e:b9):∀l:List aa,bG l=true->eF e l=l
 |[],_=>rfl
 |p::ps,h=>by
  simp[bG]at h;simp only[eF,Dn e p h.1.1,pS e ps h.2]
theorem M5(e:b9):∀l:List aa,jO l=true->eF e l=l
 |[],_=>rfl
 |p::ps,h=>by
  simp[jO]at h;simp only[eF,Dn e p h.1,M5 e ps h.2]
end
mutual
theorem HT(id:Nat):∀p:aa,p.plain=true->p.bK id=p
 |.int _ _,_ | .bool _,_ | .str _,_ | .ca,_ | .eL,_ | .bC,_=>by rfl
 |.undef,h | .bad,h | .dead _,h | .cq _,h | .ptr _ _,h=>by rfl
 |.mp _ (some _) _ _,h=>by trivial
 |.mp _ none _ _,h=>by rfl
 |.sl none _ _ _ cs,h=>by simp only[aa.bK,um id cs (by assumption)]
 |.sl (some _) _ _ _ cs,h=>by trivial
 |.bJ none _ cs,h=>by simp only[aa.bK,um id cs (by assumption)]
 |.bJ (some _) _ cs,h=>by trivial
 |.fn _ cs,h=>by simp only[aa.bK,um id cs (by assumption)]
 |.agg cs,h=>by simp only[aa.bK,um id cs (by assumption)]
 |.bD cs,h=>by simp only[aa.bK,NI id cs (by assumption)]
theorem um(id:Nat):∀l:List aa,bG l=true->iW id l=l
 |[],_=>rfl
 |p::ps,h=>by
  simp[bG]at h;simp only[iW,HT id p h.1.1,um id ps h.2]
theorem NI(id:Nat):∀l:List aa,jO l=true->iW id l=l
 |[],_=>rfl
 |p::ps,h=>by
  simp[jO]at h;simp only[iW,HT id p h.1,NI id ps h.2]
end
mutual
theorem Df(n:Nat):∀p:aa,p.plain=true->p.cH n=p
 |.int _ _,_ | .bool _,_ | .str _,_ | .ca,_ | .eL,_ | .bC,_=>by rfl
 |.undef,h | .bad,h | .dead _,h | .cq _,h | .ptr _ _,h=>by trivial
 |.mp _ (some _) _ _,h=>by rfl
 |.mp _ none _ _,h=>by rfl
 |.sl none _ _ _ cs,h=>by simp only[aa.cH,ox n cs (by assumption)]
 |.sl (some _) _ _ _ cs,h=>by trivial
 |.bJ none _ cs,h=>by simp only[aa.cH,ox n cs (by assumption)]
 |.bJ (some _) _ cs,h=>by trivial
 |.fn _ cs,h=>by simp only[aa.cH,ox n cs (by assumption)]
 |.agg cs,h=>by simp only[aa.cH,ox n cs (by assumption)]
 |.bD cs,h=>by simp only[aa.cH,M6 n cs (by assumption)]
theorem ox(n:Nat):∀l:List aa,bG l=true->iR n l=l
 |[],_=>rfl
 |p::ps,h=>by
  simp[bG]at h;simp only[iR,Df n p h.1.1,ox n ps h.2]
theorem M6(n:Nat):∀l:List aa,jO l=true->iR n l=l
 |[],_=>rfl
 |p::ps,h=>by
  simp[jO]at h;simp only[iR,Df n p h.1,M6 n ps h.2]
end
mutual
theorem Ag(n an:Nat):∀p:aa,p.plain=true->p.anon n an=p
 |.int _ _,_ | .bool _,_ | .str _,_ | .ca,_ | .eL,_ | .bC,_=>by rfl
 |.undef,h | .bad,h | .dead _,h | .cq _,h | .ptr _ _,h=>by trivial
 |.mp _ (some _) _ _,h=>by trivial
 |.mp _ none _ _,h=>by rfl
 |.sl none _ _ _ cs,h=>by simp only[aa.anon,vZ n an cs (by assumption)]
 |.sl (some _) _ _ _ cs,h=>by trivial
 |.bJ none _ cs,h=>by simp only[aa.anon,vZ n an cs (by assumption)]
 |.bJ (some _) _ cs,h=>by trivial
 |.fn _ cs,h=>by simp only[aa.anon,vZ n an cs (by assumption)]
 |.agg cs,h=>by simp only[aa.anon,vZ n an cs (by assumption)]
 |.bD cs,h=>by simp only[aa.anon,M7 n an cs (by assumption)]
theorem vZ(n an:Nat):∀l:List aa,bG l=true->kK n an l=l
 |[],_=>rfl
 |p::ps,h=>by
  simp[bG]at h;simp only[kK,Ag n an p h.1.1,vZ n an ps h.2]
theorem M7(n an:Nat):∀l:List aa,jO l=true->kK n an l=l
 |[],_=>rfl
 |p::ps,h=>by
  simp[jO]at h;simp only[kK,Ag n an p h.1,M7 n an ps h.2]
end
mutual
theorem AL(n an:Nat):∀p:aa,p.plain=true->p.cT n an
 |.int _ _,_ | .bool _,_ | .str _,_ | .ca,_ | .eL,_ | .bC,_=>by trivial
 |.undef,h | .bad,h | .dead _,h | .cq _,h | .ptr _ _,h=>by trivial
 |.mp _ (some _) _ _,h=>by trivial
 |.mp _ none _ _,h=>by trivial
 |.sl none _ _ _ cs,h=>by exact yu n an cs (by assumption)
 |.sl (some _) _ _ _ cs,h=>by trivial
 |.bJ none _ cs,h=>by exact yu n an cs (by assumption)
 |.bJ (some _) _ cs,h=>by trivial
 |.fn _ cs,h=>by exact yu n an cs (by assumption)
 |.agg cs,h=>by exact yu n an cs (by assumption)
 |.bD cs,h=>by exact OI n an cs (by assumption)
theorem yu(n an:Nat):∀l:List aa,bG l=true->e5 n an l
 |[],_=>by trivial
 |p::ps,h=>by
  simp[bG]at h;exact⟨AL n an p h.1.1,yu n an ps h.2⟩
theorem OI(n an:Nat):∀l:List aa,jO l=true->e5 n an l
 |[],_=>by trivial
 |p::ps,h=>by
  simp[jO]at h;exact⟨AL n an p h.1,OI n an ps h.2⟩
end
theorem OJ(E:List b9){p:aa}(h:p.plain=true):p.sub E=p:=by
 induction E with
 |nil=>rfl
 |cons e E az=>grind [aa.sub,Dn]
def aR.ok(ρ:List aa):aR->Prop
 |.var i=>(ρ.getD i .bad).plain=true
 |.proj e j=>e.ok ρ/\(cM (e.den ρ) j).plain=true
 |.bu v=>v.plain=true
theorem aR.jJ{ρ:List aa}{x:aR}(h:x.ok ρ):(x.den ρ).plain=true:=by
 cases x with
 |var i=>exact h
 |proj e j=>exact h.2
 |bu v=>exact h
theorem Zz{v:aa}{j:Nat}(h:v.plain=true)(ae:(cM v j).plain=true):(cM v j).one=true:=by
 unfold cM at *;grind [aa.plain,hH]
theorem W5{ρ b1:List aa}(h:ρ<+:b1){i:Nat}(ae:(ρ.getD i .bad).plain=true):b1.getD i .bad=ρ.getD i .bad:=by
 obtain⟨t,rfl⟩:=h;grind [aa.plain]
theorem aR.j9{ρ b1:List aa}(h:ρ<+:b1):∀{x:aR},x.ok ρ->x.den b1=x.den ρ/\x.ok b1
 |.var i,aj=>by
  have e:=W5 h aj;exact⟨e,by grind [aR.ok]⟩
 |.proj x j,aj=>by
  obtain⟨e,k⟩:=aR.j9 h aj.1;have aO:aR.den b1 (.proj x j)=aR.den ρ (.proj x j):=by simp only[aR.den,e]
  exact⟨aO,k,by rw[e];exact aj.2⟩
 |.bu v,aj=>⟨rfl,aj⟩
structure cP where
 P:Program
 n0:Nat
 hG:Nat
 lH:Nat->di
 d0:Nat
 DI:List aa->Prop
 cV:TN
 UF:Nat->Option c6
 TC:Nat->Option Nat
 kv:List (Nat×Loop)
 GI:List aa
structure Env where
 ρ:List aa
 bd:List (Option c6)
 fw:Nat
 ids:Nat->Option Nat
def g8(b:e9)(id:Option Nat)(sz:Nat)(cs:List aa):aa:=match id with
 |some id=>match b with
  |.map=>.mp false (some id) sz cs
  |.it=>.mp true (some id) sz cs
  |_=>.sl (some id) sz 0 (cs.length/sz) cs
 |none=>.bC
def c6.rel(E:Env)(k:Nat)(a:c6)(cs:List aa):Prop:=
 a.c.ok E.ρ/\a.c.den E.ρ=.agg cs/\0<a.sz/\cs.length=cs.length/a.sz*a.sz/\isNil E.ρ a.born cs=some (E.ids k).isNone/\(∀x,a.born=.dyn x->x.ok E.ρ)
mutual
def a0(F:cP)(E:Env):aL->aa->Prop
 |.e x,q=>q=x.den E.ρ/\x.ok E.ρ
 |.undef,q=>q=.undef
 |.bT,_=>True
 |.ptr i o,q=>q=.ptr (F.n0+i) o/\i<E.fw
 |.c8,q=>q=.ptr F.d0 0/\F.d0<F.n0/\F.lH F.d0=.inv F.DI
 |.cq y,q=>∃l,F.cV.ys[y]?.map eN.l=some l/\q=.cq l
 |.own k,q=>∃a cs,E.bd.getD k none=some a/\a.rel E k cs/\q=g8 a.born (E.ids k) a.sz cs
 |.fF k x fo,q=>∃a cs id n gJ,E.bd.getD k none=some a/\a.rel E k cs/\E.ids k=some id/\x.den E.ρ=.int gJ n/\x.ok E.ρ/\0<=n/\n.toNat<cs.length/a.sz/\q=.bJ (some id) (n.toNat*a.sz+fo) (cs.drop (n.toNat*a.sz+fo))
 |.fQ x sz fo,q=>∃cs off lI,x.den E.ρ=.agg cs/\x.ok E.ρ/\cs.length=sz/\q=.bJ none off (cs.drop fo++lI)
 |.ft l fo,q=>∃aG,cJ F E l aG/\bG aG=true/\q=.bJ none fo (aG.drop fo)
 |.fn f l,q=>∃aG,q=.fn f aG/\cJ F E l aG
 |.agg l,q=>∃aG,q=.agg aG/\cJ F E l aG
 |.bD l,q=>∃aG,q=.bD aG/\hk F E l aG
 |.lit sz len l,q=>∃aG,q=.sl none sz 0 len aG/\cJ F E l aG/\bG aG=true/\aG.length=len*sz
def cJ(F:cP)(E:Env):List aL->List aa->Prop
 |[],l=>l=[]
 |v::af,l=>∃q aG,l=q::aG/\a0 F E v q/\(v=.bT\/q.one=true)/\cJ F E af aG
def hk(F:cP)(E:Env):List aL->List aa->Prop
 |[],l=>l=[]
 |v::af,l=>∃q aG,l=q::aG/\a0 F E v q/\hk F E af aG
end
def vQ(F:cP)(E:Env):ga->di->Prop
 |.cells l,c=>∃aG,c=.cells aG/\cJ F E l aG
 |.c8,c=>c=.inv F.DI
 |.gone,_=>True
def Sym.env(S:Sym)(ρ:List aa)(ids:Nat->Option Nat):Env:=⟨ρ,S.bd,S.bx.length,ids⟩
mutual
def aL.jS:aL->aL
 |.own _=>.bT
 |.fF _ _ _=>.bT
 |.fn f l=>.fn f (q3 l)
 |.ft l o=>.ft (q3 l) o
 |.agg l=>.agg (q3 l)
 |.bD l=>.bD (q3 l)
 |.lit a b l=>.lit a b (q3 l)
 |.e y=>.e y
 |.undef=>.undef
 |.bT=>.bT
 |.ptr i o=>.ptr i o
 |.c8=>.c8
 |.cq a=>.cq a
 |.fQ y s fo=>.fQ y s fo
def q3:List aL->List aL
 |[]=>[]
 |v::l=>v.jS::q3 l
end
def cj.now(y:cj)(r:eN):Nat×Loop:=(r.l,{ r.o with state:=if y.busy then .busy else if y.pend.isSome then .done else .ready,pending:=iH (xl y.pend) })
structure zL(F:cP)(y:cj)(r:eN):Prop where
 ps:r.o.params.toList=y.ps
 kV:r.o.assign=y.kV
 body:r.o.body=y.body
 lt:∀p∈y.ps,p<r.o.tmps.size
 LY:hr r.o.tmps.size y.kV=true
 LZ:hr r.o.tmps.size y.body=true
 own:∀t,(y.g.getD t .bT).jS=y.g.getD t .bT
 g:∀t,a0 F ⟨F.GI,[],F.cV.n-F.n0,λ_=>none⟩ (y.g.getD t .bT) (r.g t)
structure lW(F:cP)(ys:List cj)(ρ:List aa)(rc:List (Nat×Loop)):Prop where
 pre:F.GI<+:ρ
 len:ys.length=F.cV.ys.length
 rc:rc=List.zipWith cj.now ys F.cV.ys++F.kv
 y:∀(i:Nat) y r,ys[i]?=some y->F.cV.ys[i]?=some r->zL F y r
 ne:∀(i j:Nat) r bR,F.cV.ys[i]?=some r->F.cV.ys[j]?=some bR->r.l=bR.l->i=j
 zK:∀r∈F.cV.ys,∀p∈F.kv,p.1≠r.l
theorem lW.mono{F:cP}{ys:List cj}{ρ b1:List aa}{rc:List (Nat×Loop)}(h:lW F ys ρ rc)(k:ρ<+:b1):lW F ys b1 rc:=⟨h.pre.trans k,h.len,h.rc,h.y,h.ne,h.zK⟩
theorem lW.push{F:cP}{ys:List cj}{ρ l:List aa}{rc:List (Nat×Loop)}(h:lW F ys ρ rc):lW F ys (ρ++l) rc:=h.mono (List.prefix_append _ _)
structure Rel(F:cP)(S:Sym)(ρ:List aa)(ids:Nat->Option Nat)(s:aA):Prop where
 len:ρ.length=S.cd
 cU:∀i,i∈S.cU->(ρ.getD i .bad).one=true
 slot:∀t,a0 F (S.env ρ ids) (S.get t) (s.g t)
 dt:s.m.n=F.n0+S.bx.length
 old:∀i,i<F.n0->s.m.β i=F.lH i
 box:∀i b,S.bx[i]?=some b->vQ F (S.env ρ ids) b (s.m.β (F.n0+i))
 hO:∀k id,ids k=some id->F.hG<=id/\id<s.m.an/\k<S.bd.length
 mv:∀k j id,ids k=some id->ids j=some id->k=j
 arr:∀k a,S.bd.getD k none=some a->∃cs,a.rel (S.env ρ ids) k cs
 bg:s.bg=F.cV
 cV:F.hG<=F.cV.a/\F.n0<=F.cV.n
 kY:∀e∈s.bb,F.hG<=e.id/\e.clean
 bb:S.bb=false\/F.hG=F.cV.a->s.bb=[]
 new:S.bb=false->∀k id,ids k=some id->S.base<=k->F.cV.a<=id
 eP:S.bb=false->∀k,k<S.base->S.bd.getD k none=F.UF k/\ids k=F.TC k
 dO:F.cV.n=F.n0+S.dO
 lG:S.base<=S.bd.length
 mS:S.dO<=S.bx.length
 an:F.cV.a<=s.m.an
 kZ:∀i l,i<F.n0->F.lH i=.cells l->e5 F.n0 F.hG l
 rc:lW F S.ys ρ s.m.rc
theorem Rel.S1{F:cP}{S:Sym}{ρ:List aa}{ids:Nat->Option Nat}{s:aA}(h:Rel F S ρ ids s){k id:Nat}(cr:ids k=some id)(he:(S.bb||decide (k<S.base))=false\/F.hG=F.cV.a):F.cV.a<=id:=by
 rcases he with he|he
 ·simp  at he;exact h.new he.1 k id cr (by omega)
 ·rw[←he];exact(h.hO k id cr).1
theorem A9{a b:Bool}{p:Prop}(h:(a||b)=false\/p):a=false\/p:=h.imp_left λh=>by grind
section
variable{F:cP}{E E':Env}
theorem jL:∀{l:List aL}{aG:List aa},cJ F E l aG↔l.length=aG.length/\∀(j:Nat) v q,l[j]?=some v->aG[j]?=some q->a0 F E v q/\(v=.bT\/q.one=true)
 |[],aG=>by grind [cJ]
 |v::af,[]=>by simp[cJ]
 |v::af,q::bz=>by
  simp[cJ];constructor
  ·rintro⟨dF,aG,⟨rfl,rfl⟩,aT,U,ab⟩;rw[jL]at ab;grind
  ·rintro⟨ak,h⟩;obtain⟨aT,U⟩:=h 0 v q (by simp) (by simp);exact⟨q,bz,⟨rfl,rfl⟩,aT,U,jL.2 ⟨by grind,λj u r aC ad=>h (j+1) u r (by grind) (by grind)⟩⟩
theorem mi{l:List aL}{aG:List aa}(h:cJ F E l aG):l.length=aG.length:=(jL.1 h).1
theorem c6.EK{k:Nat}{a:c6}{cs cs':List aa}(h:a.rel E k cs)(bc:a.rel E k cs'):cs=cs':=by
 have:=h.2.1.symm.trans bc.2.1;grind
end
structure Env.le(E E':Env):Prop where
 ρ:E.ρ<+:E'.ρ
 bd:∀k a,E.bd.getD k none=some a->E'.bd.getD k none=some a
 fw:E.fw<=E'.fw
 ids:∀k a,E.bd.getD k none=some a->E'.ids k=E.ids k
theorem Env.le.refl(E:Env):E.le E:=⟨List.prefix_refl _,λ_ _ h=>h,Nat.le_refl _,λ_ _ _=>rfl⟩
theorem Env.le.trans{E nJ Vt:Env}(h:E.le nJ)(k:nJ.le Vt):E.le Vt:=
 ⟨h.ρ.trans k.ρ,λi a e=>k.bd i a (h.bd i a e),Nat.le_trans h.fw k.fw,λi a e=>(k.ids i a (h.bd i a e)).trans (h.ids i a e)⟩
theorem yd{ρ b1:List aa}(h:ρ<+:b1){b:e9}{cs:List aa}(hb:∀x,b=.dyn x->x.ok ρ):isNil b1 b cs=isNil ρ b cs:=by
 cases b with
 |real=>rfl
 |cZ=>rfl
 |map=>rfl
 |it=>rfl
 |dyn x=>simp only[isNil,(aR.j9 h (hb x rfl)).1]
theorem wm(b:e9)(id:Option Nat)(sz:Nat)(cs:List aa):(g8 b id sz cs).one=true:=by
 unfold g8;split
 ·split<;>rfl
 ·rfl
theorem la{b:e9}(h:b.j2=true)(id:Option Nat)(sz:Nat)(cs:List aa):g8 b id sz cs=match id with|some id=>.sl (some id) sz 0 (cs.length/sz) cs|none=>.bC:=by cases b<;>first|rfl|cases h
theorem c6.rel.mono{E E':Env}(h:E.le E'){k:Nat}{a:c6}{cs:List aa}(au:E.bd.getD k none=some a)(ad:a.rel E k cs):a.rel E' k cs:=by
 obtain⟨U,ab,al,aJ,bm,bI⟩:=ad;obtain⟨aK,aO⟩:=aR.j9 h.ρ U;exact⟨aO,by grind,al,aJ,by rw[yd h.ρ bI,h.ids k a au];exact bm,λx aj=>(aR.j9 h.ρ (bI x aj)).2⟩
mutual
theorem a0.mono{F:cP}{E E':Env}(h:E.le E'):∀{v:aL}{q:aa},a0 F E v q->a0 F E' v q
 |.e x,q,ad=>by
  simp only[a0]at ad⊢;obtain⟨aK,aO⟩:=aR.j9 h.ρ ad.2;grind
 |.undef,q,ad=>by assumption
 |.bT,q,ad=>by assumption
 |.ptr i o,q,ad=>by exact⟨ad.1,Nat.lt_of_lt_of_le ad.2 h.fw⟩
 |.c8,q,ad=>by assumption
 |.cq _,q,ad=>by assumption
 |.own k,q,ad=>by
  obtain⟨a,cs,U,ab,al⟩:=ad;exact⟨a,cs,h.bd k a U,ab.mono h U,by rw[h.ids k a U];exact al⟩
 |.fF k x fo,q,ad=>by
  obtain⟨a,cs,id,n,gJ,U,ab,al,aJ,bm,bI⟩:=ad;obtain⟨aK,aO⟩:=aR.j9 h.ρ bm;exact⟨a,cs,id,n,gJ,h.bd k a U,ab.mono h U,by rw[h.ids k a U];exact al,by grind,aO,bI⟩
 |.fQ x sz fo,q,ad=>by
  simp only[a0]at ad⊢;obtain⟨cs,off,lI,U,ab,al⟩:=ad;obtain⟨aK,aO⟩:=aR.j9 h.ρ ab;grind
 |.ft l fo,q,ad=>by
  obtain⟨aG,U,ab⟩:=ad;exact⟨aG,cJ.mono h U,ab⟩
 |.fn f l,q,ad=>by
  obtain⟨aG,U,ab⟩:=ad;exact⟨aG,U,cJ.mono h ab⟩
 |.agg l,q,ad=>by
  obtain⟨aG,U,ab⟩:=ad;exact⟨aG,U,cJ.mono h ab⟩
 |.bD l,q,ad=>by
  obtain⟨aG,U,ab⟩:=ad;exact⟨aG,U,hk.mono h ab⟩
 |.lit sz len l,q,ad=>by
  obtain⟨aG,U,ab,al⟩:=ad;exact⟨aG,U,cJ.mono h ab,al⟩
theorem cJ.mono{F:cP}{E E':Env}(h:E.le E'):∀{l:List aL}{aG:List aa},cJ F E l aG->cJ F E' l aG
 |[],aG,ad=>by assumption
 |v::af,aG,ad=>by
  obtain⟨q,r,U,ab,al,aJ⟩:=ad;exact⟨q,r,U,a0.mono h ab,al,cJ.mono h aJ⟩
theorem hk.mono{F:cP}{E E':Env}(h:E.le E'):∀{l:List aL}{aG:List aa},hk F E l aG->hk F E' l aG
 |[],aG,ad=>by assumption
 |v::af,aG,ad=>by
  obtain⟨q,r,U,ab,aJ⟩:=ad;exact⟨q,r,U,a0.mono h ab,hk.mono h aJ⟩
end
mutual
theorem wJ{F:cP}{E:Env}:∀{v:aL}{p:aS}{q:aa},v.cu=some p->a0 F E v q->q=p.den E.ρ/\q.plain=true
 |.e x,p,q,ae,ad=>by
  simp[aL.cu]at ae;subst ae;simp only[a0]at ad;exact⟨ad.1,by grind [aR.jJ]⟩
 |.agg l,p,q,ae,ad=>by
  obtain⟨ps,gy,rfl⟩:=Option.map_eq_some_iff.1 ae;obtain⟨aG,rfl,ak⟩:=ad;obtain⟨e,ah⟩:=sG gy ak;grind [aS.den,aa.plain]
 |.bD l,p,q,ae,ad=>by
  obtain⟨ps,gy,rfl⟩:=Option.map_eq_some_iff.1 ae;obtain⟨aG,rfl,ak⟩:=ad;obtain⟨e,ah⟩:=QY gy ak;grind [aS.den,aa.plain]
 |.lit sz len l,p,q,ae,ad=>by
  obtain⟨ps,gy,rfl⟩:=Option.map_eq_some_iff.1 ae;obtain⟨aG,rfl,ak,cD,_⟩:=ad;obtain⟨e,ah⟩:=sG gy ak;grind [aS.den,aa.plain]
 |.fn f l,p,q,ae,ad=>by
  obtain⟨ps,gy,rfl⟩:=Option.map_eq_some_iff.1 ae;obtain⟨aG,rfl,ak⟩:=ad;obtain⟨e,ah⟩:=sG gy ak;grind [aS.den,aa.plain]
 |.ft l 0,p,q,ae,ad=>by
  obtain⟨ps,gy,rfl⟩:=Option.map_eq_some_iff.1 ae;obtain⟨aG,ak,cD,rfl⟩:=ad;obtain⟨e,ah⟩:=sG gy ak;grind [aS.den,aa.plain]
 |.ft l (n+1),p,q,ae,ad=>by trivial
 |.undef,p,q,ae,ad | .bT,p,q,ae,ad | .ptr _ _,p,q,ae,ad | .c8,p,q,ae,ad | .cq _,p,q,ae,ad | .own _,p,q,ae,ad | .fF _ _ _,p,q,ae,ad | .fQ _ _ _,p,q,ae,ad=>by trivial
theorem sG{F:cP}{E:Env}:∀{l:List aL}{ps:List aS}{aG:List aa},hT l=some ps->cJ F E l aG->aG=ep E.ρ ps/\bG aG=true
 |[],ps,aG,ae,ad=>by
  simp[hT]at ae;subst ae;subst ad;trivial
 |v::af,ps,aG,ae,ad=>by
  simp only[hT]at ae;split at ae
  ·rename_i p iv U ab;injection ae with ae;obtain⟨q,r,rfl,al,aJ,bm⟩:=ad;obtain⟨aK,aO⟩:=wJ U al;obtain⟨bS,b8⟩:=sG ab bm;grind [aL.cu,ep,bG]
  ·cases ae
theorem QY{F:cP}{E:Env}:∀{l:List aL}{ps:List aS}{aG:List aa},hT l=some ps->hk F E l aG->aG=ep E.ρ ps/\jO aG=true
 |[],ps,aG,ae,ad=>by
  simp[hT]at ae;subst ae;subst ad;trivial
 |v::af,ps,aG,ae,ad=>by
  simp only[hT]at ae;split at ae
  ·rename_i p iv U ab;injection ae with ae;obtain⟨q,r,rfl,al,bm⟩:=ad;obtain⟨aK,aO⟩:=wJ U al;obtain⟨bS,b8⟩:=QY ab bm;grind [ep,jO]
  ·cases ae
end
end
section
open Go Go.RowKit Go.WideShapes Go.ChangeShapes
variable[cQ]
def iK:bo:=⟨λ_=>none,λ_=>none⟩
theorem By(b:Nat):¬iK.own b:=by rintro(⟨i,h⟩|⟨i,h⟩)<;>cases h
def qh(P:Program):List Field->Nat->Nat->Bool
 |[],o,e=>decide (o=e)
 |f::fs,o,e=>decide (f.offset=o)&&qh P fs (o+P.cellsOf f.type) e
def sN(P:Program):Nat->TypeId->Bool
 |0,_=>false
 |k+1,t=>match P.underlying t with
  |some .bool=>true
  |some (.int _)=>true
  |some .string=>true
  |some (.slice e)=>sN P k e&&decide (0<P.cellsOf e)
  |some (.struct fs)=>fs.toList.all (λf=>sN P k f.type)&&qh P fs.toList 0 (P.cellsOf t)
  |_=>false
def g3(P:Program):Nat->TypeId->List aa->Prop
 |0,_,_=>False
 |k+1,t,cs=>match P.underlying t with
  |some .bool=>∃b,cs=[.bool b]
  |some (.int i)=>∃n,cs=[.int i n]/\(Lit.int i n).wf=true
  |some .string=>∃s,cs=[.str s]
  |some (.slice e)=>cs=[.bC]\/∃(off:Nat)(ls:List (List aa)),cs=[.sl none (P.cellsOf e) off ls.length ls.flatten]/\ls.length<=maxLen/\∀l∈ls,g3 P k e l/\l.length=P.cellsOf e
  |some (.struct fs)=>∃ls:List (List aa),cs=ls.flatten/\ls.length=fs.size/\∀(i:Nat) f l,fs[i]?=some f->ls[i]?=some l->g3 P k f.type l/\l.length=P.cellsOf f.type
  |_=>False
theorem MT{ls:List (List aa)}{n:Nat}(h:∀l∈ls,l.length=n):ls.flatten.length=ls.length*n:=by
 induction ls with
 |nil=>simp
 |cons l ls az=>grind
theorem Pr{α β:Type}{f:α->Option β}:∀{l:List α}{ys:List β},l.mapM f=some ys->l.length=ys.length/\∀(i:Nat) a,l[i]?=some a->∃y,ys[i]?=some y/\f a=some y
 |[],ys,h=>by grind
 |a::l,ys,h=>by
  rw[List.mapM_cons]at h;obtain⟨y,aF,h⟩:=Option.bind_eq_some_iff.1 h;obtain⟨sn,bO,h⟩:=Option.bind_eq_some_iff.1 h;simp  at h;obtain⟨U,ab⟩:=Pr bO;grind
section
variable{H:Type}{enc:TypeId×Value->H}{P:Program}{w:World}{spare:Nat->Bool}{held:Bool}
theorem D5{a:Addr}{n:Nat}{cs:List Value}(h:w.cells? 0 a n=some cs)(aI:0<n):a.spot=none/\cs.length=n/\∀j c,cs[j]?=some c->w.cell? ⟨a.block,a.off+j,none⟩=some c:=by
 obtain⟨U,ab⟩:=Pr h;have ao:a.spot=none:=by
  obtain⟨y,_,aF⟩:=ab 0 0 (by simp[aI]);simp only[Addr.add,if_true,World.cell?]at aF;split at aF;all_goals simp_all
 refine⟨ao,by grind,λj c aC=>?_⟩;have jB:j<n:=by grind
 obtain⟨y,xL,Lo⟩:=ab j j (by simp[jB]);rw[aC]at xL;injection xL with xL;subst xL;unfold Addr.add at Lo;split at Lo
 ·rename_i aT;obtain⟨b,o,s⟩:=a;grind
 ·exact Lo
theorem Nu{b:Nat}:∀{l aG:List aa}{off:Nat},b7 iK w b l off->b7 iK w b aG (off+l.length)->b7 iK w b (l++aG) off
 |[],aG,off,h,bc=>by grind
 |p::l,aG,off,h,bc=>by exact⟨h.1,Nu h.2 (by grind)⟩
theorem MU{b c:Nat}:∀{ls:List (List aa)}{off:Nat},(∀(i:Nat) l,ls[i]?=some l->l.length=c/\b7 iK w b l (off+i*c))->b7 iK w b ls.flatten off
 |[],off,h=>by trivial
 |l::ls,off,h=>by
  obtain⟨U,ab⟩:=h 0 l rfl;refine Nu (by grind) (MU (c:=c) λi aG er=>?_);obtain⟨al,aJ⟩:=h (i+1) aG (by grind);grind
theorem pick{α:Type}{Q:Nat->α->Prop}:∀n,(∀i,i<n->∃x,Q i x)->∃l:List α,l.length=n/\∀(i:Nat) x,l[i]?=some x->Q i x
 |0,_=>⟨[],rfl,λi x h=>by simp at h⟩
 |n+1,h=>by
  obtain⟨l,U,ab⟩:=pick n λi hi=>h i (by omega);obtain⟨x,aj⟩:=h n (by omega);refine⟨l++[x],by simp[U],λi y aF=>?_⟩;grind
theorem Nv{cs:List Value}:∀(q2:List Field)(ls:List (List aa))(o e:Nat),qh P q2 o e=true->ls.length=q2.length->(∀(i:Nat) f l,q2[i]?=some f->ls[i]?=some l->bl iK w l ((cs.drop f.offset).take (P.cellsOf f.type)))->e<=cs.length ->
  o<=e/\bl iK w ls.flatten ((cs.drop o).take (e-o))/\∀(i:Nat) f l,q2[i]?=some f->ls[i]?=some l->l.length=P.cellsOf f.type
 |[],[],o,e,h,_,_,_=>by simp_all[qh,bl]
 |[],_::_,o,e,h,ak,_,_=>by simp at ak
 |_::_,[],o,e,h,ak,_,_=>by simp at ak
 |f::q2,l::ls,o,e,h,ak,ad,he=>by
  simp[qh]at h;obtain⟨rfl,h⟩:=h;obtain⟨U,ab,al⟩:=Nv q2 ls (f.offset+P.cellsOf f.type) e h (by grind) (λi bj aG aQ er=>ad (i+1) bj aG (by grind) (by grind)) he;have aT:=ad 0 f l rfl rfl;have hlen:=mg aT;refine⟨by omega,?_,λi bj aG aQ er=>?_⟩
  ·have aK:(cs.drop f.offset).take (e-f.offset)=(cs.drop f.offset).take (P.cellsOf f.type)++(cs.drop (f.offset+P.cellsOf f.type)).take (e-(f.offset+P.cellsOf f.type)):=by rw[show e-f.offset=P.cellsOf f.type+(e-(f.offset+P.cellsOf f.type))by omega,List.take_add,List.drop_drop]
   grind [Ad]
  grind
def l4(P:Program)(k:Nat)(t:TypeId)(q:aa):Prop:=match ik P t with
 |some true=>∃cs,q=.agg cs/\g3 P k t cs
 |_=>∃dF,q=dF/\g3 P k t [dF]
def qu(P:Program)(k:Nat):List TypeId->List aa->Prop
 |[],[]=>True
 |t::fl,q::bz=>l4 P k t q/\qu P k fl bz
 |_,_=>False
theorem single{pcs:List aa}{v:Value}(ah:v.cells=#[v])(h:bl iK w pcs v.cells.toList):∃q,pcs=[q]/\aY iK w q v:=by
 rw[ah]at h;have ak:=mg h
 match pcs,h with
 |[q],h=>
  obtain⟨a3,cB,e,al,_⟩:=h;grind
 |[],_=>simp at ak
 |_::_::_,_=>simp at ak
end
theorem Ar{P:Program}:∀(k:Nat)(t:TypeId)(cs:List aa),g3 P k t cs->bG cs=true
 |0,t,cs,h=>by trivial
 |k+1,t,cs,h=>by
  unfold g3 at h;split at h
  ·obtain⟨b,rfl⟩:=h;rfl
  ·obtain⟨n,rfl,_⟩:=h;rfl
  ·obtain⟨s,rfl⟩:=h;rfl
  ·rename_i e hu;rcases h with rfl|⟨off,ls,rfl,_,ak⟩
   ·rfl
   ·have:bG ls.flatten=true:=by
     refine(hH _).2 λq aH=>?_;obtain⟨l,gk,bQ⟩:=List.mem_flatten.1 aH;exact(hH l).1 (Ar k e l (ak l gk).1) q bQ
    grind [bG,aa.plain,aa.one]
  ·rename_i fs hu;obtain⟨ls,rfl,hlen,ak⟩:=h;refine(hH _).2 λq aH=>?_;obtain⟨l,gk,bQ⟩:=List.mem_flatten.1 aH;obtain⟨i,hi⟩:=List.mem_iff_getElem?.1 gk;have al9:i<fs.size:=by grind
   exact(hH l).1 (Ar k _ l (ak i fs[i] l (by simp) hi).1) q bQ
  grind
theorem Zb{P:Program}{k:Nat}{t:TypeId}{q:aa}(h:l4 P k t q):q.plain=true:=by
 unfold l4 at h;split at h
 ·grind [aa.plain,Ar]
 ·obtain⟨dF,rfl,h⟩:=h;have:=Ar k t _ h;grind [bG]
theorem Om{P:Program}{k:Nat}:∀{fl:List TypeId}{bz:List aa},qu P k fl bz->∀q∈bz,q.plain=true
 |[],[],_,q,h=>by cases h
 |t::fl,x::bz,h,q,aH=>by
  rcases List.mem_cons.1 aH with rfl|aH
  ·exact Zb h.1
  ·exact Om h.2 q aH
 |[],_::_,h,_,_=>h.elim
 |_::_,[],h,_,_=>h.elim
def wo(w:World):List (Nat×Loop):=(List.range w.heap.size).filterMap λl=>match w.heap[l]? with
 |some (Obj.loop o)=>some (l,o)
 |_=>none
theorem Mk{P:Program}{f:FuncId}{bz:List aa}{af:List Value}{w:World}{R:aa->Prop}(h:∀m,gL P f bz m λv E m'=>R v/\E=[]/\m'=m)(ai:bl iK w bz af):
  lb P f af.toArray w λe w'=>∃v pv bn,e=.returned v/\aY bn w' pv v/\R pv/\w'.os=w.os/\w'.output=w.output/\w.heap.size<=w'.heap.size/\∀k,k<w.heap.size->w'.heap[k]?=w.heap[k]?:=by
 have hm:c0 iK ⟨λ_=>.hole,0,0,wo w⟩ w:=by
  refine⟨λi hi=>absurd hi (Nat.not_lt_zero i),λ_ _=>rfl,λi b h=>(by cases h),λi j b h=>(by cases h),λi j b h=>(by cases h),λi j b h=>(by cases h),λl o ak=>?_⟩;grind [wo]
 refine(h _ iK af w hm ai).mono ?_;rintro e w' ⟨v,pv,E,m',bn,rfl,U,ab,al,aJ,rfl,rfl⟩;refine⟨v,pv,bn,rfl,U,aJ,al.os,al.output,al.size,λk aq=>?_⟩;by_cases ak:∃o,w.heap[k]?=some (.loop o)
 ·obtain⟨o,ar⟩:=ak;rw[ar];refine ab.gw k o ?_;grind [wo]
 ·exact(al.rest k aq (By k) (λo ar=>ak ⟨o,ar⟩)).1
end
section
open Go Go.RowKit Go.WideShapes Go.ChangeShapes
variable[cQ]
section
variable{H:Type}{enc:TypeId×Value->H}{P:Program}
theorem VW{f:Func}{s:ChangeSpec}{apart fresh handsOn again:Bool}{W W':World}{args:Array Value}{v:Value}{ds gs:List (DataW H)}{before pa pv:List MemPlace}
  (hW:DataW.Whole enc P f.params.toList s.vars apart W args.toList ds gs before)
  (gO:∀(b:Nat)(sp:Nat->Bool)(aV:Bool),DataW.TrodAll enc P W' b sp aV f.resultTypes.toList (v.resultList f.resultTypes.size) (s.fn H (ds++gs)).results [])
  (qb:∀sp:Nat->Bool,(∀p∈before,sp p.block=true)->DataW.TrodAll enc P W' 0 sp true f.params.toList args.toList (s.fn H (ds++gs)).args pa)
  (SM:∀sp:Nat->Bool,(∀p∈before,sp p.block=true)->DataW.TrodVars enc P W' sp s.vars (s.fn H (ds++gs)).vars pv)
  (gy:before=pa++pv) (hb:Below W.heap.size W W')
  (fU:∀(j:Nat)(t:TypeId)(r:Value),f.resultTypes[j]?=some t->(v.resultList f.resultTypes.size)[j]?=some r->Value.okWide P W' .any 0 t r):
  s.post enc P f apart fresh handsOn again W args v W':=by
 have aU:∀p∈before,p.block<W.heap.size:=λp ae=>hW.lt p ae;have hold:∀p∈before,(λb=>decide (b<W.heap.size)) p.block=true:=λp ae=>by simpa using aU p ae
 refine⟨ds,gs,before,[],pa,pv,hW,gO _ _ _,qb _ hold,SM _ hold,World.keptBut_mono (λp ae=>⟨ae,?_⟩) (hb.frame (·∈before)),λ_=>?_⟩
 ·rw[gy,List.mem_append]at ae;exact Or.inr ae
 ·obtain⟨_,_,_,_,_,bO,aI⟩:=hW;refine⟨fU,_,_,([]++pa)++pv,⟨[]++pa,pv,trodAll_append (qb _ (λ_ _=>rfl)) (gO _ _ _),SM _ (λ_ _=>rfl),rfl,?_,?_⟩,?_⟩
  ·intro b off ae;have c1:MemPlace.cell b off∈before:=by rw[gy];simpa using ae
   rw[hb.frozen (aU _ c1)];exact bO b off c1
  ·intro au;have:=aI au;rw[gy]at this;simpa using this
  ·intro p ae _;rw[gy];simpa using ae
theorem Mn(ak:laidOutB P=true){W W':World}(hb:Below W.heap.size W W'){sp:Nat->Bool}:∀{fl:List TypeId}{af:List Value}{ds:List (DataW H)}{ps:List MemPlace},DataW.TrodAll enc P W 0 (λ_=>true) true fl af ds ps->(∀t∈fl,P.readableRec t=true/\t<P.types.size) ->
  (∀p∈ps,p.block<W.heap.size)->(∀p∈ps,sp p.block=true)->DataW.TrodAll enc P W' 0 sp true fl af ds ps
 |[],[],[],_,h,_,_,_=>h
 |t::fl,v::af,d::ds,ps,h,ad,aU,ao=>by
  obtain⟨p,q,U,ab,rfl⟩:=h;exact⟨p,q,WideElems.Trod_stays ak (ad t (by simp)).1 (ad t (by simp)).2 U (λx aj=>hb.same (aU x (by simp[aj]))) (λx aj=>ao x (by simp[aj])),
   Mn ak hb ab (λt a1=>ad t (by simp[a1])) (λx aj=>aU x (by simp[aj])) (λx aj=>ao x (by simp[aj])),rfl⟩
 |[],[],_::_,_,h,_,_,_=>h.elim
 |[],_::_,_,_,h,_,_,_=>h.elim
 |_::_,[],_,_,h,_,_,_=>h.elim
 |_::_,_::_,[],_,h,_,_,_=>h.elim
end
end
section
open Go
structure bA where
 r:Nat->Nat->Prop
 c:Nat->Prop
instance:CoeFun bA (λ_=>Nat->Nat->Prop):=⟨bA.r⟩
structure b0(G:Nat)(ρ:bA):Prop where
 low:∀{a b},ρ a b->(a<G/\b=a)\/(G<=a/\G<=b)
 fn:∀{a b c},ρ a b->ρ a c->b=c
 inj:∀{a b c},ρ a c->ρ b c->a=b
structure cN(ρ σ:bA):Prop where
 r:∀a b,ρ a b->σ a b
 c:∀a,ρ.c a->σ.c a
instance{ρ σ:bA}:CoeFun (cN ρ σ) (λ_=>∀a b,ρ a b->σ a b):=⟨cN.r⟩
theorem cN.refl(ρ:bA):cN ρ ρ:=⟨λ_ _ h=>h,λ_ h=>h⟩
theorem cN.trans{ρ σ τ:bA}(h:cN ρ σ)(k:cN σ τ):cN ρ τ:=⟨λa b x=>k a b (h a b x),λa x=>k.c a (h.c a x)⟩
structure ee where
 F:FuncId->Prop
 CL:FuncId->Nat->Prop
 cp:Bool
 G:Nat
 K:Code->Prop
structure AdR(ρ:bA)(a a':Addr):Prop where
 b:ρ a.block a'.block
 o:a'.off=a.off
 s:a'.spot=a.spot
theorem AdR.mono{ρ σ:bA}(h:cN ρ σ){a a':Addr}(k:AdR ρ a a'):AdR σ a a':=⟨h _ _ k.b,k.o,k.s⟩
theorem AdR.add{ρ:bA}{a a':Addr}(h:AdR ρ a a')(n:Nat):AdR ρ (a.add n) (a'.add n):=by
 unfold Addr.add;split
 ·exact h
 ·exact⟨h.b,by simp[h.o],rfl⟩
structure si(ρ:bA)(a a':Addr):Prop extends AdR ρ a a' where
 c:ρ.c a.block
theorem si.mono{ρ σ:bA}(h:cN ρ σ){a a':Addr}(k:si ρ a a'):si σ a a':=⟨k.toAdR.mono h,h.c _ k.c⟩
theorem si.add{ρ:bA}{a a':Addr}(h:si ρ a a')(n:Nat):si ρ (a.add n) (a'.add n):=⟨h.toAdR.add n,by unfold Addr.add;split<;>exact h.c⟩
theorem AdR.eq_iff{G:Nat}{ρ:bA}(ok:b0 G ρ){a a' b a6:Addr}(h:AdR ρ a a')(k:AdR ρ b a6):a'=a6↔a=b:=by
 obtain⟨x,o,s⟩:=a;obtain⟨bk,o',s'⟩:=a';obtain⟨y,p,t⟩:=b;obtain⟨dj,p',bw⟩:=a6;obtain⟨U,ab,al⟩:=h;obtain⟨k1,bf,bP⟩:=k;simp only at U ab al k1 bf bP;subst ab al bf bP;simp only[Addr.mk.injEq,and_congr_left_iff];rintro -;constructor
 ·rintro rfl;exact ok.inj U k1
 ·rintro rfl;exact ok.fn U k1
inductive tQ(C:ee)(ρ:bA):Fn->Fn->Prop
 |func {f:FuncId}:C.F f->tQ C ρ (.func f) (.func f)
 |yield {l aG:Nat}:ρ l aG->tQ C ρ (.yield l) (.yield aG)
theorem tQ.mono{C:ee}{ρ σ:bA}(h:cN ρ σ){f bj:Fn}(k:tQ C ρ f bj):tQ C σ f bj:=by
 cases k with
 |func bc=>exact .func bc
 |yield bc=>exact .yield (h _ _ bc)
inductive df{α β:Type}(R:α->β->Prop):List α->List β->Prop
 |nil:df R [] []
 |cons {x:α} {y:β} {xs:List α} {ys:List β}:R x y->df R xs ys->df R (x::xs) (y::ys)
def bE{α β:Type}(R:α->β->Prop)(xs:Array α)(ys:Array β):Prop:=xs.size=ys.size/\∀(i:Nat) x y,xs[i]?=some x->ys[i]?=some y->R x y
inductive aZ(C:ee)(ρ:bA):Value->Value->Prop
 |bool {b:Bool}:aZ C ρ (.bool b) (.bool b)
 |int {k:IntKind} {n:Int}:aZ C ρ (.int k n) (.int k n)
 |string {s:ByteArray}:aZ C ρ (.string s) (.string s)
 |ca:aZ C ρ (.pointer none) (.pointer none)
 |ptr {a a':Addr}:AdR ρ a a'->aZ C ρ (.pointer (some a)) (.pointer (some a'))
 |bC {n m:Nat}:aZ C ρ (.slice none n m) (.slice none n m)
 |sl {a a':Addr} {n m:Nat}:si ρ a a'->aZ C ρ (.slice (some a) n m) (.slice (some a') n m)
 |jc {a a':Addr}:aZ C ρ (.slice (some a) 0 0) (.slice (some a') 0 0)
 |qi:aZ C ρ (.map none) (.map none)
 |map {r bR:Nat}:ρ r bR->aZ C ρ (.map (some r)) (.map (some bR))
 |vh:aZ C ρ (.chan none) (.chan none)
 |chan {r bR:Nat}:ρ r bR->aZ C ρ (.chan (some r)) (.chan (some bR))
 |func {f bj:Fn} {a a' b a6:Array Value}:tQ C ρ f bj->a.size=a'.size->(∀(i:Nat) x y,a[i]?=some x->a'[i]?=some y->aZ C ρ x y)->b.size=a6.size->(∀(i:Nat) x y,b[i]?=some x->a6[i]?=some y->aZ C ρ x y)->aZ C ρ (.func f a b) (.func bj a' a6)
 |nilFunc:aZ C ρ .nilFunc .nilFunc
 |iface {t:TypeId} {v a3:Value}:aZ C ρ v a3->aZ C ρ (.iface t v) (.iface t a3)
 |nilIface:aZ C ρ .nilIface .nilIface
 |agg {a a':Array Value}:a.size=a'.size->(∀(i:Nat) x y,a[i]?=some x->a'[i]?=some y->aZ C ρ x y)->aZ C ρ (.agg a) (.agg a')
 |tuple {a a':Array Value}:a.size=a'.size->(∀(i:Nat) x y,a[i]?=some x->a'[i]?=some y->aZ C ρ x y)->aZ C ρ (.tuple a) (.tuple a')
 |bT {a3:Value}:(∀c,a3≠.agg c)->(∀c,a3≠.tuple c)->(a3≠.pointer none/\a3≠.nilIface/\a3≠.nilFunc)/\(∀n a b,a3≠.func (.method n) a b)/\(∀b,a3≠.bool b)->aZ C ρ undef a3
 |vi {n:String} {a b:Array Value}:aZ C ρ (.func (.method n) #[.nilIface] #[]) (.func (.method n) a b)
section
variable{C:ee}{ρ σ:bA}
theorem aZ.mono(h:cN ρ σ){v a3:Value}(k:aZ C ρ v a3):aZ C σ v a3:=by
 induction k with
 |ptr k=>exact .ptr (k.mono h)
 |sl k=>exact .sl (k.mono h)
 |jc=>exact .jc
 |map k=>exact .map (h _ _ k)
 |chan k=>exact .chan (h _ _ k)
 |func k U _ al _ zD tE=>exact .func (k.mono h) U zD al tE
 |iface _ az=>exact .iface az
 |agg U _ az=>exact .agg U az
 |tuple U _ az=>exact .tuple U az
 |bT U ab al=>exact .bT U ab al
 |vi=>exact .vi
 |_=>constructor
abbrev cv(C:ee)(ρ:bA):Array Value->Array Value->Prop:=bE (aZ C ρ)
theorem cv.mono(h:cN ρ σ){a a':Array Value}(k:cv C ρ a a'):cv C σ a a':=⟨k.1,λi x y aj aF=>(k.2 i x y aj aF).mono h⟩
theorem aZ.te{a a':Array Value}(h:cv C ρ a a'):aZ C ρ (.agg a) (.agg a'):=.agg h.1 h.2
theorem aZ.tuple'{a a':Array Value}(h:cv C ρ a a'):aZ C ρ (.tuple a) (.tuple a'):=.tuple h.1 h.2
end
section
variable{α β γ δ:Type}{R:α->β->Prop}{S:γ->δ->Prop}
theorem bE.nil:bE R (#[]:Array α) (#[]:Array β):=⟨rfl,λi x y h=>by simp at h⟩
theorem bE.get{xs:Array α}{ys:Array β}(h:bE R xs ys)(i:Nat):(xs[i]?=none/\ys[i]?=none)\/∃x y,xs[i]?=some x/\ys[i]?=some y/\R x y:=by
 by_cases hi:i<xs.size
 ·have aC:i<ys.size:=h.1▸hi;exact .inr ⟨xs[i],ys[i],by simp[hi],by simp[aC],h.2 i _ _ (by simp[hi]) (by simp[aC])⟩
 ·have aC:¬i<ys.size:=h.1▸hi;exact .inl ⟨by simp;omega,by simp;omega⟩
theorem bE.push{xs:Array α}{ys:Array β}(h:bE R xs ys){x:α}{y:β}(ad:R x y):bE R (xs.push x) (ys.push y):=by
 refine⟨by simp[h.1],λi a b au hb=>?_⟩;rw[Array.getElem?_push]at au hb;rw[h.1]at au;split at au
 ·rename_i e;rw[if_pos e]at hb;cases au;cases hb;exact ad
 ·rename_i e;rw[if_neg e]at hb;exact h.2 i a b au hb
theorem bE.append{xs hD:Array α}{ys Ct:Array β}(h:bE R xs ys)(k:bE R hD Ct):bE R (xs++hD) (ys++Ct):=by
 refine⟨by simp[h.1,k.1],λi a b au hb=>?_⟩;rw[Array.getElem?_append]at au hb;rw[h.1]at au;split at au
 ·rename_i e;rw[if_pos e]at hb;exact h.2 i a b au hb
 ·rename_i e;rw[if_neg e]at hb;exact k.2 _ a b au hb
theorem bE.set{xs:Array α}{ys:Array β}(h:bE R xs ys)(i:Nat){x:α}{y:β}(ad:R x y):bE R (xs.setIfInBounds i x) (ys.setIfInBounds i y):=by
 refine⟨by simp[h.1],λj a b au hb=>?_⟩;rw[Array.getElem?_setIfInBounds]at au hb;rw[h.1]at au;split at au
 ·rename_i e;rw[if_pos e]at hb;split at au
  ·rename_i e';rw[if_pos e']at hb;cases au;cases hb;exact ad
  ·cases au
 ·rename_i e;rw[if_neg e]at hb;exact h.2 j a b au hb
theorem bE.modify{xs:Array α}{ys:Array β}(h:bE R xs ys)(i:Nat){f:α->α}{g:β->β}(ad:∀x y,R x y->R (f x) (g y)):bE R (xs.modify i f) (ys.modify i g):=by
 refine⟨by simp[h.1],λj a b au hb=>?_⟩;rw[Array.getElem?_modify]at au hb;split at au
 ·rename_i e;rw[if_pos e]at hb;obtain⟨x,aj,rfl⟩:=Option.map_eq_some_iff.1 au;obtain⟨y,aF,rfl⟩:=Option.map_eq_some_iff.1 hb;exact ad _ _ (h.2 j x y aj aF)
 ·rename_i e;rw[if_neg e]at hb;exact h.2 j a b au hb
theorem bE.map{xs:Array α}{ys:Array β}(h:bE R xs ys){f:α->γ}{g:β->δ}(ad:∀x y,R x y->S (f x) (g y)):bE S (xs.map f) (ys.map g):=by
 refine⟨by simp[h.1],λj a b au hb=>?_⟩;rw[Array.getElem?_map]at au hb;obtain⟨x,aj,rfl⟩:=Option.map_eq_some_iff.1 au;obtain⟨y,aF,rfl⟩:=Option.map_eq_some_iff.1 hb;exact ad _ _ (h.2 j x y aj aF)
theorem bE.extract{xs:Array α}{ys:Array β}(h:bE R xs ys)(i j:Nat):bE R (xs.extract i j) (ys.extract i j):=by
 refine⟨by simp[h.1],λk a b au hb=>?_⟩;rw[Array.getElem?_extract]at au hb;rw[h.1]at au;split at au
 ·rename_i e;rw[if_pos e]at hb;exact h.2 _ a b au hb
 ·cases au
theorem bE.replicate(n:Nat){x:α}{y:β}(ad:R x y):bE R (Array.replicate n x) (Array.replicate n y):=by
 refine⟨by simp,λi a b au hb=>?_⟩;rw[Array.getElem?_replicate]at au hb;split at au
 ·rename_i e;rw[if_pos e]at hb;cases au;cases hb;exact ad
 ·cases au
theorem bE.mono{R':α->β->Prop}{xs:Array α}{ys:Array β}(h:bE R xs ys)(ad:∀x y,R x y->R' x y):bE R' xs ys:=⟨h.1,λi x y aj aF=>ad _ _ (h.2 i x y aj aF)⟩
theorem bE.one{x:α}{y:β}(ad:R x y):bE R #[x] #[y]:=bE.nil.push ad
theorem bE.toList{xs:Array α}{ys:Array β}(h:bE R xs ys):df R xs.toList ys.toList:=by
 obtain⟨xs⟩:=xs;obtain⟨ys⟩:=ys;obtain⟨U,ab⟩:=h;simp only[List.size_toArray]at U;simp only[List.getElem?_toArray]at ab;simp only;induction xs generalizing ys with
 |nil=>cases ys with
  |nil=>exact .nil
  |cons=>simp at U
 |cons x xs az=>cases ys with
  |nil=>simp at U
  |cons y ys=>exact .cons (ab 0 x y rfl rfl) (az ys (by simpa using U) λi a b au hb=>ab (i+1) a b (by simpa using au) (by simpa using hb))
theorem bE.ofList{xs:List α}{ys:List β}(h:df R xs ys):bE R xs.toArray ys.toArray:=by
 induction h with
 |nil=>exact bE.nil
 |cons ad _ az=>
  rename_i a b fI ei _;refine⟨by have:=az.1;simpa using this,λi x y aj aF=>?_⟩;cases i with
  |zero=>simp at aj aF;cases aj;cases aF;exact ad
  |succ i=>exact az.2 i x y (by simpa using aj) (by simpa using aF)
theorem bE.As{xs:Array α}{ys:Array β}(h:df R xs.toList ys.toList):bE R xs ys:=by simpa using bE.ofList h
theorem bE.back{xs:Array α}{ys:Array β}(h:bE R xs ys):(xs.back?=none/\ys.back?=none)\/∃x y,xs.back?=some x/\ys.back?=some y/\R x y:=by
 simp only[Array.back?];rw[h.1];exact h.get _
end
end
end Go.Proofs.YtlminnpaeaganaaGreat
