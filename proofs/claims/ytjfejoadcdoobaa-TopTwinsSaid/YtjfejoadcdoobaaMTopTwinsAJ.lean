/- Part of the proof of TopTwins. No condition. -/
import Derived.Test.YtjfejoadcdoobaaMTopTwinsAI
namespace Go.Proofs.Ytjfejoadcdoobaa
set_option maxRecDepth 100000
set_option linter.all false
section
open Go Go.RowKit
variable[Sp]
structure Pos where
 box:Bool
 i:Nat
 j:Nat
 own:Option (Nat×BN)
 frz:Bool
 deriving Inhabited
structure Skel where
 pos:List Pos
 arrs:List Nat
 live:List Nat
 pre:List Nat
 eff:Bool
 deriving Inhabited
def Sym.at(S:Sym)(p:Pos):SV:=if p.box=true then(match S.bx.getD p.i .gone with | .cells l=>l.getD p.j .junk|_=>.junk)else S.get p.i
def Sym.setAt(S:Sym)(p:Pos)(v:SV):Sym:=if p.box=true then(match S.bx.getD p.i .gone with | .cells l=>{ S with bx:=S.bx.set p.i (.cells (l.set p.j v)) } | _=>S)else{ S with g:=(p.i,v)::S.g }
def rmOf(S:Sym):List Pos->List Nat
 |[]=>[]
 |p::l=>match p.own,S.at p with
  |some _,.own k=>k::rmOf S l
  |_,_=>rmOf S l
def Sym.lose(S:Sym):List Nat->Sym
 |[]=>S
 |k::l=>Sym.lose { S.mapV (SV.hitS k true)with ar:=S.ar.set k none } l
def keepG(g:List (Nat×SV)):List Nat->List (Nat×SV)
 |[]=>[]
 |t::l=>(t,getA g t)::keepG g l
def hasA(k:Nat)(hasS:Nat->SV->Bool):List (Nat×SV)->Bool
 |[]=>false
 |p::l=>hasS k p.2||hasA k hasS l
mutual
def SV.has(k:Nat):SV->Bool
 |.own j=>j+j==k
 |.eown j _ _=>j+j==k
 |.ptr i _=>i+i+1==k
 |.hd i _ _=>i+i+1==k
 |.pel i _ _=>i+i+1==k
 |.fn _ l=>hasL k l
 |.agg l=>hasL k l
 |.tup l=>hasL k l
 |.lit _ _ l=>hasL k l
 |.sref l _=>hasL k l
 |_=>false
def hasL(k:Nat):List SV->Bool
 |[]=>false
 |v::l=>v.has k||hasL k l
end
def BX.has(k:Nat):BX->Bool
 |.cells l=>hasL k l
 |_=>false
def Sym.names(S:Sym)(k:Nat):Bool:=hasA k SV.has S.g||S.bx.any (BX.has k)||S.ys.any λy=>hasA k SV.has y.g
def dropAr(f:Nat->Bool):Nat->List (Option AR)->List (Option AR)
 |_,[]=>[]
 |k,a::l=>(if f k then a else none)::dropAr f (k+1) l
def dropBx(f:Nat->Bool):Nat->List BX->List BX
 |_,[]=>[]
 |k,a::l=>(match a with | .cells c=>if f k then .cells c else .gone|b=>b)::dropBx f (k+1) l
def Sym.keep(S:Sym)(live:List Nat):Sym:=
 let S:={ S with g:=keepG S.g live };let S:={ S with bx:=dropBx (λk=>decide (k<S.bbase)||S.names (k+k+1)) 0 S.bx }
 { S with ar:=dropAr (λk=>decide (k<S.base)||S.names (k+k)) 0 S.ar }
def Sym.fresh(S:Sym):List Pos->Sym
 |[]=>S
 |p::l=>match p.own with
  |none=>Sym.fresh { S.setAt p (.e (.var S.nv))with nv:=S.nv+1 } l
  |some (sz,b)=>Sym.fresh { S.setAt p (.own S.ar.length)with ar:=S.ar++[some ⟨sz,b,.var S.nv⟩],nv:=S.nv+1 } l
def Sym.freshA(S:Sym):List Nat->Sym
 |[]=>S
 |k::l=>match S.ar.getD k none with
  |some a=>Sym.freshA { S with ar:=S.ar.set k (some { a with c:=.var S.nv }),nv:=S.nv+1 } l
  |none=>Sym.freshA { S with nv:=S.nv+1 } l
def headOf(sk:Skel)(S:Sym):Sym:={ (Sym.fresh ((S.lose (rmOf S sk.pos)).keep sk.live) sk.pos).freshA sk.arrs with lv:=S.lv+1,eff:=sk.eff }
def valsOf(S:Sym):List Pos->Option (List PE×List (Option Nat))
 |[]=>some ([],[])
 |p::l=>match valsOf S l with
  |none=>none
  |some (ps,ks)=>match p.own,S.at p with
   |none,v=>match v.pe with
    |some q=>some (q::ps,none::ks)
    |none=>none
   |some (sz,b),.own k=>match S.arr k with
    |some a=>if a.sz=sz/\a.born.b b=true/\b.still=true/\ks.contains (some k)=false then some (.e a.c::ps,some k::ks)else none
    |none=>none
   |some (sz,.nil0),.e (.cst .snil)=>if 0<sz then some (.e (.cst (.agg []))::ps,none::ks)else none
   |_,_=>none
def valsA(S1 S:Sym):List Nat->Option (List PE)
 |[]=>some []
 |k::l=>match S1.arr k,S.arr k,valsA S1 S l with
  |some h,some a,some ps=>if a.sz=h.sz/\a.born.b h.born=true then some (.e a.c::ps)else none
  |_,_,_=>none
def isPos(l:List Pos)(box:Bool)(i j:Nat):Bool:=l.any λp=>p.box==box&&decide (p.i=i)&&(!box||decide (p.j=j))
def arB:Option AR->Option AR->Bool
 |none,none=>true
 |some a,some b=>decide (a.sz=b.sz)&&a.born.b b.born&&a.c.b b.c
 |_,_=>false
mutual
def SV.tame(H:Sym)(n:Nat):SV->Bool
 |.own k=>decide (k<n)&&(H.arr k).isSome
 |.eown _ _ _=>false
 |.yld _=>true
 |.fn _ l=>tameL H n l
 |.agg l=>tameL H n l
 |.tup l=>tameL H n l
 |.lit _ _ l=>tameL H n l
 |.sref l _=>tameL H n l
 |_=>true
def tameL(H:Sym)(n:Nat):List SV->Bool
 |[]=>true
 |v::l=>v.tame H n&&tameL H n l
end
def svOk(H:Sym)(n:Nat)(h u v:SV):Bool:=match h with
 |.junk=>true
 |h=>h.b u&&h.b v&&h.tame H n
def sameG(P:Nat->Bool)(H:Sym)(n:Nat):Nat->List SV->List SV->List SV->Bool
 |_,[],[],[]=>true
 |t,h::hs,u::us,v::vs=>(P t||svOk H n h u v)&&sameG P H n (t+1) hs us vs
 |_,_,_,_=>false
def sameF(P:Nat->Bool)(H S1 S:Sym)(n:Nat):List (Nat×SV)->Bool
 |[]=>true
 |p::l=>(P p.1||svOk H n (H.get p.1) (S1.get p.1) (S.get p.1))&&sameF P H S1 S n l
def sameB(l:List Pos)(H:Sym)(n:Nat):Nat->List BX->List BX->List BX->Bool
 |_,[],[],_=>true
 |i,.cells hs::l1,.cells us::l2,.cells vs::l3=>sameG (isPos l true i) H n 0 hs us vs&&sameB l H n (i+1) l1 l2 l3
 |i,.dice::l1,.dice::l2,.dice::l3=>sameB l H n (i+1) l1 l2 l3
 |i,.gone::l1,_::l2,_::l3=>sameB l H n (i+1) l1 l2 l3
 |_,_,_,_=>false
def sameA(ks:List (Option Nat))(as:List Nat)(H S1 S:Sym)(n:Nat):Bool:=(List.range n).all λk=>
 match H.arr k with
 |none=>true
 |some h=>!ks.contains (some k)&&(as.contains k||(arB (some h) (S1.arr k)&&arB (some h) (S.arr k)))
def sameY:List YS->List YS->Bool
 |[],[]=>true
 |a::l,b::m=>decide (a.pend=b.pend)&&decide (a.busy=b.busy)&&sameY l m
 |_,_=>false
def posOk(H:Sym)(n:Nat):Nat->List Pos->Bool
 |_,[]=>true
 |v,p::l=>(match p.own with
  |none=>(H.at p).b (.e (.var v))
  |some (sz,b)=>match H.at p with
   |.own K=>decide (n<=K)&&(match H.arr K with|some a=>decide (a.sz=sz)&&a.born.b b&&a.c.b (.var v)|none=>false)
   |_=>false)&&posOk H n (v+1) l
def arrsOk(H S1:Sym):Nat->List Nat->Bool
 |_,[]=>true
 |v,k::l=>(match H.arr k,S1.arr k with|some h,some a=>decide (h.sz=a.sz)&&h.born.b a.born&&h.c.b (.var v)|_,_=>false)&&decide (l.contains k=false)&&arrsOk H S1 (v+1) l
def freshK(H:Sym):List Pos->List (Option Nat)
 |[]=>[]
 |p::l=>(match p.own,H.at p with|some _,.own K=>some K|_,_=>none)::freshK H l
def freshOk(ks:List (Option Nat))(n m:Nat):Bool:=(List.range m).all λk=>decide (k<n)||ks.contains (some k)
def distinctK:List (Option Nat)->Bool
 |[]=>true
 |none::l=>distinctK l
 |some k::l=>!l.contains (some k)&&distinctK l
def baseOk(H S1 S:Sym)(ks:List (Option Nat))(as:List Nat):Bool:=(List.range H.base).all λk=>arB (H.arr k) (S1.arr k)&&arB (H.arr k) (S.arr k)&&!ks.contains (some k)&&!as.contains k
def fitVals(sk:Skel)(S1 H S:Sym):Option (List PE):=match valsOf S sk.pos with
 |some (ps,ks)=>match valsA S1 S sk.arrs with
  |some qs=>if decide (H.nv=S1.nv+sk.pos.length+sk.arrs.length)&&posOk H S1.ar.length S1.nv sk.pos&&arrsOk H S1 (S1.nv+sk.pos.length) sk.arrs&&distinctK (freshK H sk.pos)&&freshOk (freshK H sk.pos) S1.ar.length H.ar.length&&decide (S1.ar.length<=H.ar.length) &&
    sameF (λt=>isPos sk.pos false t 0) H S1 S S1.ar.length H.g&&sameB sk.pos H S1.ar.length 0 H.bx S1.bx S.bx&&sameA ks sk.arrs H S1 S S1.ar.length&&sk.arrs.all (λk=>decide (k<S1.ar.length))&&sameY H.ys S.ys&&(sk.eff||(!S.eff&&baseOk H S1 S ks sk.arrs))then some (ps++qs)else none
  |none=>none
 |none=>none
def ownsAt(S:Sym):List Pos->List Nat
 |[]=>[]
 |p::l=>(if p.own.isSome||!p.frz then[]else(S.at p).owns)++ownsAt S l
def whyNot(sk:Skel)(H S:Sym):String:=
 let own:=λ(S:Sym)(v:SV)=>match v with
  |.own k=>match S.arr k with
   |some a=> "x"
   |none => "-"
  |.e (.cst .snil) => "n"
  |.e _ => "v"
  |.agg _ => "v"
  |.lit _ _ _ => "v"
  |.junk => "j"
  |.undef => "u"
  |_ => "x"
 let ok:=λ(h v:SV)=>match h with | .junk=>true|h=>h.b v
 let ch:=(List.range H.ar.length).filterMap λk=>if k<H.ar.length-(sk.pos.filter λp=>p.own.isSome).length&&!sk.arrs.contains k&&(H.ar.getD k none).isSome&&(S.ar.getD k none).isSome&&!arB (H.ar.getD k none) (S.ar.getD k none)then some "x" else none
 let g:=((List.range 4000).filter λt=>H.g.any λp=>p.1==t).filterMap λt=>if isPos sk.pos false t 0||ok (H.get t) (S.get t)then none else some "x"
 let b:=(List.range H.bx.length).flatMap λi=>match H.bx.getD i .gone,S.bx.getD i .gone with
  |.cells h,.cells v=>(List.range h.length).filterMap λj=>if isPos sk.pos true i j||ok (h.getD j .junk) (v.getD j .junk)then none else some "x"
  |_,_=>[]
 let e:=if sk.eff||!S.eff then "" else "eff-"
 let pv:=sk.pos.map λp=> "x";let bg:=(List.range H.bx.length).filterMap λi=>match H.bx.getD i .gone,S.bx.getD i .gone with
  |.cells _,.gone=>some "x"
  |_,_=>none
 let ag:=(List.range H.ar.length).filterMap λk=>if k<H.ar.length-(sk.pos.filter λp=>p.own.isSome).length&&(H.ar.getD k none).isSome&&(S.ar.getD k none).isNone then some "x" else none
 String.join ch++String.join bg++String.join ag++String.join g++String.join b++e++String.join pv
structure Hints where
 sites:List Nat
 np:List (Nat×Nat×Nat)
 thaw:List (Nat×Nat×Nat)
 skel:List (Nat×Nat×Skel)
def findNp:List (Nat×Nat×Nat)->Nat->Nat->Nat
 |[],_,_=>0
 |(f,r,n)::l,g,q=>if f=g/\r=q then n else findNp l g q
def findSk:List (Nat×Nat×Skel)->Nat->Nat->Option Skel
 |[],_,_=>none
 |(f,r,n)::l,g,q=>if f=g/\r=q then some n else findSk l g q
def findTh:List (Nat×Nat×Nat)->Nat->Nat->List Nat
 |[],_,_=>[]
 |(f,r,n)::l,g,q=>if f=g/\r=q then n::findTh l g q else findTh l g q
section
variable(X:Ctx)(W:Hints)
def fitK(sk:Skel)(S1 H S:Sym)(L:Nat)(wh:String):M:=frzAll 40 (ownsAt S sk.pos) S λS=>match fitVals sk S1 H S with
 |some vs=>pure (.jump L vs)
 |none=>die (wh++whyNot sk H S)
def Tree.low(L:Nat):List Nat->Tree->Bool
 |_,.ret _=>true
 |ex,.jump L' _=>ex.contains L'||decide (L'<L)
 |ex,.prim _ t=>t.low L ex
 |ex,.ite _ a b=>a.low L ex&&b.low L ex
 |ex,.call _ _ t=>t.low L ex
 |ex,.callv _ _ t=>t.low L ex
 |ex,.pick _ _ t=>t.low L ex
 |ex,.loop L' _ b=>b.low L (L'::ex)
 |ex,.join L' b k=>b.low L (L'::ex)&&k.low L ex
 |_,.die=>true
def lowK(L:Nat)(x:M):M:=match x with
 |.ok t=>if t.low L []then .ok t else die "label"
 |.error e=>.error e
def joinK(p:Nat)(S:Sym)(run:Sym->(Ex->Sym->M)->M)(K:Ex->Sym->M):M:=match findSk W.skel S.site p with
 |none=>run S K
 |some sk=>frzAll 40 sk.pre S λS=>do
  let H:=headOf sk S;let body ←run { S with lv:=S.lv+1 } λe S'=>match e with
   |.normal=>fitK sk S H S' S.lv "x"
   |e=>lowK S.lv (K e S')
  let k ←K .normal H
  pure (.join S.lv body k)
mutual
def PE.b:PE->PE->Bool
 |.e x,.e y=>x.b y||(match x,y with
  |.cst (.ptr i o),.cst (.ptr j q)=>decide (i=j)&&decide (o=q)
  |_,_=>false)
 |.agg l,.agg m=>peLB l m
 |.tup l,.tup m=>peLB l m
 |.lit a b l,.lit c d m=>decide (a=c)&&decide (b=d)&&peLB l m
 |.fn f l,.fn g m=>decide (f=g)&&peLB l m
 |.ref l,.ref m=>peLB l m
 |_,_=>false
def peLB:List PE->List PE->Bool
 |[],[]=>true
 |x::l,y::m=>x.b y&&peLB l m
 |_,_=>false
end
def pvLB:List PV->List PV->Bool
 |[],[]=>true
 |x::l,y::m=>pvB x y&&pvLB l m
 |_,_=>false
def peOB:Option PE->Option PE->Bool
 |none,none=>true
 |some x,some y=>x.b y
 |_,_=>false
def Prim.b:Prim->Prim->Bool
 |.bin o t x y,.bin o' t' x' y'=>decide (o=o')&&decide (t=t')&&x.b x'&&y.b y'
 |.un o x,.un o' x'=>decide (o=o')&&x.b x'
 |.conv s t x,.conv s' t' x'=>decide (s=s')&&decide (t=t')&&x.b x'
 |.ext x i,.ext x' i'=>x.b x'&&decide (i=i')
 |.agg n x,.agg n' x'=>decide (n=n')&&x.b x'
 |.one x,.one x'=>x.b x'
 |.row z x i,.row z' x' i'=>decide (z=z')&&x.b x'&&i.b i'
 |.idx z x i,.idx z' x' i'=>decide (z=z')&&x.b x'&&i.b i'
 |.len z x,.len z' x'=>decide (z=z')&&x.b x'
 |.slice z x l h,.slice z' x' l' h'=>decide (z=z')&&x.b x'&&peOB l l'&&peOB h h'
 |.mm m l,.mm m' l'=>decide (m=m')&&peLB l l'
 |.lst l,.lst l'=>peLB l l'
 |.mk z b x,.mk z' b' x'=>pvLB z z'&&decide (b=b')&&x.b x'
 |.chk z c i,.chk z' c' i'=>decide (z=z')&&c.b c'&&i.b i'
 |.get z o n c i,.get z' o' n' c' i'=>decide (z=z')&&decide (o=o')&&decide (n=n')&&c.b c'&&i.b i'
 |.put z o c i l,.put z' o' c' i' l'=>decide (z=z')&&decide (o=o')&&c.b c'&&i.b i'&&peLB l l'
 |.push z b c y,.push z' b' c' y'=>decide (z=z')&&decide (b=b')&&c.b c'&&y.b y'
 |.lenc z c,.lenc z' c'=>decide (z=z')&&c.b c'
 |.frz z b c,.frz z' b' c'=>decide (z=z')&&b.b b'&&c.b c'
 |.deref n x,.deref n' x'=>decide (n=n')&&x.b x'
 |.cont r z x,.cont r' z' x'=>decide (r=r')&&decide (z=z')&&x.b x'
 |.isnil x,.isnil x'=>x.b x'
 |.ints x,.ints x'=>x.b x'
 |.ins k z c l,.ins k' z' c' l'=>decide (k=k')&&decide (z=z')&&c.b c'&&peLB l l'
 |.keys z x,.keys z' x'=>decide (z=z')&&x.b x'
 |.lk z x,.lk z' x'=>decide (z=z')&&x.b x'
 |.tl x,.tl x'=>x.b x'
 |.srt x,.srt x'=>x.b x'
 |.cpt b c,.cpt b' c'=>b.b b'&&c.b c'
 |.tset t s z c k v,.tset t' s' z' c' k' v'=>decide (t=t')&&(s==s')&&decide (z=z')&&c.b c'&&k.b k'&&v.b v'
 |.tget t s o z c k,.tget t' s' o' z' c' k'=>decide (t=t')&&(s==s')&&(o==o')&&decide (z=z')&&c.b c'&&k.b k'
 |.tgetf t s o x k,.tgetf t' s' o' x' k'=>decide (t=t')&&(s==s')&&(o==o')&&x.b x'&&k.b k'
 |.siter x,.siter x'=>x.b x'
 |.snx c,.snx c'=>c.b c'
 |.aoff f l z x i,.aoff f' l' z' x' i'=>decide (f=f')&&decide (l=l')&&decide (z=z')&&x.b x'&&i.b i'
 |_,_=>false
def Tree.b:Tree->Tree->Bool
 |.ret v,.ret u=>v.b u
 |.jump L l,.jump M m=>decide (L=M)&&peLB l m
 |.prim p t,.prim q u=>p.b q&&t.b u
 |.ite c x y,.ite d u v=>c.b d&&x.b u&&y.b v
 |.call g l t,.call h m u=>decide (g=h)&&peLB l m&&t.b u
 |.callv f l t,.callv g m u=>f.b g&&peLB l m&&t.b u
 |.pick z c t,.pick z' c' u=>decide (z=z')&&c.b c'&&t.b u
 |.loop L i t,.loop M j u=>decide (L=M)&&peLB i j&&t.b u
 |.join L x y,.join M u v=>decide (L=M)&&x.b u&&y.b v
 |.die,.die=>true
 |_,_=>false
def oneAny(inl:Inl)(yl:Inl)(ops:Array Oper)(rid:Nat)(S:Sym)(k:Nat->Sym->M)(i:Nat):M:=match ops[i]? with
 |some o=>compOps X inl yl none ops rid [o] i S (k i)
 |none=>die "any"
def sameM(t:Tree):M->Bool
 |.ok u=>t.b u
 |.error _=>false
def compAny(inl:Inl)(yl:Inl)(ops:Array Oper)(rid:Nat):Nat->Array Bool->Sym->(Sym->M)->M
 |0,l,S,K=>match Region.ready .any ops l with
  |[]=>K S
  |_::_=>die "any"
 |n+1,l,S,K=>match Region.ready .any ops l with
  |[]=>K S
  |i::is=>do
   let t ←oneAny X inl yl ops rid S (λi S=>compAny inl yl ops rid n (l.setIfInBounds i true) S K) i
   if is.all λj=>sameM t (oneAny X inl yl ops rid S (λi S=>compAny inl yl ops rid n (l.setIfInBounds i true) S K) j)then pure t else die "x"
inductive QE where
 |put (d:Option Tmp) (v:SV)
 |ld (d:Option Tmp) (b off:Nat) (v:SV)
 |st (b off:Nat) (v:SV)
def QE.dst:QE->Option Tmp
 |.put d _=>d
 |.ld d _ _ _=>d
 |.st _ _ _=>none
def effQ(o:Oper)(S:Sym):Option QE:=match o.guard with
 |some _=>none
 |none=>match o.op with
  |.move x=>some (.put o.dst (S.ev x))
  |.assign x=>some (.put o.dst (S.ev x))
  |.fieldAddr t x f=>match X.P.underlying t with
   |some (.struct fs)=>match fs[f]? with
    |some fd=>if X.P.cellsOf fd.type=0\/(X.P.info? fd.type).isNone then none else match S.ev x with
     |.ptr i off=>some (.put o.dst (.ptr i (off+fd.offset)))
     |_=>none
    |none=>none
   |_=>none
  |.indexAddr t x i=>match X.P.underlying t with
   |some (.slice e)=>match(S.ev i).pe with
    |some _=>if(X.P.info? e).isNone\/X.P.cellsOf e=0 then none else match S.ev x with
     |.hd b sz len=>match S.ev i with
      |.e (.cst (.int _ n))=>if 0<=n/\n<(len:Int)/\X.P.cellsOf e=sz then some (.put o.dst (.ptr b (n.toNat*sz)))else none
      |_=>none
     |_=>none
    |none=>none
   |_=>none
  |.load t x=>match S.ev x with
   |.ptr i off=>match aggT X.P t with
    |some false=>match S.bx[i]? with
     |some (BX.cells l)=>match l[off]? with
      |some v=>some (.ld o.dst i off v)
      |none=>none
     |_=>none
    |_=>none
   |_=>none
  |.store t x y=>if o.dst.isSome\/(X.P.info? t).isNone then none else match S.ev x with
   |.ptr i off=>match aggT X.P t,S.ev y with
    |some false,.e v=>if S.isOne v then(match S.bx[i]? with
     |some (BX.cells l)=>if 1=X.P.cellsOf t/\off+1<=l.length then some (.st i off (.e v))else none
     |_=>none)else none
    |_,_=>none
   |_=>none
  |_=>none
def appQ(S:Sym):QE->Sym
 |.put d v=>S.put d v
 |.ld d _ _ v=>S.put d v
 |.st b off v=>match S.bx[b]? with
  |some (BX.cells l)=>S.setBox b (spliceS l off [v])
  |_=>S
def canQ:List Oper->Sym->Option (List QE)
 |[],_=>some []
 |o::os,S=>match effQ X o S with
  |some e=>match canQ os (appQ S e)with
   |some es=>some (e::es)
   |none=>none
  |none=>none
def QE.clash:QE->QE->Bool
 |.st b k _,.st b' k' _=>Nat.beq b b'&&Nat.beq k k'
 |.st b k _,.ld _ b' k' _=>Nat.beq b b'&&Nat.beq k k'
 |.ld _ b k _,.st b' k' _=>Nat.beq b b'&&Nat.beq k k'
 |x,y=>match x.dst,y.dst with
  |some d,some d'=>Nat.beq d d'
  |_,_=>false
def pwQ:List QE->Bool
 |[]=>true
 |e::es=>es.all (λe'=>!e.clash e')&&pwQ es
def opnd:Operand->List Nat
 |.tmp t=>[t]
 |_=>[]
def slotsQ:Op->List Nat
 |.move x | .assign x | .fieldAddr _ x _ | .load _ x=>opnd x
 |.indexAddr _ x y | .store _ x y=>opnd x++opnd y
 |_=>[]
def wrB(o:Oper)(i t:Nat):List QE->Nat->Bool
 |[],_=>true
 |e::es,j=>(match e.dst with
  |some d=>!Nat.beq d t||(Nat.blt j i&&o.after.any λed=>Region.binds .any ed&&Nat.beq ed.on j)
  |none=>true)&&wrB o i t es (j+1)
def rdQ(es:List QE):List Oper->Nat->Bool
 |[],_=>true
 |o::os,i=>o.after.all (λed=>!Region.binds .any ed||Nat.blt ed.on i)&&(slotsQ o.op).all (λt=>wrB o i t es 0)&&rdQ es os (i+1)
def compQ(ops:Array Oper)(S:Sym):Option Sym:=match canQ X ops.toList S with
 |some es=>if pwQ es&&rdQ es ops.toList 0 then some (es.foldl appQ S)else none
 |none=>none
def SV.solidS:SV->Bool
 |.ptr _ _=>true
 |.hd _ _ _=>true
 |v=>v.pe.isSome
def Sym.solidO(S:Sym)(x:Operand):Bool:=(S.ev x).solidS
def fixB(late:Bool)(pin:Nat)(o:Oper)(S:Sym):Bool:=match o.op with
 |.move _ | .assign _=>true
 |.load _ x=>(match S.ev x with
  |.ptr i _=>!late||Nat.beq i pin
  |_=>false)
 |op=>op.operands.toList.all S.solidO
def fixR(o:Oper)(S:Sym):Bool:=match o.op with
 |.move _ | .assign _ | .load _ _=>true
 |_=>(match o.dst with
  |some d=>(S.get d).solidS
  |none=>false)
def compSwOp(inl:Inl)(yl:Inl)(late:Bool)(pin:Nat)(key:Nat)(o:Oper)(S:Sym)(K:Sym->M):M:=
 if isApp o then(match o.op with
  |.call c=>(match c.argTypes,c.args.toList with
   |⟨[t,t']⟩,[x,y]=>if t=t' then(match(S.ev y).owns with
    |[]=>compAppend X none o t x y S K
    |k::_=>die "x")else die "swap- append"
   |_,_=>die "swap- append")
  |_=>die "swap- append")
 else if isStore o then(match o.op with
  |.store t x y=>(match S.ev x with
   |.ptr i off=>if late&&Nat.beq i pin then die "x" else compStore X none o t x y S K
   |_=>die "swap- store")
  |_=>die "swap- store")
 else if calmB o then(if fixB late pin o S then compOp X inl yl (some S.bx.length) key o S λS'=>if fixR o S' then K S' else die "x" else(match o.op with
  |.load _ x=>(match S.ev x with
   |.ptr i _=>die "x"
   |_=>die "x")
  |op=>(match op.operands.toList.flatMap (λx=>(S.ev x).owns)with
   |k::_=>die "x"
   |[]=>die "x")))
 else die "x"
def compSw(inl:Inl)(yl:Inl)(lts:List Bool)(pin rid:Nat):List Oper->Nat->Sym->(Sym->M)->M
 |[],_,S,K=>K S
 |o::l,i,S,K=>compSwOp X inl yl (lts.getD i false) pin (rid*1000+i) o S λS=>compSw inl yl lts pin rid l (i+1) S K
def pendOf:Ex->Option (Option Nat)
 |.normal=>none
 |.ret=>some none
 |.exit i=>some (some i)
def exOf:Option (Option Nat)->Ex
 |none=>.normal
 |some none=>.ret
 |some (some i)=>.exit i
mutual
def SV.noY(n:Nat):SV->SV
 |.yld y=>if y<n then .yld y else .junk
 |.fn f l=>.fn f (noYL n l)
 |.sref l o=>.sref (noYL n l) o
 |.agg l=>.agg (noYL n l)
 |.tup l=>.tup (noYL n l)
 |.lit a b l=>.lit a b (noYL n l)
 |.own k=>.own k
 |.eown k x fo=>.eown k x fo
 |.e y=>.e y
 |.undef=>.undef
 |.junk=>.junk
 |.ptr i o=>.ptr i o
 |.hd i o z=>.hd i o z
 |.pel b x fo=>.pel b x fo
 |.dice=>.dice
 |.erow y s fo=>.erow y s fo
def noYL(n:Nat):List SV->List SV
 |[]=>[]
 |v::l=>v.noY n::noYL n l
end
def compRange(inl:Inl)(f:FuncId)(h:Operand)(ps:Array Tmp)(a b:Code)(p:Nat)(S:Sym)(K:Ex->Sym->M):M:=match S.ev h with
 |.fn g caps=>match X.P.funcs[g]? with
  |some fn=>if fn.name = "runtime.NumGoroutine" \/ fn.body.isNone\/¬g<fnB then die "range" else
   inl (700000+p%100000) g (.yld S.ys.length::caps) { S with ys:=S.ys++[⟨mapA SV.anyOwn S.g,f,ps.toList,a,b,p,none,false⟩] } λ_ S'=>
    match S'.ys[S.ys.length]? with
    |some y=>if y.busy then die "range" else K (exOf y.pend) { S' with bx:=S'.bx.map (BX.map (SV.noY S.ys.length)),ys:=S'.ys.take S.ys.length }
    |none=>die "range"
  |none=>die "range"
 |_=>die "range over a function that is not known"
def comp(inl:Inl)(yl:Inl)(f:FuncId):Code->Nat->Sym->(Ex->Sym->M)->M
 |.skip,_,S,K=>K .normal S
 |.label _,_,S,K=>K .normal S
 |.scope x,p,S,K=>comp inl yl f x (2*p) S K
 |.ret,_,S,K=>K .ret S
 |.exit id,_,S,K=>K (.exit id) S
 |.seq x y,p,S,K=>comp inl yl f x (2*p) S λe S=>match e with
  |.normal=>comp inl yl f y (2*p+1) S K
  |e=>K e S
 |.cond c x y,p,S,K=>joinK W p S (λS K=>match S.ev c with
   |.e (.cst (.bool b))=>if b then comp inl yl f x (2*p) S K else comp inl yl f y (2*p+1) S K
   |.e e=>do
    let a ←comp inl yl f x (2*p) S K
    let b ←comp inl yl f y (2*p+1) S K
    pure (.ite e a b)
   |_=>die "cond") K
 |.block id x,p,S,K=>joinK W p S (λS K=>comp inl yl f x (2*p) S λe S=>match e with
   |.exit i=>if i=id then K .normal S else K (.exit i) S
   |e=>K e S) K
 |.region rid ops false,p,S,K=>joinK W p S (λS K=>compOps X inl yl none ops rid ops.toList 0 S (K .normal)) K
 |.region rid ops true,p,S,K=>joinK W p S (λS K=>
   if drawOk ops (findNp W.np f rid)then frzAll 40 (findTh W.thaw S.site rid) S λS=>
    compOps X inl yl (some S.bx.length) ops rid (ops.toList.take (findNp W.np f rid)) 0 S λS=>compOps X inl yl none ops rid (ops.toList.drop (findNp W.np f rid)) (findNp W.np f rid) S (K .normal)
   else if 10000<=findNp W.np f rid/\orderB ops (λi=>(latesOf ops).getD i false)=true then frzAll 40 (findTh W.thaw S.site rid) S λS=>
    compSw X inl yl (latesOf ops) (findNp W.np f rid-10000) rid ops.toList 0 S (K .normal)
   else match compQ X ops S with
    |some S'=>K .normal S'
    |none=>compAny X inl yl ops rid ops.size (Array.replicate ops.size false) S (K .normal)) K
 |.loop x,p,S,K=>match findSk W.skel S.site p with
  |none=>die "x"
  |some sk=>frzAll 40 (sk.pre++ownsAt S sk.pos) S λS=>do
   let H:=headOf sk S
   match fitVals sk S H S with
   |none=>die "x"
   |some vs=>do
    let body ←comp inl yl f x (2*p) H λe S'=>match e with
     |.normal=>fitK sk S H S' S.lv "x"
     |e=>lowK S.lv (K e S')
    pure (.loop S.lv vs body)
 |.rangeFunc h ps a b,p,S,K=>compRange X inl f h ps a b p S K
 |_,_,_,_=>die "code"
def resS(S:Sym):List ResultVar->Option (List SV)
 |[]=>some []
 |.tmp t::l=>(resS S l).map (S.get t::·)
 |.cell x t::l=>match S.get x with
  |.ptr i off=>match loadS X S none t i off,resS S l with
   |some v,some vs=>some (v::vs)
   |_,_=>none
  |_=>none
def one1:List SV->SV
 |[v]=>v
 |l=>.tup l
def asG:Nat->List SV->List (Nat×SV)
 |_,[]=>[]
 |i,v::l=>(i,v)::asG (i+1) l
def Sym.sub(S:Sym)(g:List (Nat×SV))(site:Nat):Sym:={ S with g:=g,site:=site,base:=S.ar.length,bbase:=S.bx.length,eff:=false }
def Sym.back(S S':Sym):Sym:={ S' with g:=if S'.eff then mapA SV.anyOwn S.g else S.g,site:=S.site,base:=S.base,bbase:=S.bbase,eff:=S.eff||S'.eff }
def setPs(g:List (Nat×SV)):List Nat->List SV->List (Nat×SV)
 |p::ps,v::vs=>setPs ((p,v)::g) ps vs
 |_,_=>g
def setY(l:List YS)(y:Nat)(b:Bool)(e:Option (Option Nat)):List YS:=match l[y]? with
 |some r=>l.set y { r with pend:=e,busy:=b }
 |none=>l
mutual
def inlN:Nat->Inl
 |0,_,g,_,_,_=>die "x"
 |n+1,key,g,args,S,K=>match X.P.funcs[g]? with
  |none=>die "function"
  |some fn=>match fn.body with
   |none=>die "body"
   |some c=>if(dstsOk fn.ntmps c&&!badC X.P c)=false\/fn.ntmps<args.length then die "slots" else
    if W.sites.contains (S.site*1000000+key+1)=false then die "x" else
    comp X W (inlN n) (yldN n) g c 1 (S.sub (asG 0 args) (S.site*1000000+key+1)) λe S'=>match e with
     |.exit _=>die "exit"
     |_=>match resS X S' fn.results.toList with
      |some vs=>K (one1 vs) (S.back S')
      |none=>die "x"
def yldN:Nat->Inl
 |0,_,_,_,_,_=>die "too deep- yield"
 |n+1,key,y,args,S,K=>match S.ys[y]? with
  |none=>die "yield"
  |some r=>if r.pend≠none\/r.busy=true\/args.length≠r.ps.length\/noRange r.asg=false\/noRange r.body=false then die "yield behind the end" else
   if W.sites.contains (S.site*1000000+key+1)=false then die "x" else
   comp X W (inlN n) (yldN n) r.f r.asg (2*r.p) (S.sub (setPs r.g r.ps args) (S.site*1000000+key+1)) λe S1=>match e with
    |.normal=>match S1.ys[y]? with
     |some r1=>if r1.pend≠none\/r1.busy=true then die "yield- assignments" else
      comp X W (inlN n) (yldN n) r.f r.body (2*r.p+1) { S1 with ys:=setY S1.ys y true none } λe S'=>K (.e (.cst (.bool (jumpOf e).isNone))) { S.back S' with ys:=setY S'.ys y false (pendOf e) }
     |none=>die "yield- assignments"
    |_=>die "yield- assignments"
end
def paramsS(diceT:TypeId):List TypeId->Nat->List SV
 |[],_=>[]
 |t::l,i=>(if t=diceT then .dice else .e (.var i))::paramsS diceT l (i+1)
def varsS:Nat->Nat->List SV
 |0,_=>[]
 |n+1,i=>.e (.var i)::varsS n (i+1)
def startS(fn:Func):Sym:={ g:=asG 0 (paramsS X.diceT fn.params.toList 0++varsS fn.nfree fn.params.size),bx:=[],ar:=[],ys:=[],nv:=fn.params.size+fn.nfree,kn:=[],lv:=0,site:=0,base:=0,bbase:=0,eff:=false }
def compWith(f:FuncId)(K:Func->Sym->M):M:=match X.P.funcs[f]? with
 |none=>die "function"
 |some fn=>match fn.body with
  |none=>die "body"
  |some c=>if(dstsOk fn.ntmps c&&!badC X.P c)=false\/fn.ntmps<fn.params.size+fn.nfree then die "slots" else
   comp X W (inlN X W 12) (yldN X W 12) f c 1 (startS X fn) λe S=>match e with
    |.exit _=>die "exit"
    |_=>K fn S
def endK(fn:Func)(S:Sym):M:=match resS X S fn.results.toList with
 |some vs=>frzAll 40 (ownsL vs) S λS=>match resS X S fn.results.toList with
  |some vs=>match(one1 vs).pe with
   |some v=>pure (.ret v)
   |none=>die "result"
  |none=>die "result"
 |none=>die "results"
def compFun(f:FuncId):M:=compWith X W f (endK X)
def dfrOf(c:Code):Option (Array Oper×Nat×FuncId×Code):=match c with
 |.seq (.region _ ops0 false) (.seq (.region _ ⟨[o1,o2]⟩ false) T)=>(match o1.op,o1.dst,o1.guard with
  |.makeFunc (.func g) ⟨[]⟩ ⟨[.tmp _]⟩,some d,none=>(match o2.op,o2.dst,o2.guard with
   |.defer ⟨.value (.tmp d'),⟨[]⟩,_⟩,none,none=>if d'=d then some (ops0,d,g,T)else none
   |_,_,_=>none)
  |_,_,_=>none)
 |_=>none
def compDf(f:FuncId):M:=match X.P.funcs[f]? with
 |none=>die "function"
 |some fn=>match fn.body with
  |none=>die "body"
  |some c=>match dfrOf c with
   |none=>die "no deferred call at its head"
   |some (ops0,d,_,T)=>if(ops0.toList.all (dstOk fn.ntmps)&&dstsOk fn.ntmps T&&!badC X.P (.seq (.region 0 ops0 false) T))=false\/fn.ntmps<fn.params.size+fn.nfree\/¬d<fn.ntmps then die "slots" else
    compOps X (inlN X W 12) (yldN X W 12) none ops0 0 ops0.toList 0 (startS X fn) λS=>comp X W (inlN X W 12) (yldN X W 12) f T 7 (S.put (some d) .junk) λe S=>match e with
     |.exit _=>die "exit"
     |_=>endK X fn S
def ownAt:Option (Nat×Nat)->SV->Option Nat
 |none,.own k=>some k
 |some (n,j),.agg l=>if l.length=n then match l[j]? with
  |some (.own k)=>some k
  |_=>none
  else none
 |_,_=>none
def ownPut:Option (Nat×Nat)->SV->SE->SV
 |none,_,x=>.e x
 |some (_,j),.agg l,x=>.agg (l.set j (.e x))
 |_,_,_=>.junk
def endO(r:Option (Nat×Nat))(fn:Func)(S:Sym):M:=match resS X S fn.results.toList with
 |some vs=>match ownAt r (one1 vs)with
  |some k=>frzAll 40 ((ownsL vs).filter λi=>i != k+k) S λS=>match resS X S fn.results.toList with
   |some vs=>match ownAt r (one1 vs)with
    |some k=>match S.arr k with
     |some a=>if a.born.lst=false then die "result" else emit (.frz a.sz a.born a.c) true S λx S=>match(ownPut r (one1 vs) x).pe with
      |some v=>pure (.ret v)
      |none=>die "result"
     |none=>die "result"
    |none=>die "result"
   |none=>die "result"
  |none=>match r,one1 vs with
   |none,.e (.cst .snil)=>pure (.ret (.e (.cst .snil)))
   |_,_=>die "no own result"
 |none=>die "results"
def compFunO(r:Option (Nat×Nat))(f:FuncId):M:=compWith X W f (endO X r)
end
end
section
open Go Go.RowKit
variable[Sp]
theorem plainC_iff(l:List PV):plainC l=true↔∀p∈l,p.plain=true/\p.one=true:=by
 induction l with
 |nil=>simp[plainC]
 |cons p ps ih=>simp[plainC,ih,and_assoc]
theorem plainT_iff(l:List PV):plainT l=true↔∀p∈l,p.plain=true:=by
 induction l with
 |nil=>simp[plainT]
 |cons p ps ih=>simp[plainT,ih]
mutual
theorem plain_sub1(e:Eff):∀p:PV,p.plain=true->p.sub1 e=p
 |.int _ _,_ | .bool _,_ | .str _,_ | .nilp,_ | .nilfn,_ | .snil,_=>by simp only[PV.sub1]
 |.undef,h | .bad,h | .dead _,h | .yld _,h | .ptr _ _,h | .hd _ _ _,h=>by simp[PV.plain]at h
 |.mp _ (some _) _ _,h=>by simp[PV.plain]at h
 |.mp _ none _ _,h=>by simp only[PV.sub1]
 |.sl none _ _ _ cs,h=>by simp only[PV.sub1,plainC_sub1 e cs (by simpa only[PV.plain]using h)]
 |.sl (some _) _ _ _ cs,h=>by simp[PV.plain]at h
 |.eref none _ cs,h=>by simp only[PV.sub1,plainC_sub1 e cs (by simpa only[PV.plain]using h)]
 |.eref (some _) _ cs,h=>by simp[PV.plain]at h
 |.fn _ cs,h=>by simp only[PV.sub1,plainC_sub1 e cs (by simpa only[PV.plain]using h)]
 |.agg cs,h=>by simp only[PV.sub1,plainC_sub1 e cs (by simpa only[PV.plain]using h)]
 |.tup cs,h=>by simp only[PV.sub1,plainT_sub1 e cs (by simpa only[PV.plain]using h)]
theorem plainC_sub1(e:Eff):∀l:List PV,plainC l=true->subL1 e l=l
 |[],_=>rfl
 |p::ps,h=>by
  simp only[plainC,Bool.and_eq_true]at h;simp only[subL1,plain_sub1 e p h.1.1,plainC_sub1 e ps h.2]
theorem plainT_sub1(e:Eff):∀l:List PV,plainT l=true->subL1 e l=l
 |[],_=>rfl
 |p::ps,h=>by
  simp only[plainT,Bool.and_eq_true]at h;simp only[subL1,plain_sub1 e p h.1,plainT_sub1 e ps h.2]
end
mutual
theorem plain_frz(id:Nat):∀p:PV,p.plain=true->p.frz id=p
 |.int _ _,_ | .bool _,_ | .str _,_ | .nilp,_ | .nilfn,_ | .snil,_=>by simp only[PV.frz]
 |.undef,h | .bad,h | .dead _,h | .yld _,h | .ptr _ _,h | .hd _ _ _,h=>by simp[PV.plain]at h
 |.mp _ (some _) _ _,h=>by simp[PV.plain]at h
 |.mp _ none _ _,h=>by simp only[PV.frz]
 |.sl none _ _ _ cs,h=>by simp only[PV.frz,plainC_frz id cs (by simpa only[PV.plain]using h)]
 |.sl (some _) _ _ _ cs,h=>by simp[PV.plain]at h
 |.eref none _ cs,h=>by simp only[PV.frz,plainC_frz id cs (by simpa only[PV.plain]using h)]
 |.eref (some _) _ cs,h=>by simp[PV.plain]at h
 |.fn _ cs,h=>by simp only[PV.frz,plainC_frz id cs (by simpa only[PV.plain]using h)]
 |.agg cs,h=>by simp only[PV.frz,plainC_frz id cs (by simpa only[PV.plain]using h)]
 |.tup cs,h=>by simp only[PV.frz,plainT_frz id cs (by simpa only[PV.plain]using h)]
theorem plainC_frz(id:Nat):∀l:List PV,plainC l=true->frzL id l=l
 |[],_=>rfl
 |p::ps,h=>by
  simp only[plainC,Bool.and_eq_true]at h;simp only[frzL,plain_frz id p h.1.1,plainC_frz id ps h.2]
theorem plainT_frz(id:Nat):∀l:List PV,plainT l=true->frzL id l=l
 |[],_=>rfl
 |p::ps,h=>by
  simp only[plainT,Bool.and_eq_true]at h;simp only[frzL,plain_frz id p h.1,plainT_frz id ps h.2]
end
mutual
theorem plain_cutb(n:Nat):∀p:PV,p.plain=true->p.cutb n=p
 |.int _ _,_ | .bool _,_ | .str _,_ | .nilp,_ | .nilfn,_ | .snil,_=>by simp only[PV.cutb]
 |.undef,h | .bad,h | .dead _,h | .yld _,h | .ptr _ _,h | .hd _ _ _,h=>by simp[PV.plain]at h
 |.mp _ (some _) _ _,h=>by simp[PV.plain]at h
 |.mp _ none _ _,h=>by simp only[PV.cutb]
 |.sl none _ _ _ cs,h=>by simp only[PV.cutb,plainC_cutb n cs (by simpa only[PV.plain]using h)]
 |.sl (some _) _ _ _ cs,h=>by simp[PV.plain]at h
 |.eref none _ cs,h=>by simp only[PV.cutb,plainC_cutb n cs (by simpa only[PV.plain]using h)]
 |.eref (some _) _ cs,h=>by simp[PV.plain]at h
 |.fn _ cs,h=>by simp only[PV.cutb,plainC_cutb n cs (by simpa only[PV.plain]using h)]
 |.agg cs,h=>by simp only[PV.cutb,plainC_cutb n cs (by simpa only[PV.plain]using h)]
 |.tup cs,h=>by simp only[PV.cutb,plainT_cutb n cs (by simpa only[PV.plain]using h)]
theorem plainC_cutb(n:Nat):∀l:List PV,plainC l=true->cutbL n l=l
 |[],_=>rfl
 |p::ps,h=>by
  simp only[plainC,Bool.and_eq_true]at h;simp only[cutbL,plain_cutb n p h.1.1,plainC_cutb n ps h.2]
theorem plainT_cutb(n:Nat):∀l:List PV,plainT l=true->cutbL n l=l
 |[],_=>rfl
 |p::ps,h=>by
  simp only[plainT,Bool.and_eq_true]at h;simp only[cutbL,plain_cutb n p h.1,plainT_cutb n ps h.2]
end
mutual
theorem plain_anon(n an:Nat):∀p:PV,p.plain=true->p.anon n an=p
 |.int _ _,_ | .bool _,_ | .str _,_ | .nilp,_ | .nilfn,_ | .snil,_=>by simp only[PV.anon]
 |.undef,h | .bad,h | .dead _,h | .yld _,h | .ptr _ _,h | .hd _ _ _,h=>by simp[PV.plain]at h
 |.mp _ (some _) _ _,h=>by simp[PV.plain]at h
 |.mp _ none _ _,h=>by simp only[PV.anon]
 |.sl none _ _ _ cs,h=>by simp only[PV.anon,plainC_anon n an cs (by simpa only[PV.plain]using h)]
 |.sl (some _) _ _ _ cs,h=>by simp[PV.plain]at h
 |.eref none _ cs,h=>by simp only[PV.anon,plainC_anon n an cs (by simpa only[PV.plain]using h)]
 |.eref (some _) _ cs,h=>by simp[PV.plain]at h
 |.fn _ cs,h=>by simp only[PV.anon,plainC_anon n an cs (by simpa only[PV.plain]using h)]
 |.agg cs,h=>by simp only[PV.anon,plainC_anon n an cs (by simpa only[PV.plain]using h)]
 |.tup cs,h=>by simp only[PV.anon,plainT_anon n an cs (by simpa only[PV.plain]using h)]
theorem plainC_anon(n an:Nat):∀l:List PV,plainC l=true->anonL n an l=l
 |[],_=>rfl
 |p::ps,h=>by
  simp only[plainC,Bool.and_eq_true]at h;simp only[anonL,plain_anon n an p h.1.1,plainC_anon n an ps h.2]
theorem plainT_anon(n an:Nat):∀l:List PV,plainT l=true->anonL n an l=l
 |[],_=>rfl
 |p::ps,h=>by
  simp only[plainT,Bool.and_eq_true]at h;simp only[anonL,plain_anon n an p h.1,plainT_anon n an ps h.2]
end
mutual
theorem plain_bd(n an:Nat):∀p:PV,p.plain=true->p.bd n an
 |.int _ _,_ | .bool _,_ | .str _,_ | .nilp,_ | .nilfn,_ | .snil,_=>by simp only[PV.bd]
 |.undef,h | .bad,h | .dead _,h | .yld _,h | .ptr _ _,h | .hd _ _ _,h=>by simp[PV.plain]at h
 |.mp _ (some _) _ _,h=>by simp[PV.plain]at h
 |.mp _ none _ _,h=>by simp only[PV.bd]
 |.sl none _ _ _ cs,h=>by simp only[PV.bd];exact plainC_bd n an cs (by simpa only[PV.plain]using h)
 |.sl (some _) _ _ _ cs,h=>by simp[PV.plain]at h
 |.eref none _ cs,h=>by simp only[PV.bd];exact plainC_bd n an cs (by simpa only[PV.plain]using h)
 |.eref (some _) _ cs,h=>by simp[PV.plain]at h
 |.fn _ cs,h=>by simp only[PV.bd];exact plainC_bd n an cs (by simpa only[PV.plain]using h)
 |.agg cs,h=>by simp only[PV.bd];exact plainC_bd n an cs (by simpa only[PV.plain]using h)
 |.tup cs,h=>by simp only[PV.bd];exact plainT_bd n an cs (by simpa only[PV.plain]using h)
theorem plainC_bd(n an:Nat):∀l:List PV,plainC l=true->bdL n an l
 |[],_=>by simp only[bdL]
 |p::ps,h=>by
  simp only[plainC,Bool.and_eq_true]at h;simp only[bdL];exact⟨plain_bd n an p h.1.1,plainC_bd n an ps h.2⟩
theorem plainT_bd(n an:Nat):∀l:List PV,plainT l=true->bdL n an l
 |[],_=>by simp only[bdL]
 |p::ps,h=>by
  simp only[plainT,Bool.and_eq_true]at h;simp only[bdL];exact⟨plain_bd n an p h.1,plainT_bd n an ps h.2⟩
end
theorem plain_sub(E:List Eff){p:PV}(h:p.plain=true):p.sub E=p:=by
 induction E with
 |nil=>rfl
 |cons e E ih=>simp only[PV.sub,plain_sub1 e p h,ih]
def SE.ok(ρ:List PV):SE->Prop
 |.var i=>(ρ.getD i .bad).plain=true
 |.proj e j=>e.ok ρ/\(projV (e.den ρ) j).plain=true
 |.cst v=>v.plain=true
theorem SE.ok_plain{ρ:List PV}{x:SE}(h:x.ok ρ):(x.den ρ).plain=true:=by
 cases x with
 |var i=>exact h
 |proj e j=>exact h.2
 |cst v=>exact h
theorem projV_one{v:PV}{j:Nat}(h:v.plain=true)(hp:(projV v j).plain=true):(projV v j).one=true:=by
 unfold projV at *;split at hp
 ·rename_i cs;rw[List.getD_eq_getElem?_getD]at hp⊢;cases hg:cs[j]? with
  |none=>rw[hg]at hp;simp[PV.plain]at hp
  |some p=>
   simp only[Option.getD_some];have h':plainC cs=true:=by simpa only[PV.plain]using h
   exact((plainC_iff cs).1 h' p (List.mem_of_getElem? hg)).2
 ·simp[PV.plain]at hp
theorem getD_prefix{ρ ρ':List PV}(h:ρ<+:ρ'){i:Nat}(hp:(ρ.getD i .bad).plain=true):ρ'.getD i .bad=ρ.getD i .bad:=by
 obtain⟨t,rfl⟩:=h;simp only[List.getD_eq_getElem?_getD]at hp⊢;rcases Nat.lt_or_ge i ρ.length with hi|hi
 ·rw[List.getElem?_append_left hi]
 ·rw[List.getElem?_eq_none hi]at hp;simp[PV.plain]at hp
theorem SE.den_prefix{ρ ρ':List PV}(h:ρ<+:ρ'):∀{x:SE},x.ok ρ->x.den ρ'=x.den ρ/\x.ok ρ'
 |.var i,hx=>by
  have e:=getD_prefix h hx;exact⟨e,by unfold SE.ok at hx⊢;rw[e];exact hx⟩
 |.proj x j,hx=>by
  obtain⟨e,k⟩:=SE.den_prefix h hx.1;have e2:SE.den ρ' (.proj x j)=SE.den ρ (.proj x j):=by simp only[SE.den,e]
  exact⟨e2,k,by rw[e];exact hx.2⟩
 |.cst v,hx=>⟨rfl,hx⟩
structure Frm where
 P:Program
 n0:Nat
 A0:Nat
 β0:Nat->BoxC
 d0:Nat
 DI:List PV->Prop
 ent:Ent
 ar0:Nat->Option AR
 ids0:Nat->Option Nat
 rc0:List (Nat×Loop)
 ρ0:List PV
structure Env where
 ρ:List PV
 ar:List (Option AR)
 nb:Nat
 ids:Nat->Option Nat
def ownV(b:BN)(id:Option Nat)(sz:Nat)(cs:List PV):PV:=match id with
 |some id=>match b with
  |.map=>.mp .set (some id) sz cs
  |.it=>.mp .wlk (some id) sz cs
  |.tab sc=>.mp (.tab sc) (some id) sz cs
  |.sit=>.mp .sit (some id) sz cs
  |_=>.sl (some id) sz 0 (cs.length/sz) cs
 |none=>.snil
def AR.rel(E:Env)(k:Nat)(a:AR)(cs:List PV):Prop:=
 a.c.ok E.ρ/\a.c.den E.ρ=.agg cs/\0<a.sz/\cs.length=cs.length/a.sz*a.sz/\isNil E.ρ a.born cs=some (E.ids k).isNone/\(∀x,a.born=.dyn x->x.ok E.ρ)
mutual
def RV(F:Frm)(E:Env):SV->PV->Prop
 |.e x,q=>q=x.den E.ρ/\x.ok E.ρ
 |.undef,q=>q=.undef
 |.junk,_=>True
 |.ptr i o,q=>q=.ptr (F.n0+i) o/\i<E.nb
 |.hd i o z,q=>q=.hd (F.n0+i) o z/\i<E.nb
 |.pel b x fo,q=>∃kk n,x.den E.ρ=.int kk n/\x.ok E.ρ/\q=.ptr (F.n0+b) (n.toNat+fo)/\b<E.nb
 |.dice,q=>q=.ptr F.d0 0/\F.d0<F.n0/\F.β0 F.d0=.inv F.DI
 |.yld y,q=>∃l,F.ent.ys[y]?.map YRec.l=some l/\q=.yld l
 |.own k,q=>∃a cs,E.ar.getD k none=some a/\a.rel E k cs/\q=ownV a.born (E.ids k) a.sz cs
 |.eown k x fo,q=>∃a cs id n kk,E.ar.getD k none=some a/\a.rel E k cs/\E.ids k=some id/\x.den E.ρ=.int kk n/\x.ok E.ρ/\0<=n/\n.toNat<cs.length/a.sz/\q=.eref (some id) (n.toNat*a.sz+fo) (cs.drop (n.toNat*a.sz+fo))
 |.erow x sz fo,q=>∃cs off tl,x.den E.ρ=.agg cs/\x.ok E.ρ/\cs.length=sz/\q=.eref none off (cs.drop fo++tl)
 |.sref l fo,q=>∃l',RVL F E l l'/\plainC l'=true/\q=.eref none fo (l'.drop fo)
 |.fn f l,q=>∃l',q=.fn f l'/\RVL F E l l'
 |.agg l,q=>∃l',q=.agg l'/\RVL F E l l'
 |.tup l,q=>∃l',q=.tup l'/\RVT F E l l'
 |.lit sz len l,q=>∃l',q=.sl none sz 0 len l'/\RVL F E l l'/\plainC l'=true/\l'.length=len*sz
def RVL(F:Frm)(E:Env):List SV->List PV->Prop
 |[],l=>l=[]
 |v::vs,l=>∃q l',l=q::l'/\RV F E v q/\(v=.junk\/q.one=true)/\RVL F E vs l'
def RVT(F:Frm)(E:Env):List SV->List PV->Prop
 |[],l=>l=[]
 |v::vs,l=>∃q l',l=q::l'/\RV F E v q/\RVT F E vs l'
end
def RB(F:Frm)(E:Env):BX->BoxC->Prop
 |.cells l,c=>∃l',c=.cells l'/\RVL F E l l'
 |.dice,c=>c=.inv F.DI
 |.gone,_=>True
def Sym.env(S:Sym)(ρ:List PV)(ids:Nat->Option Nat):Env:=⟨ρ,S.ar,S.bx.length,ids⟩
mutual
def SV.noOwn:SV->SV
 |.own _=>.junk
 |.eown _ _ _=>.junk
 |.fn f l=>.fn f (noOwnL l)
 |.sref l o=>.sref (noOwnL l) o
 |.agg l=>.agg (noOwnL l)
 |.tup l=>.tup (noOwnL l)
 |.lit a b l=>.lit a b (noOwnL l)
 |.e y=>.e y
 |.undef=>.undef
 |.junk=>.junk
 |.ptr i o=>.ptr i o
 |.hd i o z=>.hd i o z
 |.pel b x fo=>.pel b x fo
 |.dice=>.dice
 |.yld a=>.yld a
 |.erow y s fo=>.erow y s fo
def noOwnL:List SV->List SV
 |[]=>[]
 |v::l=>v.noOwn::noOwnL l
end
def YS.now(y:YS)(r:YRec):Nat×Loop:=(r.l,{ r.o with state:=if y.busy then .busy else if y.pend.isSome then .done else .ready,pending:=jumpOf (exOf y.pend) })
structure YOk(F:Frm)(y:YS)(r:YRec):Prop where
 ps:r.o.params.toList=y.ps
 asg:r.o.assign=y.asg
 body:r.o.body=y.body
 lt:∀p∈y.ps,p<r.o.tmps.size
 da:dstsOk r.o.tmps.size y.asg=true
 db:dstsOk r.o.tmps.size y.body=true
 own:∀t,(getA y.g t).noOwn=getA y.g t
 g:∀t,RV F ⟨F.ρ0,[],F.ent.n-F.n0,λ_=>none⟩ (getA y.g t) (r.g t)
structure RcOk(F:Frm)(ys:List YS)(ρ:List PV)(rc:List (Nat×Loop)):Prop where
 pre:F.ρ0<+:ρ
 len:ys.length=F.ent.ys.length
 rc:rc=List.zipWith YS.now ys F.ent.ys++F.rc0
 y:∀(i:Nat) y r,ys[i]?=some y->F.ent.ys[i]?=some r->YOk F y r
 ne:∀(i j:Nat) r r',F.ent.ys[i]?=some r->F.ent.ys[j]?=some r'->r.l=r'.l->i=j
 ne0:∀r∈F.ent.ys,∀p∈F.rc0,p.1≠r.l
theorem RcOk.mono{F:Frm}{ys:List YS}{ρ ρ':List PV}{rc:List (Nat×Loop)}(h:RcOk F ys ρ rc)(k:ρ<+:ρ'):RcOk F ys ρ' rc:=⟨h.pre.trans k,h.len,h.rc,h.y,h.ne,h.ne0⟩
theorem RcOk.push{F:Frm}{ys:List YS}{ρ l:List PV}{rc:List (Nat×Loop)}(h:RcOk F ys ρ rc):RcOk F ys (ρ++l) rc:=h.mono (List.prefix_append _ _)
structure Rel(F:Frm)(S:Sym)(ρ:List PV)(ids:Nat->Option Nat)(s:St):Prop where
 len:ρ.length=S.nv
 kn:∀i,i∈S.kn->(ρ.getD i .bad).one=true
 slot:∀t,RV F (S.env ρ ids) (S.get t) (s.g t)
 boxn:s.m.n=F.n0+S.bx.length
 old:∀i,i<F.n0->s.m.β i=F.β0 i
 box:∀i b,S.bx[i]?=some b->RB F (S.env ρ ids) b (s.m.β (F.n0+i))
 idlt:∀k id,ids k=some id->F.A0<=id/\id<s.m.an/\k<S.ar.length
 idinj:∀k j id,ids k=some id->ids j=some id->k=j
 arr:∀k a,S.ar.getD k none=some a->∃cs,a.rel (S.env ρ ids) k cs
 a0:s.a0=F.ent
 ent:F.A0<=F.ent.a/\F.n0<=F.ent.n
 efc:∀e∈s.eff,F.A0<=e.id/\e.clean
 eff:S.eff=false\/F.A0=F.ent.a->s.eff=[]
 new:S.eff=false->∀k id,ids k=some id->S.base<=k->F.ent.a<=id
 keep:S.eff=false->∀k,k<S.base->S.ar.getD k none=F.ar0 k/\ids k=F.ids0 k
 bbase:F.ent.n=F.n0+S.bbase
 ba:S.base<=S.ar.length
 bb:S.bbase<=S.bx.length
 an:F.ent.a<=s.m.an
 obd:∀i l,i<F.n0->F.β0 i=.cells l->bdL F.n0 F.A0 l
 rc:RcOk F S.ys ρ s.m.rc
theorem Rel.young{F:Frm}{S:Sym}{ρ:List PV}{ids:Nat->Option Nat}{s:St}(h:Rel F S ρ ids s){k id:Nat}(hid:ids k=some id)(he:(S.eff||decide (k<S.base))=false\/F.A0=F.ent.a):F.ent.a<=id:=by
 rcases he with he|he
 ·simp only[Bool.or_eq_false_iff,decide_eq_false_iff_not]at he;exact h.new he.1 k id hid (by omega)
 ·rw[←he];exact(h.idlt k id hid).1
theorem eff_or{a b:Bool}{p:Prop}(h:(a||b)=false\/p):a=false\/p:=h.imp_left λh=>by simp only[Bool.or_eq_false_iff]at h;exact h.1
section
variable{F:Frm}{E E':Env}
theorem rvl_iff:∀{l:List SV}{l':List PV},RVL F E l l'↔l.length=l'.length/\∀(j:Nat) v q,l[j]?=some v->l'[j]?=some q->RV F E v q/\(v=.junk\/q.one=true)
 |[],l'=>by
  simp only[RVL,List.length_nil];constructor
  ·rintro rfl;simp
  ·rintro⟨h,_⟩;exact List.length_eq_zero_iff.1 h.symm
 |v::vs,[]=>by simp[RVL]
 |v::vs,q::qs=>by
  simp only[RVL,List.cons.injEq];constructor
  ·rintro⟨q',l',⟨rfl,rfl⟩,h0,h1,h2⟩;rw[rvl_iff]at h2;refine⟨by simp[h2.1],λj u r hj hr=>?_⟩;cases j with
   |zero=>simp at hj hr;subst hj;subst hr;exact⟨h0,h1⟩
   |succ j=>exact h2.2 j u r (by simpa using hj) (by simpa using hr)
  ·rintro⟨hl,h⟩;obtain⟨h0,h1⟩:=h 0 v q (by simp) (by simp);exact⟨q,qs,⟨rfl,rfl⟩,h0,h1,rvl_iff.2 ⟨by simpa using hl,λj u r hj hr=>h (j+1) u r (by simpa using hj) (by simpa using hr)⟩⟩
theorem rvl_length{l:List SV}{l':List PV}(h:RVL F E l l'):l.length=l'.length:=(rvl_iff.1 h).1
theorem AR.rel_of{k:Nat}{a:AR}{cs cs':List PV}(h:a.rel E k cs)(h':a.rel E k cs'):cs=cs':=by
 have:=h.2.1.symm.trans h'.2.1;injection this
end
structure Env.le(E E':Env):Prop where
 ρ:E.ρ<+:E'.ρ
 ar:∀k a,E.ar.getD k none=some a->E'.ar.getD k none=some a
 nb:E.nb<=E'.nb
 ids:∀k a,E.ar.getD k none=some a->E'.ids k=E.ids k
theorem Env.le.refl(E:Env):E.le E:=⟨List.prefix_refl _,λ_ _ h=>h,Nat.le_refl _,λ_ _ _=>rfl⟩
theorem Env.le.trans{E E1 E2:Env}(h:E.le E1)(k:E1.le E2):E.le E2:=
 ⟨h.ρ.trans k.ρ,λi a e=>k.ar i a (h.ar i a e),Nat.le_trans h.nb k.nb,λi a e=>(k.ids i a (h.ar i a e)).trans (h.ids i a e)⟩
theorem isNil_prefix{ρ ρ':List PV}(h:ρ<+:ρ'){b:BN}{cs:List PV}(hb:∀x,b=.dyn x->x.ok ρ):isNil ρ' b cs=isNil ρ b cs:=by
 cases b with
 |real=>rfl
 |nil0=>rfl
 |map=>rfl
 |it|tab _|sit=>rfl
 |dyn x=>simp only[isNil,(SE.den_prefix h (hb x rfl)).1]
theorem ownV_one(b:BN)(id:Option Nat)(sz:Nat)(cs:List PV):(ownV b id sz cs).one=true:=by
 unfold ownV;split
 ·split<;>rfl
 ·rfl
theorem ownV_lst{b:BN}(h:b.lst=true)(id:Option Nat)(sz:Nat)(cs:List PV):ownV b id sz cs=match id with|some id=>.sl (some id) sz 0 (cs.length/sz) cs|none=>.snil:=by
 unfold ownV;cases b<;>first|rfl|cases h
theorem AR.rel.mono{E E':Env}(h:E.le E'){k:Nat}{a:AR}{cs:List PV}(ha:E.ar.getD k none=some a)(hr:a.rel E k cs):a.rel E' k cs:=by
 obtain⟨h1,h2,h3,h4,h5,h6⟩:=hr;obtain⟨e1,e2⟩:=SE.den_prefix h.ρ h1;exact⟨e2,by rw[e1];exact h2,h3,h4,by rw[isNil_prefix h.ρ h6,h.ids k a ha];exact h5,λx hx=>(SE.den_prefix h.ρ (h6 x hx)).2⟩
mutual
theorem RV.mono{F:Frm}{E E':Env}(h:E.le E'):∀{v:SV}{q:PV},RV F E v q->RV F E' v q
 |.e x,q,hr=>by
  simp only[RV]at hr⊢;obtain⟨e1,e2⟩:=SE.den_prefix h.ρ hr.2;exact⟨by rw[e1];exact hr.1,e2⟩
 |.undef,q,hr=>by simpa only[RV]using hr
 |.junk,q,hr=>by simp only[RV]
 |.ptr i o,q,hr=>by
  simp only[RV]at hr⊢;exact⟨hr.1,Nat.lt_of_lt_of_le hr.2 h.nb⟩
 |.hd i o z,q,hr=>by
  simp only[RV]at hr⊢;exact⟨hr.1,Nat.lt_of_lt_of_le hr.2 h.nb⟩
 |.pel b x fo,q,hr=>by
  simp only[RV]at hr⊢;obtain⟨kk,n,h1,h2,h3,h4⟩:=hr;obtain⟨e1,e2⟩:=SE.den_prefix h.ρ h2;exact⟨kk,n,by rw[e1];exact h1,e2,h3,Nat.lt_of_lt_of_le h4 h.nb⟩
 |.dice,q,hr=>by simpa only[RV]using hr
 |.yld _,q,hr=>by simpa only[RV]using hr
 |.own k,q,hr=>by
  simp only[RV]at hr⊢;obtain⟨a,cs,h1,h2,h3⟩:=hr;exact⟨a,cs,h.ar k a h1,h2.mono h h1,by rw[h.ids k a h1];exact h3⟩
 |.eown k x fo,q,hr=>by
  simp only[RV]at hr⊢;obtain⟨a,cs,id,n,kk,h1,h2,h3,h4,h5,h6⟩:=hr;obtain⟨e1,e2⟩:=SE.den_prefix h.ρ h5;exact⟨a,cs,id,n,kk,h.ar k a h1,h2.mono h h1,by rw[h.ids k a h1];exact h3,by rw[e1];exact h4,e2,h6⟩
 |.erow x sz fo,q,hr=>by
  simp only[RV]at hr⊢;obtain⟨cs,off,tl,h1,h2,h3⟩:=hr;obtain⟨e1,e2⟩:=SE.den_prefix h.ρ h2;exact⟨cs,off,tl,by rw[e1];exact h1,e2,h3⟩
 |.sref l fo,q,hr=>by
  simp only[RV]at hr⊢;obtain⟨l',h1,h2⟩:=hr;exact⟨l',RVL.mono h h1,h2⟩
 |.fn f l,q,hr=>by
  simp only[RV]at hr⊢;obtain⟨l',h1,h2⟩:=hr;exact⟨l',h1,RVL.mono h h2⟩
 |.agg l,q,hr=>by
  simp only[RV]at hr⊢;obtain⟨l',h1,h2⟩:=hr;exact⟨l',h1,RVL.mono h h2⟩
 |.tup l,q,hr=>by
  simp only[RV]at hr⊢;obtain⟨l',h1,h2⟩:=hr;exact⟨l',h1,RVT.mono h h2⟩
 |.lit sz len l,q,hr=>by
  simp only[RV]at hr⊢;obtain⟨l',h1,h2,h3⟩:=hr;exact⟨l',h1,RVL.mono h h2,h3⟩
theorem RVL.mono{F:Frm}{E E':Env}(h:E.le E'):∀{l:List SV}{l':List PV},RVL F E l l'->RVL F E' l l'
 |[],l',hr=>by simpa only[RVL]using hr
 |v::vs,l',hr=>by
  simp only[RVL]at hr⊢;obtain⟨q,r,h1,h2,h3,h4⟩:=hr;exact⟨q,r,h1,RV.mono h h2,h3,RVL.mono h h4⟩
theorem RVT.mono{F:Frm}{E E':Env}(h:E.le E'):∀{l:List SV}{l':List PV},RVT F E l l'->RVT F E' l l'
 |[],l',hr=>by simpa only[RVT]using hr
 |v::vs,l',hr=>by
  simp only[RVT]at hr⊢;obtain⟨q,r,h1,h2,h4⟩:=hr;exact⟨q,r,h1,RV.mono h h2,RVT.mono h h4⟩
end
mutual
theorem pe_den{F:Frm}{E:Env}:∀{v:SV}{p:PE}{q:PV},v.pe=some p->RV F E v q->q=p.den E.ρ/\q.plain=true
 |.e x,p,q,hp,hr=>by
  simp only[SV.pe,Option.some.injEq]at hp;subst hp;simp only[RV]at hr;exact⟨hr.1,by rw[hr.1];exact SE.ok_plain hr.2⟩
 |.agg l,p,q,hp,hr=>by
  simp only[SV.pe]at hp;obtain⟨ps,hps,rfl⟩:=Option.map_eq_some_iff.1 hp;simp only[RV]at hr;obtain⟨l',rfl,hl⟩:=hr;obtain⟨e,hc⟩:=peL_den hps hl;exact⟨by rw[e];simp only[PE.den],by simpa only[PV.plain]using hc⟩
 |.tup l,p,q,hp,hr=>by
  simp only[SV.pe]at hp;obtain⟨ps,hps,rfl⟩:=Option.map_eq_some_iff.1 hp;simp only[RV]at hr;obtain⟨l',rfl,hl⟩:=hr;obtain⟨e,hc⟩:=peT_den hps hl;exact⟨by rw[e];simp only[PE.den],by simpa only[PV.plain]using hc⟩
 |.lit sz len l,p,q,hp,hr=>by
  simp only[SV.pe]at hp;obtain⟨ps,hps,rfl⟩:=Option.map_eq_some_iff.1 hp;simp only[RV]at hr;obtain⟨l',rfl,hl,hpl,_⟩:=hr;obtain⟨e,hc⟩:=peL_den hps hl;exact⟨by rw[e];simp only[PE.den],by simpa only[PV.plain]using hpl⟩
 |.fn f l,p,q,hp,hr=>by
  simp only[SV.pe]at hp;obtain⟨ps,hps,rfl⟩:=Option.map_eq_some_iff.1 hp;simp only[RV]at hr;obtain⟨l',rfl,hl⟩:=hr;obtain⟨e,hc⟩:=peL_den hps hl;exact⟨by rw[e];simp only[PE.den],by simpa only[PV.plain]using hc⟩
 |.sref l 0,p,q,hp,hr=>by
  simp only[SV.pe]at hp;obtain⟨ps,hps,rfl⟩:=Option.map_eq_some_iff.1 hp;simp only[RV]at hr;obtain⟨l',hl,hpl,rfl⟩:=hr;obtain⟨e,hc⟩:=peL_den hps hl;exact⟨by rw[e];simp only[PE.den,List.drop_zero],by simpa only[PV.plain,List.drop_zero]using hpl⟩
 |.sref l (n+1),p,q,hp,hr=>by simp[SV.pe]at hp
 |.undef,p,q,hp,hr | .junk,p,q,hp,hr | .ptr _ _,p,q,hp,hr | .hd _ _ _,p,q,hp,hr | .pel _ _ _,p,q,hp,hr | .dice,p,q,hp,hr | .yld _,p,q,hp,hr | .own _,p,q,hp,hr | .eown _ _ _,p,q,hp,hr | .erow _ _ _,p,q,hp,hr=>by simp[SV.pe]at hp
theorem peL_den{F:Frm}{E:Env}:∀{l:List SV}{ps:List PE}{l':List PV},peL l=some ps->RVL F E l l'->l'=denL E.ρ ps/\plainC l'=true
 |[],ps,l',hp,hr=>by
  simp only[peL,Option.some.injEq]at hp;simp only[RVL]at hr;subst hp;subst hr;exact⟨rfl,rfl⟩
 |v::vs,ps,l',hp,hr=>by
  simp only[peL]at hp;split at hp
  ·rename_i p ps' h1 h2;injection hp with hp;subst hp;simp only[RVL]at hr;obtain⟨q,r,rfl,h3,h4,h5⟩:=hr;obtain⟨e1,e2⟩:=pe_den h1 h3;obtain⟨e3,e4⟩:=peL_den h2 h5;have hone:q.one=true:=by
    rcases h4 with rfl|h4
    ·simp[SV.pe]at h1
    ·exact h4
   exact⟨by simp only[denL,←e1,←e3],by simp[plainC,e2,e4,hone]⟩
  ·cases hp
theorem peT_den{F:Frm}{E:Env}:∀{l:List SV}{ps:List PE}{l':List PV},peL l=some ps->RVT F E l l'->l'=denL E.ρ ps/\plainT l'=true
 |[],ps,l',hp,hr=>by
  simp only[peL,Option.some.injEq]at hp;simp only[RVT]at hr;subst hp;subst hr;exact⟨rfl,rfl⟩
 |v::vs,ps,l',hp,hr=>by
  simp only[peL]at hp;split at hp
  ·rename_i p ps' h1 h2;injection hp with hp;subst hp;simp only[RVT]at hr;obtain⟨q,r,rfl,h3,h5⟩:=hr;obtain⟨e1,e2⟩:=pe_den h1 h3;obtain⟨e3,e4⟩:=peT_den h2 h5;exact⟨by simp only[denL,←e1,←e3],by simp[plainT,e2,e4]⟩
  ·cases hp
end
end
end Go.Proofs.Ytjfejoadcdoobaa
