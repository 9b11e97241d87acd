/- Part of the proof of TopTwins. No condition. -/
import Derived.Test.YtjfejoadcdoobaaMTopTwinsAH
namespace Go.Proofs.Ytjfejoadcdoobaa
set_option maxRecDepth 100000
set_option linter.all false
section
open Go Go.RowKit
variable[Sp]
mutual
def PV.frz(id:Nat):PV->PV
 |.sl (some i) sz off len cs=>.sl (if i=id then none else some i) sz off len (frzL id cs)
 |.sl none sz off len cs=>.sl none sz off len (frzL id cs)
 |.eref (some i) off cs=>.eref (if i=id then none else some i) off (frzL id cs)
 |.eref none off cs=>.eref none off (frzL id cs)
 |.fn f cs=>.fn f (frzL id cs)
 |.agg cs=>.agg (frzL id cs)
 |.tup cs=>.tup (frzL id cs)
 |.ptr i o=>.ptr i o
 |.hd i o z=>.hd i o z
 |.int k m=>.int k m
 |.bool b=>.bool b
 |.str s=>.str s
 |.undef=>.undef
 |.bad=>.bad
 |.nilp=>.nilp
 |.nilfn=>.nilfn
 |.snil=>.snil
 |.dead k=>.dead k
 |.yld k=>.yld k
 |.mp it none sz cs=>.mp it none sz cs
 |.mp it (some i) sz cs=>.mp it (if i=id then none else some i) sz cs
def frzL(id:Nat):List PV->List PV
 |[]=>[]
 |p::ps=>p.frz id::frzL id ps
end
theorem frzL_eq(id:Nat)(l:List PV):frzL id l=l.map (PV.frz id):=by
 induction l with
 |nil=>rfl
 |cons p ps ih=>simp[frzL,ih]
def Phi.drop(φ:Phi)(id:Nat):Phi:={ box:=φ.box,arr:=λi=>if i=id then none else φ.arr i }
section
variable{φ:Phi}{w:World}{m:Mem}{id:Nat}
theorem keepsBut_drop:KeepsBut id φ w (φ.drop id) w:=
 ⟨λ_ _ h=>h,λi b hi h=>by simp[Phi.drop,hi,h],λb _ ho k=>ho (by
  rcases k with⟨i,h⟩|⟨i,h⟩
  ·exact .inl ⟨i,h⟩
  ·simp only[Phi.drop]at h;split at h
   ·cases h
   ·exact .inr ⟨i,h⟩),Nat.le_refl _,λ_ _ _ _=>rfl,λ_ _ _=>rfl⟩
theorem own_drop{b:Nat}(h:(φ.drop id).own b):φ.own b:=by
 rcases h with⟨i,h⟩|⟨i,h⟩
 ·exact .inl ⟨i,h⟩
 ·simp only[Phi.drop]at h;split at h
  ·cases h
  ·exact .inr ⟨i,h⟩
theorem place_drop_none{b sz off cap:Nat}(h:place φ w none b sz off cap):place (φ.drop id) w none b sz off cap:=⟨λk=>h.1 (own_drop k),h.2⟩
theorem place_drop(hm:MRel φ m w){i b sz off cap:Nat}(h:place φ w (some i) b sz off cap):place (φ.drop id) w (if i=id then none else some i) b sz off cap:=by
 by_cases hi:i=id
 ·rw[if_pos hi];refine⟨λho=>?_,arr_lt hm h.1⟩;rcases ho with⟨j,hj⟩|⟨j,hj⟩
  ·exact hm.sep j i b hj h.1
  ·simp only[Phi.drop]at hj;split at hj
   ·cases hj
   ·rename_i hne;exact hne ((hm.arrinj j i b hj h.1).trans hi)
 ·rw[if_neg hi];exact⟨by simp[Phi.drop,hi,h.1],h.2⟩
mutual
theorem VRel.frz(hm:MRel φ m w):∀(q:PV)(c:Value),VRel φ w q c->VRel (φ.drop id) w (q.frz id) c
 |.int _ _,c,h | .bool _,c,h | .str _,c,h | .undef,c,h | .bad,c,h | .nilp,c,h | .nilfn,c,h | .snil,c,h | .dead _,c,h | .yld _,c,h=>by simp only[VRel,PV.frz]at h⊢<;>exact h
 |.ptr i o,c,h=>by
  simp only[VRel,PV.frz]at h⊢;exact h
 |.hd i o z,c,h=>by
  simp only[VRel,PV.frz]at h⊢;exact h
 |.sl none sz off len cs,c,h=>by
  simp only[VRel,PV.frz]at h⊢;obtain⟨hl,a,cap,hv,hc,h⟩:=h;refine⟨by rw[frzL_eq,List.length_map];exact hl,a,cap,hv,hc,?_⟩;rcases h with h|⟨b,hab,hp,hr⟩
  ·exact .inl h
  ·exact .inr ⟨b,hab,place_drop_none hp,VRelAt.frz hm b cs off hr⟩
 |.sl (some i) sz off len cs,c,h=>by
  simp only[VRel,PV.frz]at h⊢;obtain⟨hl,a,cap,hv,hc,h⟩:=h;refine⟨by rw[frzL_eq,List.length_map];exact hl,a,cap,hv,hc,?_⟩;rcases h with h|⟨b,hab,hp,hr⟩
  ·exact absurd h.1 (by simp)
  ·exact .inr ⟨b,hab,place_drop hm hp,VRelAt.frz hm b cs off hr⟩
 |.eref none off cs,c,h=>by
  simp only[VRel,PV.frz]at h⊢;obtain⟨b,hab,hp,hr⟩:=h;exact⟨b,hab,place_drop_none hp,VRelAt.frz hm b cs off hr⟩
 |.eref (some i) off cs,c,h=>by
  simp only[VRel,PV.frz]at h⊢;obtain⟨b,hab,hp,hr⟩:=h;exact⟨b,hab,place_drop hm hp,VRelAt.frz hm b cs off hr⟩
 |.fn f cs,c,h=>by
  simp only[VRel,PV.frz]at h⊢;obtain⟨vs,h1,h2⟩:=h;exact⟨vs,h1,VRelL.frz hm cs vs h2⟩
 |.agg cs,c,h=>by
  simp only[VRel,PV.frz]at h⊢;obtain⟨vs,h1,h2⟩:=h;exact⟨vs,h1,VRelL.frz hm cs vs h2⟩
 |.tup cs,c,h=>by
  simp only[VRel,PV.frz]at h⊢;obtain⟨vs,h1,h2⟩:=h;exact⟨vs,h1,VRelL.frz hm cs vs h2⟩
 |.mp it none sz cs,c,h=>by
  simp only[VRel,PV.frz]at h⊢;exact h.move (λb o hp hh _ _ _=>⟨λk=>hp (own_drop k),hh⟩) λb o hp hh _ _ _=>⟨λk=>hp (own_drop k),hh⟩
 |.mp it (some i) sz cs,c,h=>by
  simp only[VRel,PV.frz]at h⊢;refine h.move (λb o hp hh _ _ _=>⟨?_,hh⟩) λb o hp hh _ _ _=>⟨λk=>hp (own_drop k),hh⟩;simp only[mplace]at hp;by_cases hi:i=id
  ·simp only[hi,if_true,mplace];rintro(⟨j,hj⟩|⟨j,hj⟩)
   ·exact hm.sep j i b hj hp
   ·simp only[Phi.drop]at hj;split at hj
    ·cases hj
    ·rename_i hne;exact hne ((hm.arrinj j i b hj hp).trans hi)
  ·simp[hi,mplace,Phi.drop,hp]
theorem VRelL.frz(hm:MRel φ m w):∀(l:List PV)(vs:List Value),VRelL φ w l vs->VRelL (φ.drop id) w (frzL id l) vs
 |[],vs,h=>by simp only[VRelL,frzL]at h⊢;exact h
 |p::ps,vs,h=>by
  simp only[VRelL,frzL]at h⊢;obtain⟨v,vs',e,h0,h1⟩:=h;exact⟨v,vs',e,VRel.frz hm p v h0,VRelL.frz hm ps vs' h1⟩
theorem VRelAt.frz(hm:MRel φ m w)(b:Nat):∀(l:List PV)(off:Nat),VRelAt φ w b l off->VRelAt (φ.drop id) w b (frzL id l) off
 |[],_,_=>by simp only[VRelAt,frzL]
 |p::ps,off,h=>by
  simp only[VRelAt,frzL]at h⊢;obtain⟨⟨c,hc,h0⟩,h1⟩:=h;exact⟨⟨c,hc,VRel.frz hm p c h0⟩,VRelAt.frz hm b ps (off+1) h1⟩
end
end
def BoxC.frz(id:Nat):BoxC->BoxC
 |.cells l=>.cells (l.map (PV.frz id))
 |.inv I=>.inv I
 |.hole=>.hole
def St.freeze(s:St)(id:Nat):St:={ s with g:=λt=>(s.g t).frz id,m:={ s.m with β:=λi=>(s.m.β i).frz id },eff:=addEff s.a0.a s.eff [.kill id] }
theorem silent_freeze(s:St)(id:Nat):Silent s (s.freeze id):=by
 refine⟨rfl,λφ w N a A hs ha hA=>⟨φ.drop id,⟨λt=>VRel.frz hs.mem _ _ (hs.tmp t),hs.size,?_⟩,?_⟩⟩
 ·have hm:=hs.mem;refine⟨λi hi=>?_,hm.boxn,λi b h=>?_,hm.boxinj,λi j b h1 h2=>?_,λi j b h1 h2=>?_,hm.rcs⟩
  ·rcases hm.box i hi with⟨g1,g2⟩|⟨b,cs,e,hb,hh,hr⟩
   ·exact .inl ⟨by simp[St.freeze,BoxC.frz,g1],g2⟩
   ·refine .inr ⟨b,cs,e,hb,hh,?_⟩;cases hc:s.m.β i with
    |cells l=>
     rw[hc]at hr;simp only[St.freeze,hc,BoxC.frz,BRel];rw[←frzL_eq];exact VRelL.frz hm l _ hr
    |inv I=>
     rw[hc]at hr;simp only[St.freeze,hc,BoxC.frz];obtain⟨l,h1,h2,h3,h4⟩:=hr;refine⟨l,h1,h2,h3,?_⟩;have:=VRelL.kill (keepsBut_drop (φ:=φ) (w:=w) (id:=id)) l _ h4;rwa[h2]at this
    |hole=>rw[hc]at hr;exact hr.elim
  ·simp only[Phi.drop]at h;split at h
   ·cases h
   ·exact hm.arr i b h
  ·simp only[Phi.drop]at h1 h2;split at h1<;>first|(cases h1;done)|skip
   split at h2<;>first|(cases h2;done)|skip
   exact hm.arrinj i j b h1 h2
  ·simp only[Phi.drop]at h2;split at h2<;>first|(cases h2;done)|skip
   exact hm.sep i j b h1 h2
 ·have hst:Step φ w (φ.drop id) w [.kill id]:=⟨λq c h=>VRel.kill keepsBut_drop q c h,rfl,rfl,Nat.le_refl _,λb _ ho _=>⟨rfl,λk=>ho (own_drop k)⟩⟩;exact Anch.add hA.1 (ha.trans hst)
def St.veil(s:St)(i:Nat)(I:List PV->Prop):St:={ s with m:={ s.m with β:=updB s.m.β i (.inv I) } }
end
section
open Go Go.RowKit
variable[Sp]
mutual
def PV.plain:PV->Bool
 |.int _ _ | .bool _ | .str _ | .nilp | .nilfn | .snil=>true
 |.sl none _ _ _ cs=>plainC cs
 |.eref none _ cs=>plainC cs
 |.fn _ cs=>plainC cs
 |.agg cs=>plainC cs
 |.tup cs=>plainT cs
 |.mp _ none _ _=>true
 |_=>false
def plainC:List PV->Bool
 |[]=>true
 |p::ps=>p.plain&&p.one&&plainC ps
def plainT:List PV->Bool
 |[]=>true
 |p::ps=>p.plain&&plainT ps
end
inductive SE where
 |var (i:Nat)
 |proj (e:SE) (j:Nat)
 |cst (v:PV)
 deriving Inhabited
def projV(v:PV)(j:Nat):PV:=match v with
 |.agg cs=>cs.getD j .bad
 |_=>.bad
def SE.den(ρ:List PV):SE->PV
 |.var i=>ρ.getD i .bad
 |.proj e j=>projV (e.den ρ) j
 |.cst v=>v
inductive BN where
 |real
 |nil0
 |dyn (x:SE)
 |map
 |it
 |tab (sc:Bool)
 |sit
 deriving Inhabited
inductive PE where
 |e (x:SE)
 |agg (l:List PE)
 |tup (l:List PE)
 |lit (sz len:Nat) (l:List PE)
 |fn (f:FuncId) (l:List PE)
 |ref (l:List PE)
 deriving Inhabited
mutual
def PE.den(ρ:List PV):PE->PV
 |.e x=>x.den ρ
 |.agg l=>.agg (denL ρ l)
 |.tup l=>.tup (denL ρ l)
 |.lit sz len l=>.sl none sz 0 len (denL ρ l)
 |.fn f l=>.fn f (denL ρ l)
 |.ref l=>.eref none 0 (denL ρ l)
def denL(ρ:List PV):List PE->List PV
 |[]=>[]
 |x::l=>x.den ρ::denL ρ l
end
inductive Prim where
 |bin (op:BinOp) (t:TypeId) (x y:PE)
 |un (op:UnOp) (x:PE)
 |conv (src dst:TypeId) (x:PE)
 |ext (x:PE) (i:Nat)
 |agg (n:Nat) (x:PE)
 |one (x:PE)
 |row (sz:Nat) (x i:PE)
 |idx (t:TypeId) (x i:PE)
 |len (t:TypeId) (x:PE)
 |slice (t:TypeId) (x:PE) (lo hi:Option PE)
 |mm (max:Bool) (l:List PE)
 |lst (l:List PE)
 |mk (z:List PV) (bytes:Nat) (n:PE)
 |chk (sz:Nat) (c:SE) (i:PE)
 |get (sz fo n:Nat) (c i:SE)
 |put (sz fo:Nat) (c i:SE) (l:List PE)
 |push (sz bytes:Nat) (c:SE) (y:PE)
 |lenc (sz:Nat) (c:SE)
 |frz (sz:Nat) (born:BN) (c:SE)
 |deref (n:Nat) (x:PE)
 |cont (real:Bool) (sz:Nat) (x:PE)
 |isnil (x:PE)
 |ints (x:PE)
 |ins (kt:TypeId) (sz:Nat) (c:SE) (l:List PE)
 |keys (sz:Nat) (x:PE)
 |lk (sz:Nat) (c:SE)
 |tl (c:SE)
 |srt (c:SE)
 |cpt (b:BN) (c:SE)
 |aoff (fo len sz:Nat) (x i:PE)
 |tset (t:TypeId) (sc:Bool) (sz:Nat) (c:SE) (k v:PE)
 |tget (t:TypeId) (sc ok:Bool) (sz:Nat) (c:SE) (k:PE)
 |tgetf (t:TypeId) (sc ok:Bool) (x k:PE)
 |siter (x:PE)
 |snx (c:SE)
 deriving Inhabited
def extV(x:PV)(i:Nat):Option PV:=match x with
 |.tup vs=>vs[i]?
 |_=>none
def aggV(n:Nat)(x:PV):Option PV:=match x with
 |.agg cs=>if cs.length=n then some x else none
 |_=>none
def oneV(x:PV):Option PV:=if x.one=true then some x else none
def rowV(sz:Nat)(x i:PV):Option PV:=match x,i with
 |.sl none sz' _ len cs,.int _ n=>if 0<=n/\n<(len:Int)/\sz'=sz/\((cs.drop (n.toNat*sz)).take sz).length=sz then some (.agg ((cs.drop (n.toNat*sz)).take sz))else none
 |_,_=>none
def mmV(mx:Bool)(l:List PV):Option PV:=if mx=true then aMax l else aMin l
def mkV(z:List PV)(bytes:Nat)(n:PV):Option PV:=match n with
 |.int .i64 k=>if 0<=k/\k*bytes<=140737488355328/\k<=9223372036854775807 then some (.agg (repl z k.toNat))else none
 |_=>none
def chkV(sz:Nat)(c i:PV):Option PV:=match c,i with
 |.agg cs,.int k n=>if 0<=n/\n.toNat<cs.length/sz then some (.int k n)else none
 |_,_=>none
def getV(sz fo n:Nat)(c i:PV):Option PV:=match c,i with
 |.agg cs,.int _ k=>if n=((cs.drop (k.toNat*sz+fo)).take n).length then some (.agg ((cs.drop (k.toNat*sz+fo)).take n))else none
 |_,_=>none
def putV(sz fo:Nat)(c i:PV)(l:List PV):Option PV:=match c,i with
 |.agg cs,.int _ k=>if k.toNat*sz+fo+l.length<=cs.length then some (.agg (splice cs (k.toNat*sz+fo) l))else none
 |_,_=>none
def pushV(sz bytes:Nat)(c y:PV):Option PV:=match c,aTail sz y with
 |.agg cs,some (m,news)=>if news.length=m*sz/\(cs.length/sz+m)*bytes<=140737488355328/\cs.length/sz+m<=9223372036854775807 then some (.agg (cs++news))else none
 |_,_=>none
def lencV(sz:Nat)(c:PV):Option PV:=match c with
 |.agg cs=>some (.int .i64 (cs.length/sz:Nat))
 |_=>none
def isNil(ρ:List PV)(b:BN)(cs:List PV):Option Bool:=match b with
 |.real=>some false
 |.nil0=>some (match cs with | []=>true|_=>false)
 |.dyn x=>match x.den ρ with
  |.bool true=>match cs with
   |[]=>some true
   |_=>none
  |.bool false=>some false
  |_=>none
 |.map=>some false
 |.it=>some false
 |.tab _=>some false
 |.sit=>some false
def insV(P:Program)(kt:TypeId)(sz:Nat)(c:PV)(l:List PV):Option PV:=match c with
 |.agg cs=>if 0<sz/\l.length=sz/\fitKeys P kt sz cs=true/\fitKey P kt l=true then some (.agg (insC sz cs l))else none
 |_=>none
def keysV(sz:Nat)(x:PV):Option PV:=match x with
 |.mp .set none sz' cs=>if sz'=sz/\0<sz/\plainC cs=true/\cs.length=cs.length/sz*sz then some (.agg (repl [.nilp] sz++cs))else none
 |_=>none
def lkV(sz:Nat)(c:PV):Option PV:=match c with
 |.agg cs=>if 0<sz/\(keyVal (cs.take sz)).isSome=true/\(cs.take sz).length=sz then some (.agg (cs.take sz))else none
 |_=>none
def tlV(c:PV):Option PV:=match c with
 |.agg (_::cs)=>some (.agg cs)
 |_=>none
def pickN(sz:Nat)(cs:List PV):Nat:=(cs.drop sz).length/sz
def pickV(sz:Nat)(cs:List PV)(i:Nat):PV:=
 if pickN sz cs=0 then .agg [.bool false]else .agg (.bool true::(chunk sz (cs.drop sz) (i%pickN sz cs)++dropK sz (cs.drop sz) (i%pickN sz cs)))
def frzV(ρ:List PV)(sz:Nat)(b:BN)(c:PV):Option PV:=match c with
 |.agg cs=>match isNil ρ b cs with
  |some true=>some .snil
  |some false=>match b with
   |.map=>some (.mp .set none sz cs)
   |.tab sc=>some (.mp (.tab sc) none sz cs)
   |.it=>none
   |.sit=>none
   |_=>some (.sl none sz 0 (cs.length/sz) cs)
  |none=>none
 |_=>none
def isnilV(x:PV):Option PV:=match x with
 |.snil=>some (.bool true)
 |.sl none _ _ _ _=>some (.bool false)
 |_=>none
def intB(c:PV):Bool:=match c with
 |.int .i64 _=>true
 |_=>false
def intsB(x:PV):Bool:=match x with
 |.snil=>true
 |.sl none 1 _ len cs=>decide (cs.length=len)&&cs.all intB
 |_=>false
def intsV(x:PV):Option PV:=if intsB x=true then some x else none
def toI:PV->Int
 |.int _ n=>n
 |_=>0
def sortP(cs:List PV):List PV:=((cs.map toI).mergeSort λx y=>decide (x<=y)).map (PV.int .i64)
def cmpGo(p:Int):List Int->List Int
 |[]=>[]
 |y::ys=>if y=p then cmpGo p ys else y::cmpGo y ys
def cmpI:List Int->List Int
 |[]=>[]
 |x::xs=>x::cmpGo x xs
def compP(cs:List PV):List PV:=(cmpI (cs.map toI)).map (PV.int .i64)
def srtV(c:PV):Option PV:=match c with
 |.agg cs=>if cs.all intB=true/\cs.length<1099511627776 then some (.agg (sortP cs))else none
 |_=>none
def cptV(ρ:List PV)(b:BN)(c:PV):Option PV:=match c with
 |.agg cs=>if cs.all intB=true/\cs.length<1099511627776 then(match isNil ρ b cs with
  |some true=>some .snil
  |some false=>some (.sl none 1 0 (compP cs).length (compP cs))
  |none=>none)else none
 |_=>none
def aoffV(fo len sz:Nat)(x i:PV):Option PV:=match x,i with
 |.int _ a,.int _ n=>if 0<=n/\n<(len:Int)then some (.int .i64 ((a.toNat+fo+n.toNat*sz:Nat):Int))else none
 |_,_=>none
def tsetV(P:Program)(t:TypeId)(sc:Bool)(sz:Nat)(c k v:PV):Option PV:=match c with
 |.agg cs=>if 1<sz/\cs.length=cs.length/sz*sz then(match aTabSet P t sc sz cs k v with
  |some cs'=>if plainC cs'=true/\cs'.length=cs'.length/sz*sz then some (.agg cs')else none
  |none=>none)else none
 |_=>none
def tgetV(P:Program)(t:TypeId)(sc ok:Bool)(sz:Nat)(c k:PV):Option PV:=match c with
 |.agg cs=>match aTabGet P t sc sz cs k ok with
  |some v=>if v.plain=true then some v else none
  |none=>none
 |_=>none
def tgetfV(P:Program)(t:TypeId)(sc ok:Bool)(x k:PV):Option PV:=match x with
 |.mp (.tab sc') none sz cs=>if sc'=sc then(match aTabGet P t sc sz cs k ok with
  |some v=>if v.plain=true then some v else none
  |none=>none)else none
 |_=>none
def siterV(x:PV):Option PV:=match x with
 |.str s=>some (.agg [.str s,.int .i64 0])
 |_=>none
def snxV(c:PV):Option PV:=match c with
 |.agg [.str s,.int .i64 pos]=>if 0<=pos then(if pos.toNat<s.size then some (.agg [.bool true,.int .i64 pos,.int .i32 (Utf8.decode s pos.toNat).1,.str s,.int .i64 ((pos.toNat+(Utf8.decode s pos.toNat).2:Nat):Int)])else some (.agg [.bool false]))else none
 |_=>none
def contV(real:Bool)(sz:Nat)(x:PV):Option PV:=match x with
 |.snil=>if real=true then none else some (.agg [])
 |.sl none sz' 0 len cs=>if sz'=sz/\cs.length=len*sz then some (.agg cs)else none
 |_=>none
def derefV(n:Nat)(x:PV):Option PV:=match x with
 |.eref none _ cs=>if n=(cs.take n).length then some (.agg (cs.take n))else none
 |_=>none
def Prim.run(P:Program)(ρ:List PV):Prim->Option PV
 |.bin op t x y=>aBin P op t (x.den ρ) (y.den ρ)
 |.un op x=>aUn op (x.den ρ)
 |.conv s d x=>aConv P s d (x.den ρ)
 |.ext x i=>extV (x.den ρ) i
 |.agg n x=>aggV n (x.den ρ)
 |.one x=>oneV (x.den ρ)
 |.row sz x i=>rowV sz (x.den ρ) (i.den ρ)
 |.idx t x i=>aIndex P t (x.den ρ) (i.den ρ)
 |.len t x=>aLen P t (x.den ρ)
 |.slice t x lo hi=>aSlice P t (x.den ρ) (lo.map (PE.den ρ)) (hi.map (PE.den ρ))
 |.mm mx l=>mmV mx (denL ρ l)
 |.lst l=>some (.agg (denL ρ l))
 |.mk z b n=>mkV z b (n.den ρ)
 |.chk sz c i=>chkV sz (c.den ρ) (i.den ρ)
 |.get sz fo n c i=>getV sz fo n (c.den ρ) (i.den ρ)
 |.put sz fo c i l=>putV sz fo (c.den ρ) (i.den ρ) (denL ρ l)
 |.push sz b c y=>pushV sz b (c.den ρ) (y.den ρ)
 |.lenc sz c=>lencV sz (c.den ρ)
 |.frz sz b c=>frzV ρ sz b (c.den ρ)
 |.deref n x=>derefV n (x.den ρ)
 |.cont r sz x=>contV r sz (x.den ρ)
 |.isnil x=>isnilV (x.den ρ)
 |.ints x=>intsV (x.den ρ)
 |.ins kt sz c l=>insV P kt sz (c.den ρ) (denL ρ l)
 |.keys sz x=>keysV sz (x.den ρ)
 |.lk sz c=>lkV sz (c.den ρ)
 |.tl c=>tlV (c.den ρ)
 |.srt c=>srtV (c.den ρ)
 |.cpt b c=>cptV ρ b (c.den ρ)
 |.aoff fo m sz x i=>aoffV fo m sz (x.den ρ) (i.den ρ)
 |.tset t sc sz c k v=>tsetV P t sc sz (c.den ρ) (k.den ρ) (v.den ρ)
 |.tget t sc ok sz c k=>tgetV P t sc ok sz (c.den ρ) (k.den ρ)
 |.tgetf t sc ok x k=>tgetfV P t sc ok (x.den ρ) (k.den ρ)
 |.siter x=>siterV (x.den ρ)
 |.snx c=>snxV (c.den ρ)
inductive Tree where
 |ret (v:PE)
 |jump (L:Nat) (l:List PE)
 |prim (p:Prim) (t:Tree)
 |ite (c:SE) (a b:Tree)
 |call (g:FuncId) (args:List PE) (t:Tree)
 |callv (f:SE) (args:List PE) (t:Tree)
 |pick (sz:Nat) (c:SE) (t:Tree)
 |loop (L:Nat) (init:List PE) (body:Tree)
 |join (L:Nat) (body k:Tree)
 |die
 deriving Inhabited
inductive Out where
 |val (v:PV)
 |jump (L:Nat) (l:List PV)
abbrev Orc:=List Bool->Nat
def Orc.l(ω:Orc):Orc:=λp=>ω (false::p)
def Orc.r(ω:Orc):Orc:=λp=>ω (true::p)
def Orc.mk(a b:Orc):Orc:=λp=>match p with
 |false::p=>a p
 |true::p=>b p
 |[]=>0
@[simp]theorem Orc.mk_l(a b:Orc):(Orc.mk a b).l=a:=rfl
@[simp]theorem Orc.mk_r(a b:Orc):(Orc.mk a b).r=b:=rfl
def iter(step:Orc->List PV->Option Out)(L:Nat):Nat->Orc->List PV->Option Out
 |0,_,_=>none
 |k+1,ω,vs=>match step ω.l vs with
  |some (.jump L' vs')=>if L'=L then iter step L k ω.r vs' else some (.jump L' vs')
  |o=>o
def eval(P:Program)(C:Orc->FuncId->List PV->Option PV)(n:Nat):Tree->Orc->List PV->Option Out
 |.ret v,_,ρ=>some (.val (v.den ρ))
 |.jump L l,_,ρ=>some (.jump L (denL ρ l))
 |.prim p t,ω,ρ=>match p.run P ρ with
  |some v=>eval P C n t ω (ρ++[v])
  |none=>none
 |.ite c a b,ω,ρ=>match c.den ρ with
  |.bool true=>eval P C n a ω ρ
  |.bool false=>eval P C n b ω ρ
  |_=>none
 |.call g args t,ω,ρ=>match C ω.l g (denL ρ args)with
  |some v=>eval P C n t ω.r (ρ++[v])
  |none=>none
 |.callv f args t,ω,ρ=>match f.den ρ with
  |.fn g caps=>match C ω.l (fnG g) (fnA g (denL ρ args) caps)with
   |some v=>eval P C n t ω.r (ρ++[v])
   |none=>none
  |_=>none
 |.pick sz c t,ω,ρ=>match c.den ρ with
  |.agg cs=>eval P C n t ω.r (ρ++[pickV sz cs (ω.l [])])
  |_=>none
 |.loop L init body,ω,ρ=>iter (λω vs=>eval P C n body ω (ρ++vs)) L n ω (denL ρ init)
 |.join L body k,ω,ρ=>match eval P C n body ω.l ρ with
  |some (.jump L' vs)=>if L'=L then eval P C n k ω.r (ρ++vs)else some (.jump L' vs)
  |o=>o
 |.die,_,_=>none
inductive SV where
 |e (x:SE)
 |undef
 |junk
 |ptr (i off:Nat)
 |hd (i sz len:Nat)
 |pel (b:Nat) (x:SE) (fo:Nat)
 |dice
 |yld (y:Nat)
 |own (k:Nat)
 |eown (k:Nat) (x:SE) (fo:Nat)
 |erow (x:SE) (sz fo:Nat)
 |sref (l:List SV) (fo:Nat)
 |fn (f:FuncId) (caps:List SV)
 |agg (l:List SV)
 |tup (l:List SV)
 |lit (sz len:Nat) (l:List SV)
 deriving Inhabited
inductive BX where
 |cells (l:List SV)
 |dice
 |gone
 deriving Inhabited
structure AR where
 sz:Nat
 born:BN
 c:SE
 deriving Inhabited
def getA:List (Nat×SV)->Nat->SV
 |[],_=>.junk
 |(d,v)::l,t=>if Nat.beq d t then v else getA l t
def mapA(f:SV->SV)(l:List (Nat×SV)):List (Nat×SV):=l.map λp=>(p.1,f p.2)
structure YS where
 g:List (Nat×SV)
 f:FuncId
 ps:List Nat
 asg:Code
 body:Code
 p:Nat
 pend:Option (Option Nat)
 busy:Bool
 deriving Inhabited
structure Sym where
 g:List (Nat×SV)
 bx:List BX
 ar:List (Option AR)
 ys:List YS
 nv:Nat
 kn:List Nat
 lv:Nat
 site:Nat
 base:Nat
 bbase:Nat
 eff:Bool
 deriving Inhabited
end
section
open Go Go.RowKit
variable[Sp]
def pvB:PV->PV->Bool
 |.int k a,.int k' b=>decide (k=k')&&decide (a=b)
 |.bool a,.bool b=>a==b
 |.str a,.str b=>decide (a.data=b.data)
 |.snil,.snil=>true
 |.nilp,.nilp=>true
 |.nilfn,.nilfn=>true
 |.agg [],.agg []=>true
 |_,_=>false
def SE.b:SE->SE->Bool
 |.var i,.var j=>decide (i=j)
 |.proj x i,.proj y j=>decide (i=j)&&x.b y
 |.cst v,.cst u=>pvB v u
 |_,_=>false
def BN.b:BN->BN->Bool
 |.real,.real=>true
 |.nil0,.nil0=>true
 |.dyn x,.dyn y=>x.b y
 |.map,.map=>true
 |.it,.it=>true
 |.tab a,.tab b=>a==b
 |.sit,.sit=>true
 |_,_=>false
def BN.still:BN->Bool
 |.dyn _=>false
 |.map | .it | .tab _ | .sit=>false
 |_=>true
def BN.lst:BN->Bool
 |.map | .it | .tab _ | .sit=>false
 |_=>true
def BN.isMap:BN->Bool
 |.map=>true
 |_=>false
def BN.isIt:BN->Bool
 |.it=>true
 |_=>false
mutual
def SV.b:SV->SV->Bool
 |.e x,.e y=>x.b y
 |.undef,.undef=>true
 |.ptr i o,.ptr j p=>decide (i=j)&&decide (o=p)
 |.hd i o z,.hd j p y=>decide (i=j)&&decide (o=p)&&decide (z=y)
 |.pel a x fo,.pel b y fp=>decide (a=b)&&x.b y&&decide (fo=fp)
 |.dice,.dice=>true
 |.yld a,.yld b=>decide (a=b)
 |.own k,.own j=>decide (k=j)
 |.eown k x fo,.eown j y fp=>decide (k=j)&&x.b y&&decide (fo=fp)
 |.erow x s fo,.erow y t fp=>x.b y&&decide (s=t)&&decide (fo=fp)
 |.sref l a,.sref m b=>decide (a=b)&&svLB l m
 |.fn f l,.fn g m=>decide (f=g)&&svLB l m
 |.agg l,.agg m=>svLB l m
 |.tup l,.tup m=>svLB l m
 |.lit a b l,.lit c d m=>decide (a=c)&&decide (b=d)&&svLB l m
 |_,_=>false
def svLB:List SV->List SV->Bool
 |[],[]=>true
 |x::l,y::m=>x.b y&&svLB l m
 |_,_=>false
end
mutual
def SV.pe:SV->Option PE
 |.e x=>some (.e x)
 |.agg l=>(peL l).map .agg
 |.tup l=>(peL l).map .tup
 |.lit sz len l=>(peL l).map (.lit sz len)
 |.fn f l=>(peL l).map (.fn f)
 |.sref l 0=>(peL l).map .ref
 |_=>none
def peL:List SV->Option (List PE)
 |[]=>some []
 |x::l=>match x.pe,peL l with
  |some p,some ps=>some (p::ps)
  |_,_=>none
end
mutual
def SV.owns:SV->List Nat
 |.own k=>[k+k]
 |.eown k _ _=>[k+k]
 |.ptr i _=>[i+i+1]
 |.hd i _ _=>[i+i+1]
 |.pel i _ _=>[i+i+1]
 |.agg l=>ownsL l
 |.tup l=>ownsL l
 |.lit _ _ l=>ownsL l
 |.fn _ l=>ownsL l
 |.sref l _=>ownsL l
 |_=>[]
def ownsL:List SV->List Nat
 |[]=>[]
 |x::l=>x.owns++ownsL l
end
mutual
def SV.stand(i:Nat)(l:List SV):SV->SV
 |.ptr j o=>if j=i then .sref l o else .ptr j o
 |.hd j o z=>if j=i then(if l.length=z*o then .lit o z l else .junk)else .hd j o z
 |.pel j x fo=>if j=i then .junk else .pel j x fo
 |.fn f m=>.fn f (standL i l m)
 |.agg m=>.agg (standL i l m)
 |.tup m=>.tup (standL i l m)
 |.lit a b m=>.lit a b (standL i l m)
 |.sref m o=>.sref (standL i l m) o
 |.own k=>.own k
 |.eown k x fo=>.eown k x fo
 |.e y=>.e y
 |.undef=>.undef
 |.junk=>.junk
 |.dice=>.dice
 |.yld a=>.yld a
 |.erow y s fo=>.erow y s fo
def standL(i:Nat)(l:List SV):List SV->List SV
 |[]=>[]
 |v::m=>v.stand i l::standL i l m
end
mutual
def SV.frz(k:Nat)(x:SE):SV->SV
 |.own j=>if j=k then .e x else .own j
 |.eown j i fo=>if j=k then .junk else .eown j i fo
 |.fn f l=>.fn f (frzSL k x l)
 |.sref l o=>.sref (frzSL k x l) o
 |.agg l=>.agg (frzSL k x l)
 |.tup l=>.tup (frzSL k x l)
 |.lit a b l=>.lit a b (frzSL k x l)
 |.e y=>.e y
 |.undef=>.undef
 |.junk=>.junk
 |.ptr i o=>.ptr i o
 |.hd i o z=>.hd i o z
 |.pel b x fo=>.pel b x fo
 |.dice=>.dice
 |.yld a=>.yld a
 |.erow y s fo=>.erow y s fo
def frzSL(k:Nat)(x:SE):List SV->List SV
 |[]=>[]
 |v::l=>v.frz k x::frzSL k x l
end
mutual
def SV.hitS(k:Nat)(all:Bool):SV->SV
 |.own j=>if j=k/\all=true then .junk else .own j
 |.eown j i fo=>if j=k then .junk else .eown j i fo
 |.fn f l=>.fn f (hitSL k all l)
 |.sref l o=>.sref (hitSL k all l) o
 |.agg l=>.agg (hitSL k all l)
 |.tup l=>.tup (hitSL k all l)
 |.lit a b l=>.lit a b (hitSL k all l)
 |.e y=>.e y
 |.undef=>.undef
 |.junk=>.junk
 |.ptr i o=>.ptr i o
 |.hd i o z=>.hd i o z
 |.pel b x fo=>.pel b x fo
 |.dice=>.dice
 |.yld a=>.yld a
 |.erow y s fo=>.erow y s fo
def hitSL(k:Nat)(all:Bool):List SV->List SV
 |[]=>[]
 |v::l=>v.hitS k all::hitSL k all l
end
def SV.solid:SV->Bool
 |.junk=>false
 |_=>true
def BX.map(f:SV->SV):BX->BX
 |.cells l=>.cells (l.map f)
 |.dice=>.dice
 |.gone=>.gone
def SV.anyOwn:SV->SV
 |.own _=>.junk
 |.eown _ _ _=>.junk
 |.e y=>.e y
 |.undef=>.undef
 |.ptr i o=>.ptr i o
 |.hd i o z=>.hd i o z
 |.pel b x fo=>.pel b x fo
 |.dice=>.dice
 |.yld a=>.yld a
 |.erow y s fo=>.erow y s fo
 |v=>match v.owns.filter (·%2==0)with
  |[]=>v
  |_=>.junk
def Sym.get(S:Sym)(t:Nat):SV:=getA S.g t
def Sym.put(S:Sym)(d:Option Tmp)(v:SV):Sym:=match d with
 |some d=>{ S with g:=(d,v)::S.g }
 |none=>S
def Sym.mapV(S:Sym)(f:SV->SV):Sym:={ S with g:=mapA f S.g,bx:=S.bx.map (BX.map f) }
def svOf:PV->SV
 |.undef=>.undef
 |.bad=>.junk
 |v=>if v.plain then .e (.cst v)else .junk
def Sym.ev(S:Sym):Operand->SV
 |.tmp t=>S.get t
 |.const v=>svOf (pvOf v)
 |.func f=>if f<fnB then .fn f []else .junk
 |.global _=>.junk
def calmB(o:Oper):Bool:=match o.op with
 |.move _ | .assign _ | .load _ _ | .fieldAddr _ _ _ | .field _ _ _ | .indexAddr _ _ _ | .index _ _ _ | .build _ _ | .buildSlice _ _ _ | .binOp _ _ _ _ _ | .unOp _ _ _ | .convert _ _ _ | .extract _ _=>true
 |_=>false
def isApp(o:Oper):Bool:=match o.op with
 |.call c=>(match c.callee with
  |.builtin .append=>true
  |_=>false)
 |_=>false
def isLoad(o:Oper):Bool:=match o.op with
 |.load _ _=>true
 |_=>false
def looks(o:Oper):List Nat:=o.op.operands.toList.filterMap fun | .tmp t=>some t|_=>none
def dstIn(d:Option Tmp)(l:List Nat):Bool:=match d with
 |some d=>l.contains d
 |none=>false
def dstEq(d d':Option Tmp):Bool:=match d,d' with
 |some d,some d'=>decide (d=d')
 |_,_=>false
def swapB(la lb:Bool)(a b:Oper):Bool:=
 !((isApp a||isStore a)&&(isApp b||isStore b))&&!dstEq a.dst b.dst&&!dstIn a.dst (looks b)&&!dstIn b.dst (looks a)&&(!((isStore a&&isLoad b)||(isLoad a&&isStore b))||(la&&lb))
def pairsB(lt:Nat->Bool)(M:List Nat)(i:Nat)(o:Oper):List Oper->Nat->Bool
 |[],_=>true
 |a::R,j=>(Nat.ble i j||anc M i j||swapB (lt j) (lt i) a o)&&pairsB lt M i o R (j+1)
def orderGo(ops:List Oper)(lt:Nat->Bool)(M:List Nat):List Oper->Nat->Bool
 |[],_=>true
 |o::R,i=>o.guard.isNone&&(M.getD i 0==maskOf M o)&&o.after.toList.all (λe=>!bindsAny e||Nat.blt e.on i)&&pairsB lt M i o ops 0&&orderGo ops lt M R (i+1)
def orderB(ops:Array Oper)(lt:Nat->Bool):Bool:=orderGo ops.toList lt (ancGo ops.toList []) ops.toList 0
def lateOf(ops:List Oper)(M:List Nat)(i:Nat)(o:Oper):Bool:=(List.range ops.length).any λj=>match ops[j]? with
 |some a=>((isStore a&&isLoad o)||(isLoad a&&isStore o))&&!ord M i j
 |none=>false
def latesGo(ops:List Oper)(M:List Nat):List Oper->Nat->List Bool
 |[],_=>[]
 |o::R,i=>lateOf ops M i o::latesGo ops M R (i+1)
def latesOf(ops:Array Oper):List Bool:=latesGo ops.toList (ancGo ops.toList []) ops.toList 0
abbrev M:=Except String Tree
def die(s:String):M:=.error s
def iteM(x:SE)(a b:M):M:=match a,b with
 |.ok a,.ok b=>.ok (.ite x a b)
 |.error e,_=>.error e
 |_,.error e=>.error e
def emit(p:Prim)(kn:Bool)(S:Sym)(k:SE->Sym->M):M:=do
 let t ←k (.var S.nv) { S with nv:=S.nv+1,kn:=if kn then S.nv::S.kn else S.kn }
 pure (.prim p t)
def Sym.frzArr(S:Sym)(k:Nat)(x:SE):Sym:={ S.mapV (SV.frz k x)with ar:=S.ar.set k none,eff:=S.eff||decide (k<S.base) }
def frzK(k:Nat)(S:Sym)(K:Sym->M):M:=match S.ar.getD k none with
 |some a=>emit (.frz a.sz a.born a.c) true S λx S=>K (S.frzArr k x)
 |none=>die "freeze"
def Sym.standBox(S:Sym)(i:Nat)(l:List SV):Sym:={ S.mapV (SV.stand i l)with bx:=(S.bx.map (BX.map (SV.stand i l))).set i .gone }
def frzAll:Nat->List Nat->Sym->(Sym->M)->M
 |0,_,_,_=>die "freeze- too deep"
 |_,[],S,K=>K S
 |n+1,k::l,S,K=>if k%2=0 then match S.ar.getD (k/2) none with
   |some _=>frzK (k/2) S λS=>frzAll n l S K
   |none=>frzAll n l S K
  else match S.bx.getD (k/2) .gone with
   |.cells c=>match ownsL c with
    |[]=>match peL c with
     |some _=>if k/2<S.bbase then die "freeze- an elder box" else frzAll n l (S.standBox (k/2) c) K
     |none=>die "freeze- a box"
    |ks=>frzAll n (ks++k::l) S K
   |_=>frzAll n l S K
def Sym.isOne(S:Sym):SE->Bool
 |.cst v=>v.one
 |.proj _ _=>true
 |.var i=>S.kn.contains i
def Sym.addArr(S:Sym)(a:AR)(d:Option Tmp):Sym:=Sym.put { S with ar:=S.ar++[some a] } d (.own S.ar.length)
def Sym.setArr(S:Sym)(k:Nat)(all:Bool)(a:AR):Sym:={ S.mapV (SV.hitS k all)with ar:=S.ar.set k (some a),eff:=S.eff||decide (k<S.base) }
def Sym.arr(S:Sym)(k:Nat):Option AR:=S.ar.getD k none
def Sym.var(S:Sym):Sym:={ S with nv:=S.nv+1 }
def Sym.newHd(S:Sym)(d:Option Tmp)(sz len:Nat)(l:List SV):Sym:=Sym.put { S with bx:=S.bx++[BX.cells l] } d (.hd S.bx.length sz len)
def Sym.setBox(S:Sym)(i:Nat)(l:List SV):Sym:={ S with bx:=S.bx.set i (.cells l) }
def Sym.newBox(S:Sym)(d:Option Tmp)(l:List SV):Sym:=Sym.put { S with bx:=S.bx++[BX.cells l] } d (.ptr S.bx.length 0)
def SV.cellish(S:Sym):SV->Bool
 |.e x=>S.isOne x
 |.ptr _ _ | .hd _ _ _ | .pel _ _ _ | .own _ | .fn _ _ | .lit _ _ _ | .sref _ _ | .dice | .yld _ | .junk=>true
 |_=>false
structure LibF where
 new:FuncId
 srt:Option FuncId
 cpt:Option FuncId
 deriving Inhabited
structure Ctx where
 P:Program
 inl:List FuncId
 own:List (Nat×Nat)
 ownc:List (Nat×Nat)
 ownr:List (FuncId×Option (Nat×Nat)×Nat×Bool)
 hds:List (Nat×Nat):=[]
 tabs:List (TypeId×Bool):=[]
 soft:Bool:=false
 diceT:TypeId
 diceNew:LibF
section
variable(X:Ctx)
def cellsK(t:TypeId)(v:SV)(S:Sym)(K:List SV->Sym->M):M:=
 match aggT X.P t,v with
 |some true,.agg l=>if l.length=X.P.cellsOf t then K l S else die "cells"
 |some true,.e x=>emit (.agg (X.P.cellsOf t) (.e x)) false S λx S=>K ((List.range (X.P.cellsOf t)).map λj=>.e (.proj x j)) S
 |some false,.e x=>if S.isOne x then K [.e x] S else emit (.one (.e x)) true S λx S=>K [.e x] S
 |some false,.ptr i o=>K [.ptr i o] S
 |some false,.hd i o z=>K [.hd i o z] S
 |some false,.pel b y fo=>K [.pel b y fo] S
 |some false,.own k=>K [.own k] S
 |some false,.fn f l=>K [.fn f l] S
 |some false,.sref l o=>K [.sref l o] S
 |some false,.dice=>K [.dice] S
 |some false,.yld y=>K [.yld y] S
 |some false,.lit a b l=>K [.lit a b l] S
 |_,_=>die "cells of what is none"
def cellsKL:List (Nat×TypeId×SV)->Sym->(List (Nat×List SV)->Sym->M)->M
 |[],S,K=>K [] S
 |(i,t,v)::l,S,K=>cellsK X t v S λc S=>cellsKL l S λr S=>K ((i,c)::r) S
def spliceS(l:List SV)(off:Nat)(vs:List SV):List SV:=l.take off++vs++l.drop (off+vs.length)
def fillS(place:Nat->Option (Nat×Nat))(cells:List SV):List (Nat×List SV)->Option (List SV)
 |[]=>some cells
 |(i,v)::rest=>match place i with
  |none=>none
  |some (off,size)=>if v.length=size/\off+size<=cells.length then fillS place (spliceS cells off v) rest else none
def cstL:List PV->List SV
 |[]=>[]
 |v::l=>.e (.cst v)::cstL l
def cstJ:List PV->List SV
 |[]=>[]
 |v::l=>(if v.plain=true/\v.one=true then .e (.cst v)else .junk)::cstJ l
def replS(z:List SV):Nat->List SV
 |0=>[]
 |n+1=>z++replS z n
def loadS(S:Sym)(b0:Option Nat)(t:TypeId)(i off:Nat):Option SV:=match S.bx[i]?,aggT X.P t with
 |some (.cells l),some true=>if off+X.P.cellsOf t<=l.length/\(X.P.info? t).isSome/\(b0.all λb=>decide (i<b))then some (.agg ((l.drop off).take (X.P.cellsOf t)))else none
 |some (.cells l),some false=>if(b0.all λb=>decide (i<b))then l[off]? else none
 |_,_=>none
def litArgs(lx:Option Nat)(S:Sym):List SV->Option (List PE)
 |[]=>some []
 |v::l=>match v,litArgs lx S l with
  |.dice,some ps=>some (.e (.cst (.ptr 0 0))::ps)
  |.ptr i 0,some ps=>match S.bx[i]? with
   |some .dice=>if(lx.all λb=>decide (i<b))then some (.e (.cst (.ptr 0 0))::ps)else none
   |_=>none
  |v,some ps=>match v.pe with
   |some p=>some (p::ps)
   |none=>none
  |_,none=>none
def thaw(lx:Option Nat)(key:Nat)(ks:List Nat)(S:Sym)(K:Sym->M):M:=match ks with
 |[]=>K S
 |k::ks=>if lx.isSome then die "x" else frzAll 40 (k::ks) S K
def compPick(o:Oper)(c x y:Operand)(S:Sym)(K:Sym->M):M:=match S.ev c with
 |.e (.cst (.bool t))=>K (S.put o.dst (if t then S.ev x else S.ev y))
 |.e c=>do
  let a ←K (S.put o.dst (S.ev x))
  let b ←K (S.put o.dst (S.ev y))
  pure (.ite c a b)
 |_=>die "pick"
def compNil(o:Oper)(x:Operand)(S:Sym)(K:Sym->M):M:=match S.ev x with
 |.ptr i off=>K (S.put o.dst (.ptr i off))
 |.fn f l=>K (S.put o.dst (.fn f l))
 |_=>die "nilCheck"
def compExt(o:Oper)(x:Operand)(i:Nat)(S:Sym)(K:Sym->M):M:=match S.ev x with
 |.tup l=>match l[i]? with
  |some v=>K (S.put o.dst v)
  |none=>die "extract"
 |.e x=>emit (.ext (.e x) i) false S λv S=>K (S.put o.dst (.e v))
 |_=>die "extract"
def compFieldV(o:Oper)(t:TypeId)(x:Operand)(f:Nat)(S:Sym)(K:Sym->M):M:=match X.P.underlying t with
 |some (.struct fs)=>match fs[f]? with
  |some fd=>if aggT X.P fd.type=some false then(match S.ev x with
    |.agg l=>match l[fd.offset]? with
     |some v=>K (S.put o.dst v)
     |none=>die "field"
    |.e e=>if fd.offset<X.P.cellsOf t then emit (.agg (X.P.cellsOf t) (.e e)) false S λv S=>K (S.put o.dst (.e (.proj v fd.offset)))else die "field"
    |_=>die "field")else die "field"
  |none=>die "field"
 |_=>die "field"
def compField(o:Oper)(t:TypeId)(x:Operand)(f:Nat)(S:Sym)(K:Sym->M):M:=match X.P.underlying t with
 |some (.struct fs)=>match fs[f]? with
  |some fd=>if X.P.cellsOf fd.type=0\/(X.P.info? fd.type).isNone then die "fieldAddr" else match S.ev x with
   |.ptr i off=>K (S.put o.dst (.ptr i (off+fd.offset)))
   |.pel b y fo=>K (S.put o.dst (.pel b y (fo+fd.offset)))
   |.erow e sz fo=>K (S.put o.dst (.erow e sz (fo+fd.offset)))
   |.sref l fo=>K (S.put o.dst (.sref l (fo+fd.offset)))
   |.eown k e fo=>K (S.put o.dst (.eown k e (fo+fd.offset)))
   |.e x=>emit (.deref (X.P.cellsOf t) (.e x)) false S λv S=>K (S.put o.dst (.erow v (X.P.cellsOf t) fd.offset))
   |_=>die "fieldAddr"
  |none=>die "fieldAddr"
 |_=>die "fieldAddr"
def compIndexAddr(o:Oper)(t:TypeId)(x i:Operand)(S:Sym)(K:Sym->M):M:=match X.P.underlying t with
 |some (.slice e)=>match(S.ev i).pe with
  |some pi=>if(X.P.info? e).isNone\/X.P.cellsOf e=0 then die "indexAddr" else match S.ev x with
   |.own k=>match S.arr k with
    |some a=>if a.sz=X.P.cellsOf e/\a.born.lst=true then emit (.chk a.sz a.c pi) true S λv S=>K (S.put o.dst (.eown k v 0))else die "indexAddr"
    |none=>die "indexAddr"
   |.hd b sz len=>match S.ev i with
    |.e (.cst (.int _ n))=>if 0<=n/\n<(len:Int)/\X.P.cellsOf e=sz then K (S.put o.dst (.ptr b (n.toNat*sz)))else die "indexAddr"
    |_=>die "indexAddr"
   |v=>match v.pe with
    |some px=>emit (.row (X.P.cellsOf e) px pi) false S λv S=>K (S.put o.dst (.erow v (X.P.cellsOf e) 0))
    |none=>die "indexAddr"
  |none=>die "indexAddr"
 |some (.array len e)=>if(X.P.info? e).isNone then die "indexAddr" else match S.ev x with
  |.ptr b off=>match S.ev i with
   |.e (.cst (.int _ n))=>if 0<=n/\n<(len:Int)then K (S.put o.dst (.ptr b (off+n.toNat*X.P.cellsOf e)))else die "indexAddr"
   |.e y=>emit (.aoff off len (X.P.cellsOf e) (.e (.cst (.int .i64 0))) (.e y)) true S λv S=>K (S.put o.dst (.pel b v 0))
   |_=>die "indexAddr"
  |.pel b z fo=>match(S.ev i).pe with
   |some pi=>emit (.aoff fo len (X.P.cellsOf e) (.e z) pi) true S λv S=>K (S.put o.dst (.pel b v 0))
   |none=>die "indexAddr"
  |_=>die "indexAddr"
 |_=>die "indexAddr"
def compLoad(lx:Option Nat)(o:Oper)(t:TypeId)(x:Operand)(S:Sym)(K:Sym->M):M:=match S.ev x with
 |.ptr i off=>match loadS X S lx t i off with
  |some v=>K (S.put o.dst v)
  |none=>die "x"
 |.pel b z fo=>if(lx.all λk=>decide (b<k))=false then die "load15" else match S.bx[b]? with
  |some (.cells l)=>match peL l with
   |some ps=>match aggT X.P t with
    |some true=>if(X.P.info? t).isNone then die "load16" else emit (.lst ps) false S λc S=>emit (.get 1 fo (X.P.cellsOf t) c z) false S λv S=>K (S.put o.dst (.agg ((List.range (X.P.cellsOf t)).map λj=>.e (.proj v j))))
    |some false=>emit (.lst ps) false S λc S=>emit (.get 1 fo 1 c z) false S λv S=>K (S.put o.dst (.e (.proj v 0)))
    |none=>die "load17"
   |none=>die "load18"
  |_=>die "load19"
 |.sref l fo=>match aggT X.P t with
  |some true=>if fo+X.P.cellsOf t<=l.length/\(X.P.info? t).isSome then K (S.put o.dst (.agg ((l.drop fo).take (X.P.cellsOf t))))else die "x"
  |some false=>match l[fo]? with
   |some v=>K (S.put o.dst v)
   |none=>die "x"
  |none=>die "x"
 |.erow e sz fo=>match aggT X.P t with
  |some true=>if fo+X.P.cellsOf t<=sz/\(X.P.info? t).isSome then K (S.put o.dst (.agg ((List.range (X.P.cellsOf t)).map λj=>.e (.proj e (fo+j)))))else die "x"
  |some false=>if fo<sz then K (S.put o.dst (.e (.proj e fo)))else die "x"
  |none=>die "x"
 |.eown k i fo=>match S.arr k with
  |some a=>match aggT X.P t with
   |some true=>if fo+X.P.cellsOf t<=a.sz/\(X.P.info? t).isSome then emit (.get a.sz fo (X.P.cellsOf t) a.c i) false S λv S=>K (S.put o.dst (.agg ((List.range (X.P.cellsOf t)).map λj=>.e (.proj v j))))else die "x"
   |some false=>if fo<a.sz then emit (.get a.sz fo 1 a.c i) false S λv S=>K (S.put o.dst (.e (.proj v 0)))else die "x"
   |none=>die "x"
  |none=>die "x"
 |.e x=>match aggT X.P t with
  |some true=>if X.P.cellsOf t=0\/(X.P.info? t).isNone then die "x" else emit (.deref (X.P.cellsOf t) (.e x)) false S λv S=>K (S.put o.dst (.agg ((List.range (X.P.cellsOf t)).map λj=>.e (.proj v j))))
  |some false=>emit (.deref 1 (.e x)) false S λv S=>K (S.put o.dst (.e (.proj v 0)))
  |none=>die "x"
 |_=>die "x"
def compStore(lx:Option Nat)(o:Oper)(t:TypeId)(x y:Operand)(S:Sym)(K:Sym->M):M:=
 if o.dst.isSome\/(X.P.info? t).isNone then die "x" else match S.ev x with
 |.ptr i off=>cellsK X t (S.ev y) S λc S=>match S.bx[i]? with
  |some (BX.cells l)=>if c.length=X.P.cellsOf t/\c.all SV.solid=true/\off+c.length<=l.length/\(lx.all λb=>decide (off=0)&&decide (b<=i)&&decide (l.length=c.length))then K (S.setBox i (spliceS l off c))else die "x"
  |_=>die "x"
 |.eown _ _ _=>if lx.isSome\/X.P.cellsOf t=0 then die "x" else
  frzAll 40 (S.ev y).owns S λS=>cellsK X t (S.ev y) S λc S=>match S.ev x with
   |.eown k e fo=>match S.arr k,peL c with
    |some a,some ps=>if c.length≠X.P.cellsOf t\/a.sz<fo+c.length\/a.born.lst=false then die "x" else
      emit (.put a.sz fo a.c e ps) false S λv S=>K (S.setArr k false { a with c:=v })
    |_,_=>die "x"
   |_=>die "x"
 |.pel b z fo=>if lx.isSome then die "store9" else cellsK X t (S.ev y) S λc S=>match S.bx[b]? with
  |some (BX.cells l)=>match peL l,peL c with
   |some ps,some qs=>if c.length=X.P.cellsOf t then emit (.lst ps) false S λa S=>emit (.put 1 fo a z qs) false S λv S=>K (S.setBox b ((List.range l.length).map λj=>.e (.proj v j)))else die "store10"
   |_,_=>die "store11"
  |_=>die "store12"
 |.erow _ _ _=>pure .die
 |_=>die "x"
def compBuild(o:Oper)(t:TypeId)(parts:Array (Nat×Operand))(S:Sym)(K:Sym->M):M:=match X.P.underlying t,zeroCs X.P t with
 |some (.struct fs),some z=>if fs.toList.all (λf=>(X.P.info? f.type).isSome)then
   cellsKL X (parts.toList.map λp=>(p.1,((fs[p.1]?).map (·.type)).getD 0,S.ev p.2)) S λcs S=>match fillS (fieldPlaceOf X.P fs) (cstJ z) cs with
    |some l=>K (S.put o.dst (.agg l))
    |none=>die "build"
  else die "build"
 |some (.array _ e),some z=>if(X.P.info? e).isSome then
   cellsKL X (parts.toList.map λp=>(p.1,e,S.ev p.2)) S λcs S=>match fillS (λi=>some (i*X.P.cellsOf e,X.P.cellsOf e)) (cstJ z) cs with
    |some l=>K (S.put o.dst (.agg l))
    |none=>die "build"
  else die "build"
 |_,_=>die "build"
def compBuildSlice(lx:Option Nat)(key:Nat)(o:Oper)(t:TypeId)(len:Nat)(parts:Array (Nat×Operand))(S:Sym)(K:Sym->M):M:=match X.P.underlying t with
 |some (.slice e)=>match zeroCs X.P e with
  |some z=>if plainC z/\(X.P.info? e).isSome/\z.length=X.P.cellsOf e/\0<z.length/\len*X.P.cellsOf e<=16777216 then
    if lx.isNone&&o.dst.any (λd=>X.hds.contains (S.site,d))then
     cellsKL X (parts.toList.map λp=>(p.1,e,S.ev p.2)) S λcs S=>match fillS (λi=>some (i*X.P.cellsOf e,X.P.cellsOf e)) (replS (cstL z) len) cs with
      |some l=>K (S.newHd o.dst (X.P.cellsOf e) len l)
      |none=>die "buildSlice"
    else
    thaw lx key (ownsL (parts.toList.map λp=>S.ev p.2)) S λS=>
     cellsKL X (parts.toList.map λp=>(p.1,e,S.ev p.2)) S λcs S=>match fillS (λi=>some (i*X.P.cellsOf e,X.P.cellsOf e)) (replS (cstL z) len) cs with
      |some l=>match peL l with
       |some ps=>if o.dst.any (λd=>X.own.contains (S.site,d))then(if lx.isSome then die "own" else emit (.lst ps) false S λv S=>K (S.addArr ⟨X.P.cellsOf e,.real,v⟩ o.dst))else K (S.put o.dst (.lit (X.P.cellsOf e) len l))
       |none=>die "buildSlice cells"
      |none=>die "buildSlice"
   else die "buildSlice"
  |none=>die "buildSlice"
 |_=>die "buildSlice"
def compMake(lx:Option Nat)(o:Oper)(t:TypeId)(l c:Operand)(S:Sym)(K:Sym->M):M:=if lx.isSome then die "makeSlice" else match X.P.underlying t with
 |some (.slice e)=>match S.ev l,S.ev c,zeroCs X.P e with
  |.e a,.e b,some z=>if a.b b/\plainC z/\z.length=X.P.cellsOf e/\0<z.length/\(X.P.info? e).isSome then
    emit (.mk z (X.P.bytesOf e) (.e a)) false S λv S=>K (S.addArr ⟨X.P.cellsOf e,.real,v⟩ o.dst)
   else die "makeSlice"
  |_,_,_=>die "makeSlice"
 |_=>die "makeSlice"
def peO(S:Sym):Option Operand->Option (Option PE)
 |none=>some none
 |some x=>(S.ev x).pe.map some
def compSlice(lx:Option Nat)(key:Nat)(o:Oper)(t:TypeId)(x:Operand)(lo hi:Option Operand)(S:Sym)(K:Sym->M):M:=
 thaw lx key (S.ev x).owns S λS=>match(S.ev x).pe,peO S lo,peO S hi with
  |some p,some a,some b=>emit (.slice t p a b) true S λv S=>K (S.put o.dst (.e v))
  |_,_,_=>die "slice"
def appBody(o:Oper)(e:TypeId)(x y:Operand)(S:Sym)(K:Sym->M):M:=match(S.ev y).pe with
 |some py=>match S.ev x with
  |.own k=>match S.arr k with
   |some a=>if a.sz=X.P.cellsOf e/\a.born.still=true then emit (.push a.sz (X.P.bytesOf e) a.c py) false S λv S=>K ((S.setArr k true { a with c:=v }).put o.dst (.own k))else die "append"
   |none=>die "append"
  |.e (.cst .snil)=>emit (.push (X.P.cellsOf e) (X.P.bytesOf e) (.cst (.agg [])) py) false S λv S=>K (S.addArr ⟨X.P.cellsOf e,.nil0,v⟩ o.dst)
  |v=>die "x"
 |none=>die "append- cells"
def compAppend(lx:Option Nat)(o:Oper)(t:TypeId)(x y:Operand)(S:Sym)(K:Sym->M):M:=if lx.isSome then die "append" else match X.P.underlying t with
 |some (.slice e)=>if(X.P.info? e).isSome/\0<X.P.cellsOf e/\(zeroOf X.P e).any (λz=>z.cells.size=X.P.cellsOf e)=true then
   frzAll 40 (S.ev y).owns S λS=>appBody X o e x y S K
  else die "append"
 |_=>die "append"
def compLen(o:Oper)(t:TypeId)(x:Operand)(S:Sym)(K:Sym->M):M:=match S.ev x with
 |.hd _ _ n=>match X.P.underlying t with
  |some (.slice _)=>K (S.put o.dst (.e (.cst (.int .i64 n))))
  |_=>die "len"
 |.own k=>match X.P.underlying t,S.arr k with
  |some (.slice _),some a=>if a.born.lst=false then die "len" else emit (.lenc a.sz a.c) true S λv S=>K (S.put o.dst (.e v))
  |_,_=>die "len"
 |v=>match X.P.underlying t with
  |some (.array n _)=>K (S.put o.dst (.e (.cst (.int .i64 n))))
  |_=>match v.pe with
   |some p=>emit (.len t p) true S λv S=>K (S.put o.dst (.e v))
   |none=>die "len"
abbrev Inl:=Nat->FuncId->List SV->Sym->(SV->Sym->M)->M
def findOr:List (FuncId×Option (Nat×Nat)×Nat×Bool)->FuncId->Option (Option (Nat×Nat)×Nat×Bool)
 |[],_=>none
 |(f,r)::l,g=>if f=g then some r else findOr l g
def takeC(r:Bool)(sz:Nat)(x:PE)(S:Sym)(K:AR->Sym->M):M:=if sz=0 then die "own of nothing" else emit (.cont r sz x) false S λc S=>
 if r then K ⟨sz,.real,c⟩ S else emit (.isnil x) true S λb S=>K ⟨sz,.dyn b,c⟩ S
def takeOwn(r:Option (Nat×Nat)×Nat×Bool)(x:SE)(d:Option Tmp)(S:Sym)(K:Sym->M):M:=match r with
 |(none,sz,b)=>takeC b sz (.e x) S λa S=>K (S.addArr a d)
 |(some (n,j),sz,b)=>emit (.agg n (.e x)) false S λx S=>takeC b sz (.e (.proj x j)) S λa S=>
   K (Sym.put { S with ar:=S.ar++[some a] } d (.agg (((List.range n).map λi=>SV.e (.proj x i)).set j (.own S.ar.length))))
def isDice(S:Sym)(i:Nat):Bool:=match S.bx.getD i .gone with
 |.dice=>true
 |_=>false
def argOwns(S:Sym)(l:List SV):List Nat:=(ownsL l).filter λk=>!(k%2==1&&isDice S (k/2))
def compCallB(lx:Option Nat)(key:Nat)(o:Oper)(f:Operand)(args:List Operand)(S:Sym)(K:Sym->M):M:=
 thaw lx key (argOwns S (S.ev f::args.map S.ev)) S λS=>match S.ev f with
  |.fn g caps=>match X.P.funcs[fnG g]? with
   |some fn=>if fn.name = "runtime.NumGoroutine" \/ fn.body.isNone then die "call" else if(findOr X.ownr (fnG g)).isSome then die "own result of a bound method" else
    match litArgs lx S (fnA g (args.map S.ev) caps)with
    |some ps=>Except.map (Tree.call (fnG g) ps) (K (S.var.put o.dst (.e (.var S.nv))))
    |none=>die "args of a bound method"
   |none=>die "call"
  |_=>die "call"
def compCall(inl:Inl)(yl:Inl)(lx:Option Nat)(key:Nat)(o:Oper)(f:Operand)(args:List Operand)(S:Sym)(K:Sym->M):M:=match S.ev f with
 |.fn g caps=>if ¬g<fnB then compCallB X lx key o f args S K else match X.P.funcs[g]? with
  |some fn=>if fn.name = "runtime.NumGoroutine" \/ fn.body.isNone then die "call" else
   if g=X.diceNew.new then(if lx.isSome then die "x" else thaw lx key (ownsL (args.map S.ev)) S λS=>match S.ev f,peL (args.map S.ev)with
    |.fn g' [],some [p]=>if g'=g then emit (.ints p) false S λ_ S=>K (Sym.put { S with bx:=S.bx++[BX.dice] } o.dst (.ptr S.bx.length 0))else die "dice"
    |_,_=>die "dice")else
   if X.diceNew.srt=some g then(if lx.isSome then die "sort" else match caps,args.map S.ev with
    |[],[.own k]=>match S.arr k with
     |some a=>if a.sz=1/\a.born.still=true then emit (.srt a.c) false S λv S=>K ((S.setArr k false { a with c:=v }).put o.dst .undef)else die "sort"
     |none=>die "sort"
    |_,_=>die "sort")else
   if X.diceNew.cpt=some g then(if lx.isSome then die "compact" else match caps,args.map S.ev with
    |[],[.own k]=>match S.arr k with
     |some a=>if a.sz=1/\a.born.still=true then emit (.cpt a.born a.c) true S λv S=>K ((S.setArr k true a).put o.dst (.e v))else die "compact"
     |none=>die "compact"
    |_,_=>die "compact")else
   if(X.inl.contains g||X.inl.contains (100000*(key+1)+g))&&lx.isNone then inl key g (args.map S.ev++caps) S λv S=>K (S.put o.dst v)else
    thaw lx key (argOwns S (args.map S.ev++caps)) S λS=>match S.ev f with
     |.fn g' caps=>if g'=g then match litArgs lx S (args.map S.ev++caps)with
      |some ps=>Except.map (Tree.call g ps) (match findOr X.ownr g with
        |some r=>if X.ownc.contains (S.site,key)then takeOwn r (.var S.nv) o.dst S.var K else if lx.isSome then die "own result" else K (S.var.put o.dst (.e (.var S.nv)))
        |none=>K (S.var.put o.dst (.e (.var S.nv))))
      |none=>die "x" else die "call"
     |_=>die "call"
  |none=>die "call"
 |.e _=>if lx.isSome&&!X.ownr.isEmpty then die "a value is called where own results are" else thaw lx key (argOwns S (args.map S.ev)) S λS=>match S.ev f with
  |.e x=>match litArgs lx S (args.map S.ev)with
   |some ps=>Except.map (Tree.callv x ps) (K (S.var.put o.dst (.e (.var S.nv))))
   |none=>die "args of a value"
  |_=>die "call"
 |.yld y=>if lx.isSome then die "yield" else yl key y (args.map S.ev) S λv S=>K (S.put o.dst v)
 |_=>die "call of what is none"
def keyedB(P:Program)(kt:TypeId):Bool:=laidOutB P&&decide (kt<P.types.size)&&P.keyTypeAt 3 kt&&(match P.underlying kt with|some (.array _ _)|some (.struct _)=>true|_=>false)
theorem keyedB_ok{P:Program}{kt:TypeId}(h:keyedB P kt=true):Maps.Keyed P kt:=by
 unfold keyedB at h;simp only[Bool.and_eq_true,decide_eq_true_eq]at h;exact Maps.Keyed.of_law (deep_law_laid h.1.1.1 (m:=3) (by omega) h.1.1.2 h.1.2 h.2)
def keyedT(P:Program)(kt:TypeId)(sc:Bool):Bool:=if sc=true then(match P.underlying kt with
 |some (.int _)=>true
 |some .bool=>true
 |_=>false)else keyedB P kt
theorem keyedT_ok{P:Program}{kt:TypeId}{sc:Bool}(h:keyedT P kt sc=true):Maps.Keyed P kt:=by
 unfold keyedT at h;split at h
 ·split at h
  ·rename_i q hq;exact Maps.int_keyed hq
  ·rename_i hq;exact Maps.bool_keyed hq
  ·cases h
 ·exact keyedB_ok h
def tabOf(S:Sym)(m:Operand):Option (Nat×AR×Bool):=match S.ev m with
 |.own k=>match S.arr k with
  |some a=>match a.born with
   |.tab sc=>some (k,a,sc)
   |_=>none
  |none=>none
 |_=>none
def findTab:List (TypeId×Bool)->TypeId->Option Bool
 |[],_=>none
 |(t,sc)::l,u=>if t=u then some sc else findTab l u
def compTabSet(lx:Option Nat)(o:Oper)(t:TypeId)(kk:Nat)(a:AR)(sc:Bool)(k x:Operand)(S:Sym)(K:Sym->M):M:=if lx.isSome\/o.dst.isSome then die "mapUpdate" else match X.P.underlying t with
 |some (.map kt _)=>if keyedT X.P kt sc then match(S.ev k).pe,(S.ev x).pe with
   |some pk,some px=>emit (.tset t sc a.sz a.c pk px) false S λv S=>K (S.setArr kk false { a with c:=v })
   |_,_=>die "mapUpdate"
  else die "mapUpdate- key"
 |_=>die "mapUpdate"
def compLookup(lx:Option Nat)(o:Oper)(t:TypeId)(m k:Operand)(ok:Bool)(S:Sym)(K:Sym->M):M:=match X.P.underlying t with
 |some (.map kt _)=>match(S.ev k).pe with
  |some pk=>match tabOf S m with
   |some (kk,a,sc)=>if keyedT X.P kt sc then emit (.tget t sc ok a.sz a.c pk) false S λv S=>K (S.put o.dst (.e v))else die "lookup- key"
   |none=>match S.ev m,findTab X.tabs t with
    |.e x,some sc=>if keyedT X.P kt sc then emit (.tgetf t sc ok (.e x) pk) false S λv S=>K (S.put o.dst (.e v))else die "lookup- key"
    |_,_=>die "lookup"
  |none=>die "lookup"
 |_=>die "lookup"
def compMakeMap(lx:Option Nat)(o:Oper)(t:TypeId)(r:Option Operand)(S:Sym)(K:Sym->M):M:=if lx.isSome\/r.isSome then die "makeMap" else match X.P.underlying t with
 |some (.map kt _)=>if 0<X.P.cellsOf kt then(match findTab X.tabs t with
   |some sc=>emit (.lst []) false S λv S=>K (S.addArr ⟨X.P.cellsOf kt+1,.tab sc,v⟩ o.dst)
   |none=>emit (.lst []) false S λv S=>K (S.addArr ⟨X.P.cellsOf kt,.map,v⟩ o.dst))else die "makeMap"
 |_=>die "makeMap"
def compMapUpdate(lx:Option Nat)(o:Oper)(t:TypeId)(m k:Operand)(S:Sym)(K:Sym->M):M:=if lx.isSome\/o.dst.isSome then die "mapUpdate" else match X.P.underlying t with
 |some (.map kt _)=>if keyedB X.P kt then match S.ev k,S.ev m with
   |.agg l,.own k=>match S.arr k,peL l with
    |some a,some ps=>if a.born.isMap=true then emit (.ins kt a.sz a.c ps) false S λv S=>K (S.setArr k false { a with c:=v })else die "mapUpdate"
    |_,_=>die "mapUpdate"
   |_,_=>die "mapUpdate"
  else die "mapUpdate- key"
 |_=>die "mapUpdate"
def compRangeM(lx:Option Nat)(o:Oper)(t:TypeId)(x:Operand)(S:Sym)(K:Sym->M):M:=if lx.isSome then die "range" else match X.P.underlying t with
 |some (.map kt _)=>frzAll 40 (S.ev x).owns S λS=>match S.ev x with
  |.e v=>emit (.keys (X.P.cellsOf kt) (.e v)) false S λc S=>K (S.addArr ⟨X.P.cellsOf kt,.it,c⟩ o.dst)
  |_=>die "range"
 |some .string=>match S.ev x with
  |.e v=>emit (.siter (.e v)) false S λc S=>K (S.addArr ⟨2,.sit,c⟩ o.dst)
  |_=>die "range"
 |_=>die "range"
def compNextS(lx:Option Nat)(o:Oper)(x:Operand)(S:Sym)(K:Sym->M):M:=if lx.isSome then die "next" else match S.ev x with
 |.own k=>match S.arr k with
  |some a=>match a.born with
   |.sit=>if a.sz=2 then emit (.snx a.c) false S λz S=>do
     let A ←emit (.lst [.e (.proj z 3),.e (.proj z 4)]) false S λv S=>K ((S.setArr k false { a with c:=v }).put o.dst (.tup [.e (.cst (.bool true)),.e (.proj z 1),.e (.proj z 2)]));let B ←K (S.put o.dst (.tup [.e (.cst (.bool false))]))
     pure (.ite (.proj z 0) A B)else die "next"
   |_=>die "next"
  |none=>die "next"
 |_=>die "next"
def compNext(lx:Option Nat)(o:Oper)(x:Operand)(str:Bool)(S:Sym)(K:Sym->M):M:=if lx.isSome\/str=true then die "next" else match S.ev x with
 |.own k=>match S.arr k with
  |some a=>if a.born.isIt=true then do
    let A ←emit (.tl (.var S.nv)) false S.var λv S=>K ((S.setArr k false { a with c:=v }).put o.dst (.tup [.e (.cst (.bool true)),.junk,.junk]));let B ←K (S.var.put o.dst (.tup [.e (.cst (.bool false))]))
    pure (.pick a.sz a.c (.ite (.proj (.var S.nv) 0) A B))
   else die "next"
  |none=>die "next"
 |_=>die "next"
def compEntry(lx:Option Nat)(o:Oper)(x:Operand)(S:Sym)(K:Sym->M):M:=if lx.isSome then die "entry" else match S.ev x with
 |.own k=>match S.arr k with
  |some a=>if a.born.isIt=true then emit (.lk a.sz a.c) false S λv S=>K (S.put o.dst (.tup [.agg ((List.range a.sz).map λj=>.e (.proj v j)),.junk]))else die "entry"
  |none=>die "entry"
 |_=>die "entry"
def softDie(s:String):M:=if X.soft=true then pure .die else die s
def compOp(inl:Inl)(yl:Inl)(lx:Option Nat)(key:Nat)(o:Oper)(S:Sym)(K:Sym->M):M:=match o.op with
 |.move x | .assign x=>K (S.put o.dst (S.ev x))
 |.pick c x y=>compPick o c x y S K
 |.binOp op t x y _=>match(S.ev x).pe,(S.ev y).pe with
  |some p,some q=>emit (.bin op t p q) true S λv S=>K (S.put o.dst (.e v))
  |_,_=>die "binOp"
 |.unOp .not _ x=>match(S.ev x).pe with
  |some (.e (.cst (.bool b)))=>K (S.put o.dst (.e (.cst (.bool !b))))
  |some p=>emit (.un .not p) true S λv S=>K (S.put o.dst (.e v))
  |none=>die "unOp"
 |.unOp op _ x=>match(S.ev x).pe with
  |some p=>emit (.un op p) true S λv S=>K (S.put o.dst (.e v))
  |none=>die "unOp"
 |.convert src dst x=>match(S.ev x).pe with
  |some p=>emit (.conv src dst p) true S λv S=>K (S.put o.dst (.e v))
  |none=>die "convert"
 |.nilCheck x=>compNil o x S K
 |.extract x i=>compExt o x i S K
 |.fieldAddr t x f=>compField X o t x f S K
 |.field t x f=>compFieldV X o t x f S K
 |.indexAddr t x i=>compIndexAddr X o t x i S K
 |.index t x i=>match(S.ev x).pe,(S.ev i).pe with
  |some p,some q=>emit (.idx t p q) true S λv S=>K (S.put o.dst (.e v))
  |_,_=>die "index"
 |.load t x=>compLoad X lx o t x S K
 |.store t x y=>compStore X lx o t x y S K
 |.box t x=>cellsK X t (S.ev x) S λc S=>K (S.newBox o.dst c)
 |.alloc t=>match zeroCs X.P t with
  |some z=>K (S.newBox o.dst (cstJ z))
  |none=>die "alloc"
 |.build t parts=>compBuild X o t parts S K
 |.buildSlice t len parts=>compBuildSlice X lx key o t len parts S K
 |.makeSlice t l c=>compMake X lx o t l c S K
 |.slice t x lo hi none=>compSlice lx key o t x lo hi S K
 |.makeFunc (.func f) first caps=>if f<fnB/\first.size=0/\(caps.toList.all λx=>(S.ev x).cellish S)=true then K (S.put o.dst (.fn f (caps.toList.map S.ev)))else
   if caps.size=0/\(first.toList.all λx=>(S.ev x).cellish S)=true then K (S.put o.dst (.fn (f+fnB) (first.toList.map S.ev)))else die "makeFunc"
 |.call c=>match c.callee with
  |.value f=>compCall X inl yl lx key o f c.args.toList S K
  |.builtin .len=>match c.argTypes[0]?,c.args.toList with
   |some t,[x]=>compLen X o t x S K
   |_,_=>die "len"
  |.builtin .min=>match peL (c.args.toList.map S.ev)with
   |some l=>emit (.mm false l) true S λv S=>K (S.put o.dst (.e v))
   |none=>die "min"
  |.builtin .max=>match peL (c.args.toList.map S.ev)with
   |some l=>emit (.mm true l) true S λv S=>K (S.put o.dst (.e v))
   |none=>die "max"
  |.builtin .append=>match c.argTypes,c.args.toList with
   |⟨[t,t']⟩,[x,y]=>if t=t' then compAppend X lx o t x y S K else die "append"
   |_,_=>die "append"
  |_=>softDie X "builtin"
 |.makeMap t r=>compMakeMap X lx o t r S K
 |.mapUpdate t m k x=>match tabOf S m with
  |some (kk,a,sc)=>compTabSet X lx o t kk a sc k x S K
  |none=>compMapUpdate X lx o t m k S K
 |.insert t m k x=>match tabOf S m with
  |some (kk,a,sc)=>compTabSet X lx o t kk a sc k x S K
  |none=>die "insert"
 |.lookup t m k ok=>compLookup X lx o t m k ok S K
 |.range t x=>compRangeM X lx o t x S K
 |.next x str=>if str=true then compNextS lx o x S K else compNext lx o x str S K
 |.entry x=>compEntry lx o x S K
 |.panic _=>pure .die
 |.makeInterface _ _=>pure .die
 |_=>softDie X "operation"
def compOps(inl:Inl)(yl:Inl)(lx:Option Nat)(ops:Array Oper)(rid:Nat):List Oper->Nat->Sym->(Sym->M)->M
 |[],_,S,K=>K S
 |o::l,i,S,K=>match o.guard with
  |none=>compOp X inl yl lx (rid*1000+i) o S λS=>compOps inl yl lx ops rid l (i+1) S K
  |some (j,want)=>match(ops[j]?).bind (·.dst)with
   |none=>compOps inl yl lx ops rid l (i+1) (S.put o.dst .undef) K
   |some d=>match S.get d with
    |.undef=>compOps inl yl lx ops rid l (i+1) (S.put o.dst .undef) K
    |.e (.cst (.bool b))=>if b=want then compOp X inl yl lx (rid*1000+i) o S λS=>compOps inl yl lx ops rid l (i+1) S K else compOps inl yl lx ops rid l (i+1) (S.put o.dst .undef) K
    |.e x=>
     let run:=λ(S:Sym)=>compOp X inl yl lx (rid*1000+i) o S λS=>compOps inl yl lx ops rid l (i+1) S K;let skip:=λ(S:Sym)=>compOps inl yl lx ops rid l (i+1) (S.put o.dst .undef) K;let St:=S.put (some d) (.e (.cst (.bool true)));let Sf:=S.put (some d) (.e (.cst (.bool false)))
     if want then iteM x (run St) (skip Sf)else iteM x (skip St) (run Sf)
    |_=>die "guard"
end
end
end Go.Proofs.Ytjfejoadcdoobaa
