/- Part of the proof of RuleCovers. No condition. -/
import Derived.Test.YtlminnpaeaganaaGreatMCoversAX
namespace Go.Proofs.YtlminnpaeaganaaGreat
set_option maxRecDepth 100000
set_option linter.all false
section
open Go Go.RowKit
def eV(r:aX):aX:=⟨.sl none 1 0 r.st.length (r.st.map ax),r.st,r.lines,r.width⟩
theorem aoQ{r:aX}(h:r.ok):(eV r).ok:=⟨.inr ⟨0,rfl⟩,h.fI,h.ei,h.st,h.hn,h.k5,h.w1,h.w2⟩
theorem agw{slip:Int}{r:aX}{p:a7}{t:Bool}:∀n,jz slip (eV r) p t n=jz slip r p t n
 |0=>rfl
 |n+1=>by
  unfold jz;rw[agw n];rfl
theorem aos{slip:Int}{r:aX}{p:a7}:kl slip (eV r) p=kl slip r p:=by
 unfold kl;rw[agw,agw];rfl
theorem ao8{n:Nat}(aI:n<1000000):tL [.bC,ax 0,ax 0] 40 (ax n)=some (.agg (dJ (List.replicate n default))):=by
 have e:∀n:Nat,e8 [.bC,ax 0,ax 0] n=dJ (List.replicate n default):=by
  intro n;induction n with
  |zero=>rfl
  |succ n az=>rw[e8,az,List.replicate_succ,vX];rfl
 simp only[tL,e,Int.toNat_natCast];rw[if_pos (by omega)]
theorem aoV{l:List aX}{i:Nat}{r:aX}(hi:i<l.length):vd 3 0 (.agg (dJ l)) (ax i) r.cells=some (.agg (dJ (l.set i r))):=by
 have e:fa (dJ l) (i*3+0) r.cells=dJ (l.set i r):=by
  rw[List.set_eq_take_append_cons_drop,if_pos hi];have U:∀(l:List aX)(i:Nat),(dJ l).take (i*3)=dJ (l.take i):=by
   intro l;induction l with
   |nil=>intro i;simp
   |cons a l az=>
    intro i;cases i with
    |zero=>simp
    |succ i=>rw[List.take_succ_cons,vX,vX,←az i,show(i+1)*3=a.cells.length+i*3 by simp[aX.cells];omega,List.take_length_add_append]
  have ab:∀(l:List aX)(i:Nat),(dJ l).drop (i*3)=dJ (l.drop i):=by
   intro l;induction l with
   |nil=>intro i;simp
   |cons a l az=>
    intro i;cases i with
    |zero=>simp
    |succ i=>rw[List.drop_succ_cons,vX,←az i,show(i+1)*3=a.cells.length+i*3 by simp[aX.cells];omega,List.drop_length_add_append]
  have al:i*3+0+r.cells.length=(i+1)*3:=by simp[aX.cells];omega
  simp only[fa];rw[al,Nat.add_zero,U,ab,VT,vX,List.append_assoc]
 simp only[vd,Int.toNat_natCast];rw[if_pos (by simp[aX.cells];omega),e]
theorem Hand.dup{slip s:Int}{b3:aa}{l:List aX}(h:Hand slip b3 l)(aT:0<=s)(U:s<=3):Hand s (.sl none 3 0 l.length (dJ (l.map eV))) (l.map eV):=
 ⟨aT,U,.inr ⟨0,by simp⟩,by simpa using h.fY,by simpa using h.fI,λr ad=>by
  obtain⟨bR,ir,rfl⟩:=List.mem_map.1 ad;exact aoQ (h.ok bR ir)⟩
def akI(r:aX)(p:a7)(e m:Int):Prop:=
 (e=0/\∃n:Nat,m=n/\n<=3/\kn n r p=true/\∀eu:Nat,eu<n->kn eu r p=false) \/
 (e=11/\m=0/\∀eu:Nat,eu<=3->kn eu r p=false)
end
section
open Go Go.RowKit
def nth:List aa->Nat->aa
 |[],_=>.bad
 |a::_,0=>a
 |_::l,n+1=>nth l n
theorem Sf:∀(l:List aa)(i:Nat),nth l i=l.getD i .bad
 |[],i=>by simp[nth]
 |a::l,0=>rfl
 |a::l,i+1=>by simpa[nth]using Sf l i
def aR.aP(d:Nat)(st:List aa):aR->aa
 |.var i=>nth (.bad::st) (d-i)
 |.proj e j=>cM (e.aP d st) j
 |.bu v=>v
mutual
def aS.aP(d:Nat)(st:List aa):aS->aa
 |.e x=>x.aP d st
 |.agg l=>.agg (cF d st l)
 |.bD l=>.bD (cF d st l)
 |.lit sz len l=>.sl none sz 0 len (cF d st l)
 |.fn f l=>.fn f (cF d st l)
 |.ref l=>.bJ none 0 (cF d st l)
def cF(d:Nat)(st:List aa):List aS->List aa
 |[]=>[]
 |x::l=>x.aP d st::cF d st l
end
theorem aR.rl{d:Nat}{st:List aa}(h:st.length=d):∀x:aR,x.aP d st=x.den st.reverse
 |.var i=>by
  simp only[aR.aP,aR.den,Sf];rcases Nat.lt_or_ge i d with hi|hi
  ·rw[show d-i=(d-1-i)+1 by omega,List.getD_cons_succ];simp only[List.getD_eq_getElem?_getD];rw[List.getElem?_reverse (by omega),h]
  ·have aK:d-i=0:=by omega
   have aO:st.reverse[i]?=none:=List.getElem?_eq_none (by simp;omega);simp[aK,aO,List.getD_eq_getElem?_getD]
 |.proj e j=>by simp only[aR.aP,aR.den,aR.rl h e]
 |.bu v=>rfl
mutual
theorem aS.rl{d:Nat}{st:List aa}(h:st.length=d):∀x:aS,x.aP d st=x.den st.reverse
 |.e x=>by simp only[aS.aP,aS.den,aR.rl h]
 |.agg l=>by simp only[aS.aP,aS.den,q4 h l]
 |.bD l=>by simp only[aS.aP,aS.den,q4 h l]
 |.lit sz len l=>by simp only[aS.aP,aS.den,q4 h l]
 |.fn f l=>by simp only[aS.aP,aS.den,q4 h l]
 |.ref l=>by simp only[aS.aP,aS.den,q4 h l]
theorem q4{d:Nat}{st:List aa}(h:st.length=d):∀l:List aS,cF d st l=ep st.reverse l
 |[]=>rfl
 |x::l=>by simp only[cF,ep,aS.rl h x,q4 h l]
end
def Prim.fZ(P:Program)(d:Nat)(st:List aa):Prim->Option aa
 |.bin op t x y=>eB P op t (x.aP d st) (y.aP d st)
 |.un op x=>rH op (x.aP d st)
 |.conv s t x=>q5 P s t (x.aP d st)
 |.ext x i=>ll (x.aP d st) i
 |.agg n x=>vc n (x.aP d st)
 |.one x=>na (x.aP d st)
 |.row sz x i=>kp sz (x.aP d st) (i.aP d st)
 |.idx t x i=>uJ P t (x.aP d st) (i.aP d st)
 |.len t x=>ht P t (x.aP d st)
 |.slice t x lo hi=>p1 P t (x.aP d st) (lo.map (aS.aP d st)) (hi.map (aS.aP d st))
 |.iz qC l=>xK qC (cF d st l)
 |.j2 l=>some (.agg (cF d st l))
 |.mk z b n=>tL z b (n.aP d st)
 |.kX sz c i=>zj sz (c.aP d st) (i.aP d st)
 |.get sz fo n c i=>zk sz fo n (c.aP d st) (i.aP d st)
 |.put sz fo c i l=>vd sz fo (c.aP d st) (i.aP d st) (cF d st l)
 |.push sz b c y=>uW sz b (c.aP d st) (y.aP d st)
 |.oG sz c=>Bg sz (c.aP d st)
 |.bK sz b c=>iU st.reverse sz b (c.aP d st)
 |.deref n x=>A5 n (x.aP d st)
 |.cont r sz x=>po r sz (x.aP d st)
 |.wZ x=>EI (x.aP d st)
 |.ints x=>EX (x.aP d st)
 |.ins cR sz c l=>Ku P cR sz (c.aP d st) (cF d st l)
 |.keys sz x=>JZ sz (x.aP d st)
 |.mI sz c=>Lz sz (c.aP d st)
 |.lI c=>LA (c.aP d st)
 |.qz c=>Kv (c.aP d st)
 |.qA b c=>Kw st.reverse b (c.aP d st)
theorem Prim.afr{P:Program}{d:Nat}{st:List aa}(h:st.length=d)(p:Prim):p.fZ P d st=p.run P st.reverse:=by
 have aQ:aS.aP d st=aS.den st.reverse:=funext λx=>aS.rl h x;cases p<;>simp only[Prim.fZ,Prim.run,aR.rl h,aS.rl h,q4 h,aQ]
structure b6(C:b2->FuncId->List aa->Option aa)(n:Nat)(t:Tree)(d:Nat)(st:List aa)(R:Out->Prop):Prop where
 run:st.length=d->bN Tryz.prog C n t st.reverse R
def dz:List aa->List aa->List aa
 |[],st=>st
 |v::af,st=>dz af (v::st)
theorem DK:∀(af st:List aa),(dz af st).length=st.length+af.length
 |[],st=>rfl
 |v::af,st=>by simp only[dz,DK af,List.length_cons];omega
theorem DL:∀(af st:List aa),(dz af st).reverse=st.reverse++af
 |[],st=>by simp[dz]
 |v::af,st=>by simp only[dz,DL af,List.reverse_cons,List.append_assoc,List.cons_append,List.nil_append]
theorem gj{k:Nat}{g:FuncId}{args:List aa}{t:Tree}{fn:Func}{Q:aa->Prop}(a1:cA g=some t)(aQ:Tryz.prog.funcs[g]?=some fn)(gN:dd (flagsOf 23 fn) args=true)(h:b6 (E Tryz.prog k) 4096 t args.length (dz args []) λo=>∃v,o=.val v/\v.plain=true/\Q v):dT (k+1) g args Q:=lO a1 aQ gN (by have:=h.run (by rw[DK];simp);rwa[DL]at this)
theorem eK{C:b2->FuncId->List aa->Option aa}{n:Nat}{t:Tree}{d dq:Nat}{st fv:List aa}{R:Out->Prop}(aV:d=dq)(ao:st=fv)(k:b6 C n t dq fv R):b6 C n t d st R:=by subst aV ao;exact k
section
variable{C:b2->FuncId->List aa->Option aa}{n:Nat}{R:Out->Prop}{d:Nat}{st:List aa}{t:Tree}
theorem wp{p:Prim}(v:aa)(h:p.fZ Tryz.prog d st=some v)(k:b6 C n t (d+1) (v::st) R):b6 C n (.av p t) d st R:=⟨λak=>dk.2 ⟨v,by rw[←Prim.afr ak,h],by have:=k.run (by simp[ak]);rwa[List.reverse_cons]at this⟩⟩
theorem pe{x:aS}{i:Nat}{v:aa}(h:ll (x.aP d st) i=some v)(k:b6 C n t (d+1) (v::st) R):b6 C n (.av (.ext x i) t) d st R:=wp v h k
theorem eU{x:aS}{m:Nat}{cs:List aa}(h:x.aP d st=.agg cs)(ak:cs.length=m)(k:b6 C n t (d+1) (.agg cs::st) R):b6 C n (.av (.agg m x) t) d st R:=wp _ (by simp[Prim.fZ,h,vc,ak]) k
theorem p5{x:aS}{v:aa}(h:x.aP d st=v)(ar:v.one=true)(k:b6 C n t (d+1) (v::st) R):b6 C n (.av (.one x) t) d st R:=wp _ (by simp[Prim.fZ,h,na,ar]) k
theorem IN{T:TypeId}{x y:aS}{a b:Nat}(aj:x.aP d st=ax a)(aF:y.aP d st=ax b)(hb:a+b<9223372036854775807)(k:b6 C n t (d+1) (ax ((a+b:Nat):Int)::st) R):b6 C n (.av (.bin .add T x y) t) d st R:=wp _ (by simp[Prim.fZ,aj,aF,wrap64 (n:=(a:Int)+b) (by omega) (by omega)]) k
theorem ac6{T:TypeId}{x y:aS}{a b:Nat}(aj:x.aP d st=ax a)(aF:y.aP d st=ax b)(hb:b<=a/\a<9223372036854775807)(k:b6 C n t (d+1) (ax ((a-b:Nat):Int)::st) R):b6 C n (.av (.bin .sub T x y) t) d st R:=wp _ (by
 have e:(a:Int)-b=((a-b:Nat):Int):=by omega
 simp only[Prim.fZ,aj,aF,Pl,e];rw[wrap64 (by omega) (by omega)]) k
theorem Ek{T:TypeId}{x y:aS}{a b:Int}(aj:x.aP d st=ax a)(aF:y.aP d st=ax b)(U:-9223372036854775808<=a-b)(ab:a-b<=9223372036854775807)(k:b6 C n t (d+1) (ax (a-b)::st) R):b6 C n (.av (.bin .sub T x y) t) d st R:=wp _ (by simp[Prim.fZ,aj,aF,wrap64 U ab]) k
theorem ie{T:TypeId}{x y:aS}{a:Nat}(aj:x.aP d st=ax a)(aF:y.aP d st=ax 1)(hb:a<9223372036854775806)(k:b6 C n t (d+1) (ax ((a+1:Nat):Int)::st) R):b6 C n (.av (.bin .add T x y) t) d st R:=IN (a:=a) (b:=1) aj aF (by omega) k
theorem AT{T:TypeId}{x y:aS}{a:Nat}(aj:x.aP d st=ax a)(aF:y.aP d st=ax 1)(hb:1<=a/\a<9223372036854775807)(k:b6 C n t (d+1) (ax ((a-1:Nat):Int)::st) R):b6 C n (.av (.bin .sub T x y) t) d st R:=ac6 (a:=a) (b:=1) aj aF (by omega) k
theorem sM{T:TypeId}{x y:aS}{i:IntKind}{a b:Int}(aj:x.aP d st=.int i a)(aF:y.aP d st=.int i b)(k:b6 C n t (d+1) (.bool (decide (a=b))::st) R):b6 C n (.av (.bin .eql T x y) t) d st R:=wp _ (by simp[Prim.fZ,aj,aF]) k
theorem hJ{T:TypeId}{x y:aS}{i:IntKind}{a b:Int}(aj:x.aP d st=.int i a)(aF:y.aP d st=.int i b)(k:b6 C n t (d+1) (.bool (decide (a≠b))::st) R):b6 C n (.av (.bin .neq T x y) t) d st R:=wp _ (by simp[Prim.fZ,aj,aF]) k
theorem hZ{T:TypeId}{x y:aS}{i:IntKind}{a b:Int}(aj:x.aP d st=.int i a)(aF:y.aP d st=.int i b)(k:b6 C n t (d+1) (.bool (decide (a<b))::st) R):b6 C n (.av (.bin .lss T x y) t) d st R:=wp _ (by simp[Prim.fZ,aj,aF]) k
theorem A6{T:TypeId}{x y:aS}{i:IntKind}{a b:Int}(aj:x.aP d st=.int i a)(aF:y.aP d st=.int i b)(k:b6 C n t (d+1) (.bool (decide (a<=b))::st) R):b6 C n (.av (.bin .leq T x y) t) d st R:=wp _ (by simp[Prim.fZ,aj,aF]) k
theorem pf{T:TypeId}{x y:aS}{i:IntKind}{a b:Int}(aj:x.aP d st=.int i a)(aF:y.aP d st=.int i b)(k:b6 C n t (d+1) (.bool (decide (b<a))::st) R):b6 C n (.av (.bin .gtr T x y) t) d st R:=wp _ (by simp[Prim.fZ,aj,aF]) k
theorem Jl{T:TypeId}{x y:aS}{i:IntKind}{a b:Int}(aj:x.aP d st=.int i a)(aF:y.aP d st=.int i b)(k:b6 C n t (d+1) (.bool (decide (b<=a))::st) R):b6 C n (.av (.bin .geq T x y) t) d st R:=wp _ (by simp[Prim.fZ,aj,aF]) k
theorem apw:Tryz.prog.underlying 4=some .bool:=by kernel_rfl
theorem aoK{x y:aS}{a b:Bool}(aj:x.aP d st=.bool a)(aF:y.aP d st=.bool b)(k:b6 C n t (d+1) (.bool (a != b)::st) R):b6 C n (.av (.bin .neq 4 x y) t) d st R:=wp _ (by simp[Prim.fZ,aj,aF,eB,apw]) k
theorem wI{x:aS}{a:Bool}(aj:x.aP d st=.bool a)(k:b6 C n t (d+1) (.bool (!a)::st) R):b6 C n (.av (.un .not x) t) d st R:=wp _ (by simp[Prim.fZ,aj]) k
theorem ib{x:aS}{v:aa}{l:List Int}(aj:x.aP d st=v)(h:dI v l)(k:b6 C n t (d+1) (ax l.length::st) R):b6 C n (.av (.len 22 x) t) d st R:=wp _ (by rw[←h.len,←aj];rfl) k
theorem k9{x:aS}{v:aa}{l:List aX}(aj:x.aP d st=v)(h:mQ v l)(k:b6 C n t (d+1) (ax l.length::st) R):b6 C n (.av (.len 25 x) t) d st R:=wp _ (by rw[←h.len,←aj];rfl) k
theorem aoF{x:aS}{v:aa}{l:List (Nat×Bool)}(aj:x.aP d st=v)(h:vO v l)(k:b6 C n t (d+1) (ax l.length::st) R):b6 C n (.av (.len 38 x) t) d st R:=wp _ (by rw[←h.len,←aj];rfl) k
theorem uG{x i:aS}{v:aa}{l:List Int}{m:Nat}(aj:x.aP d st=v)(h:dI v l)(hi:i.aP d st=ax m)(hm:m<l.length)(k:b6 C n t (d+1) (.agg [ax (l.getD m 0)]::st) R):b6 C n (.av (.row 1 x i) t) d st R:=wp _ (by rw[←tc h hm,←aj,←hi];rfl) k
theorem Pk{c:aR}{y:aS}{l:List Int}{a:Int}{b:Nat}(ah:c.aP d st=.agg (l.map ax))(aF:y.aP d st=.sl none 1 0 1 [ax a])(hb:b<=64)(ak:l.length<1000000)(k:b6 C n t (d+1) (.agg ((l++[a]).map ax)::st) R):b6 C n (.av (.push 1 b c y) t) d st R:=wp _ (by simp only[Prim.fZ,ah,aF];exact Ih hb ak) k
theorem Qv{c:aR}{l:List Int}(ah:c.aP d st=.agg (l.map ax))(k:b6 C n t (d+1) (m9 l::st) R):b6 C n (.av (.bK 1 .cZ c) t) d st R:=wp _ (by simp only[Prim.fZ,ah,aaD]) k
theorem aoR{c:aR}{l:List (Nat×Bool)}(ah:c.aP d st=.agg (gW l))(k:b6 C n t (d+1) (Fx l::st) R):b6 C n (.av (.bK 2 .cZ c) t) d st R:=wp _ (by simp only[Prim.fZ,ah];exact aou [.agg (gW l)] (.var 0) l rfl) k
theorem anP{c:aR}{y:aS}{l:List (Nat×Bool)}{i:Nat}{b:Bool}(ah:c.aP d st=.agg (gW l))(aF:y.aP d st=.sl none 2 0 1 [ax i,.bool b])(ak:l.length<1000000)(k:b6 C n t (d+1) (.agg (gW (l++[(i,b)]))::st) R):b6 C n (.av (.push 2 16 c y) t) d st R:=wp _ (by simp only[Prim.fZ,ah,aF];exact aov ak) k
theorem El{c:aR}{a b:Tree}(h:c.aP d st=.bool true)(k:b6 C n a d st R):b6 C n (.ite c a b) d st R:=⟨λak=>run_ite.2 (.inl ⟨by rw[←aR.rl ak];exact h,k.run ak⟩)⟩
theorem qV{c:aR}{a b:Tree}(h:c.aP d st=.bool false)(k:b6 C n b d st R):b6 C n (.ite c a b) d st R:=⟨λak=>run_ite.2 (.inr ⟨by rw[←aR.rl ak];exact h,k.run ak⟩)⟩
theorem wq{c:aR}{a b:Tree}{x:Bool}(h:c.aP d st=.bool x)(k1:x=true->b6 C n a d st R)(bf:x=false->b6 C n b d st R):b6 C n (.ite c a b) d st R:=by
 cases x
 ·exact qV h (bf rfl)
 ·exact El h (k1 rfl)
theorem cK{c:aR}{a b:Tree}{p:Prop}[inst:Decidable p](h:c.aP d st=.bool (decide p))(k1:p->b6 C n a d st R)(bf:¬p->b6 C n b d st R):b6 C n (.ite c a b) d st R:=wq h (λe=>k1 (of_decide_eq_true e)) (λe=>bf (of_decide_eq_false e))
theorem D4{c:aR}{a b:Tree}{p:Prop}[inst:Decidable p](h:c.aP d st=.bool (decide p))(ae:p)(k:b6 C n a d st R):b6 C n (.ite c a b) d st R:=El (by rw[h,decide_eq_true ae]) k
theorem pW{c:aR}{a b:Tree}{p:Prop}[inst:Decidable p](h:c.aP d st=.bool (decide p))(ae:¬p)(k:b6 C n b d st R):b6 C n (.ite c a b) d st R:=qV (by rw[h,decide_eq_false ae]) k
theorem cw{L:Nat}{l:List aS}{J:List aa->Prop}(h:J (cF d st l)):b6 C n (.jump L l) d st (fV L J R):=⟨λak=>kG.2 (mj.2 (by rw[←q4 ak];exact h))⟩
theorem ia{L cL:Nat}{l:List aS}{J:List aa->Prop}(aI:cL≠L)(h:b6 C n (.jump cL l) d st R):b6 C n (.jump cL l) d st (fV L J R):=⟨λak=>kG.2 ((Y4 aI).2 (kG.1 (h.run ak)))⟩
theorem gK{L:Nat}{v:aS}{J:List aa->Prop}(h:b6 C n (.ret v) d st R):b6 C n (.ret v) d st (fV L J R):=⟨λak=>uE.2 (acg.2 (uE.1 (h.run ak)))⟩
end
theorem wp_ret{C:b2->FuncId->List aa->Option aa}{n:Nat}{d:Nat}{st:List aa}{x:aS}{v:aa}{Q:aa->Prop}(h:x.aP d st=v)(ae:v.plain=true)(aH:Q v):b6 C n (.ret x) d st λo=>∃v,o=.val v/\v.plain=true/\Q v:=⟨λak=>uE.2 ⟨v,by rw[←aS.rl ak,h],ae,aH⟩⟩
theorem sX{p q:Prop}[Decidable p][Decidable q](h:p↔q):[aa.bool (decide p)]=[aa.bool (decide q)]:=by rw[decide_eq_decide.2 h]
theorem xi{q:Prop}[Decidable q](h:q):[aa.bool true]=[aa.bool (decide q)]:=by rw[decide_eq_true h]
theorem aod{q:Prop}[Decidable q](h:¬q):[aa.bool (decide q)]=[aa.bool false]:=by rw[decide_eq_false h]
theorem EZ{q:Prop}[Decidable q](h:¬q):[aa.bool false]=[aa.bool (decide q)]:=by rw[decide_eq_false h]
def amT:Tree->Tree
 |.join _ b _=>b
 |t=>t
theorem nN{C:mR}{n k:Nat}{R:Out->Prop}{d:Nat}{st:List aa}{g:FuncId}{args:List aa}{es:List aS}{t:Tree}{Q:aa->Prop}(h:ks C k g args Q)(e:cF d st es=args)(gJ:∀v,Q v->b6 (C k) n t (d+1) (v::st) R):b6 (C k) n (.call g es t) d st R:=⟨λak=>kN h (by rw[←q4 ak];exact e) λv ai=>by have:=(gJ v ai).run (by simp[ak]);rwa[List.reverse_cons]at this⟩
theorem dr{C:mR}{n k:Nat}{R:Out->Prop}{d:Nat}{st:List aa}{g:FuncId}{args:List aa}{es:List aS}{t:Tree}{w:aa}(h:ks C k g args λv=>v=w)(e:cF d st es=args)(gJ:b6 (C k) n t (d+1) (w::st) R):b6 (C k) n (.call g es t) d st R:=nN h e λv ai=>by rw[ai];exact gJ
theorem aga{C:mR}{n k:Nat}{R:Out->Prop}{d:Nat}{st:List aa}{f:aR}{g:FuncId}{caps args:List aa}{es:List aS}{t:Tree}{Q:aa->Prop}(aQ:f.aP d st=.fn g caps)(h:ks C k g args Q)(e:cF d st es++caps=args)(gJ:∀v,Q v->b6 (C k) n t (d+1) (v::st) R):b6 (C k) n (.kL f es t) d st R:=⟨λak=>AD (by rw[←aR.rl ak];exact aQ) (Q:=Q) (by rw[←q4 ak,e];exact h) λv ai=>by have:=(gJ v ai).run (by simp[ak]);rwa[List.reverse_cons]at this⟩
theorem XL{C:mR}{n k:Nat}{R:Out->Prop}{d:Nat}{st:List aa}{f:aR}{g:FuncId}{caps args:List aa}{es:List aS}{t:Tree}{w:aa}(aQ:f.aP d st=.fn g caps)(h:ks C k g args λv=>v=w)(e:cF d st es++caps=args)(gJ:b6 (C k) n t (d+1) (w::st) R):b6 (C k) n (.kL f es t) d st R:=aga aQ h e λv ai=>by rw[ai];exact gJ
theorem ez{C:b2->FuncId->List aa->Option aa}{n:Nat}{R:Out->Prop}{d:Nat}{st:List aa}{L:Nat}{b k:Tree}(J:List aa->Prop)(h:b6 C n b d st (fV L J R))(aq:∀af,J af->b6 C n k (d+af.length) (dz af st) R):b6 C n (.join L b k) d st R:=⟨λak=>hY J (h.run ak) λaf ai=>by have:=(aq af ai).run (by rw[DK,ak]);rwa[DL]at this⟩
theorem wp_loop{C:b2->FuncId->List aa->Option aa}{n:Nat}{R:Out->Prop}{d:Nat}{st:List aa}{L:Nat}{init:List aS}{b:Tree}(I:Nat->List aa->Prop)(N:Nat)(gq:N<n)(aT:I N (cF d st init))(ao:∀j af,I j af->b6 C n b (d+af.length) (dz af st) (fV L (λcB=>∃j5,j5<j/\I j5 cB) R)):b6 C n (.loop L init b) d st R:=⟨λak=>o7 I N gq (by rw[←q4 ak];exact aT) λj af ai=>by have:=(ao j af ai).run (by rw[DK,ak]);rwa[DL]at this⟩
end
section
open Go Go.RowKit
def ov(x:aa)(l:List a7):Prop:=(x=.bC/\l=[])\/∃off,x=.sl none 5 off l.length (uM l)
theorem VV{l:List a7}(h:∀p∈l,dI p.k6 p.g):bG (uM l)=true:=by
 induction l with
 |nil=>rfl
 |cons p l az=>
  have:uM (p::l)=p.cells++uM l:=by simp[uM]
  rw[this];simp[a7.cells,(h p (by simp)).plain,az λx aj=>h x (by simp[aj])]
theorem ov.plain{x:aa}{l:List a7}(h:ov x l)(ak:∀p∈l,dI p.k6 p.g):x.plain=true/\x.one=true:=by
 rcases h with⟨rfl,_⟩|⟨off,rfl⟩
 ·simp
 ·simp[VV ak]
theorem ov.len{x:aa}{l:List a7}(h:ov x l):ht Tryz.prog 47 x=some (ax l.length):=by
 obtain⟨e,he⟩:=agk;rcases h with⟨rfl,rfl⟩|⟨off,rfl⟩<;>simp[ht,he]
theorem BA{x:aa}{l:List a7}(h:ov x l){n:Nat}(aI:n<l.length):kp 5 x (ax n)=some (.agg (l.getD n default).cells):=by
 rcases h with⟨rfl,rfl⟩|⟨off,rfl⟩
 ·simp at aI
 ·exact agn aI
theorem GR{l:List aX}(h:∀r∈l,dI r.sp r.st):bG (dJ l)=true:=by
 induction l with
 |nil=>rfl
 |cons r l az=>simp[aX.cells,(h r (by simp)).plain,az λx aj=>h x (by simp[aj])]
theorem mQ.Jg{x:aa}{l:List aX}(h:mQ x l)(ak:∀r∈l,dI r.sp r.st):x.plain=true/\x.one=true:=by
 rcases h with⟨rfl,_⟩|⟨off,rfl⟩
 ·simp
 ·simp[GR ak]
theorem pH{l:List aX}{i:Nat}(h:i<l.length):l.getD i default∈l:=by simp[List.getD_eq_getElem?_getD,h]
theorem Ll{l:List a7}{i:Nat}(h:i<l.length):l.getD i default∈l:=by simp[List.getD_eq_getElem?_getD,h]
theorem zI{l:List Int}{i:Nat}(h:i<l.length):l.getD i 0∈l:=by simp[List.getD_eq_getElem?_getD,h]
section
variable{C:b2->FuncId->List aa->Option aa}{n:Nat}{R:Out->Prop}{d:Nat}{st:List aa}{t:Tree}
theorem kg{x:aS}{p:Prop}[inst:Decidable p](aj:x.aP d st=.bool (decide p))(k:b6 C n t (d+1) (.bool (decide (¬p))::st) R):b6 C n (.av (.un .not x) t) d st R:=by
 refine wI aj ?_;rwa[←decide_not]
theorem wj{x:aS}{v:aa}{l:List a7}(aj:x.aP d st=v)(h:ov v l)(k:b6 C n t (d+1) (ax l.length::st) R):b6 C n (.av (.len 47 x) t) d st R:=wp _ (by rw[←h.len,←aj];rfl) k
theorem ae9{c:aR}{l:List aX}(ah:c.aP d st=.agg (dJ l))(k:b6 C n t (d+1) (ax l.length::st) R):b6 C n (.av (.oG 3 c) t) d st R:=wp _ (by simp[Prim.fZ,ah]) k
theorem aix{c:aR}{i:aS}{l:List aX}{m:Nat}(ah:c.aP d st=.agg (dJ l))(hi:i.aP d st=ax m)(hm:m<l.length)(k:b6 C n t (d+1) (ax m::st) R):b6 C n (.av (.kX 3 c i) t) d st R:=wp _ (by simp[Prim.fZ,ah,hi];omega) k
theorem aiy{c i:aR}{xs:List aS}{l:List aX}{m:Nat}{r:aX}(ah:c.aP d st=.agg (dJ l))(hi:i.aP d st=ax m)(aj:cF d st xs=r.cells)(hm:m<l.length)(k:b6 C n t (d+1) (.agg (dJ (l.set m r))::st) R):b6 C n (.av (.put 3 0 c i xs) t) d st R:=wp _ (by simp only[Prim.fZ,ah,hi,aj];exact aoV hm) k
theorem an1{x:aS}{m:Nat}(aj:x.aP d st=ax m)(hm:m<1000000)(k:b6 C n t (d+1) (.agg (dJ (List.replicate m default))::st) R):b6 C n (.av (.mk [.bC,ax 0,ax 0] 40 x) t) d st R:=wp _ (by simp only[Prim.fZ,aj];exact ao8 hm) k
theorem anX{c:aR}{l:List aX}(ah:c.aP d st=.agg (dJ l))(k:b6 C n t (d+1) (.sl none 3 0 l.length (dJ l)::st) R):b6 C n (.av (.bK 3 .real c) t) d st R:=wp _ (by simp[Prim.fZ,ah,iU,isNil]) k
end
structure iq(b3:aa)(l:List aX):Prop where
 gS:mQ b3 l
 rd:∀r∈l,dI r.sp r.st
 len:l.length<=20
 ma:∀r∈l,r.st.length<=20
theorem iq.plain{b3:aa}{l:List aX}(h:iq b3 l):b3.plain=true/\b3.one=true:=h.gS.Jg h.rd
structure lk(p:a7):Prop where
 c5:dI p.k6 p.g
 len:p.g.length<=20
theorem Hand.raw{slip:Int}{b3:aa}{l:List aX}(h:Hand slip b3 l):iq b3 l:=⟨h.gS,λr ad=>(h.ok r ad).c5,by have:=h.fI;omega,λr ad=>by have:=(h.ok r ad).ei;omega⟩
theorem a7.ok.raw{p:a7}(h:p.ok):lk p:=⟨h.c5,by have:=h.pR;omega⟩
theorem am3(k:Nat){r:aX}(h:dI r.sp r.st)(ak:r.st.length<=20):dT (k+2) 61 [.agg r.cells] λv=>v=.agg (eV r).cells:=by
 refine gj (t:=t61) (by kernel_rfl) (fn:=Tryz.f61) (by kernel_rfl) (by simp[dd,flagsOf,aX.cells,h.plain]) ?_;have cD:=uj r.st;refine eU (by simp only[ag,aD,aM,aS.aP,aR.aP,cF,nth,cM,List.getD_cons_succ,List.getD_cons_zero,aX.cells,a7.cells];rfl) rfl ?_;refine dr (aoc k h (by omega)) rfl ?_;first
 |(refine p5 (by simp only[ag,aD,aM,aS.aP,aR.aP,cF,nth,cM,List.getD_cons_succ,List.getD_cons_zero,aX.cells,a7.cells];rfl) rfl ?_;exact wp_ret rfl (by simp[aS.aP,aR.aP,cF,nth,ag,aD,cM,cD]) rfl)
 |(refine wp (.agg (r.st.map ax)) (by simp[Prim.fZ,po,ag,aS.aP,aR.aP,nth]) ?_;refine wp (.bool false) rfl ?_;refine wp (.sl none 1 0 r.st.length (r.st.map ax)) (by simp[Prim.fZ,iU,isNil,ag,aS.aP,aR.aP,nth,dz]) ?_;exact wp_ret rfl (by simp[aS.aP,aR.aP,cF,nth,ag,aD,cM,cD]) rfl)
theorem ai9{l:List aX}:∀r∈l.map eV,dI r.sp r.st:=λr ad=>by
 obtain⟨bR,ir,rfl⟩:=List.mem_map.1 ad;exact .inr ⟨0,rfl⟩
theorem iq.dup{b3:aa}{l:List aX}(h:iq b3 l):iq (.sl none 3 0 l.length (dJ (l.map eV))) (l.map eV):=
 ⟨.inr ⟨0,by simp⟩,ai9,by simpa using h.len,λr ad=>by
  obtain⟨bR,ir,rfl⟩:=List.mem_map.1 ad;exact h.ma bR ir⟩
theorem ao4(k:Nat){slip:Int}{b3:aa}{l:List aX}(h:iq b3 l):dT (k+3) 24 [.agg [ax slip,b3]] λv=>v=.agg [ax slip,.sl none 3 0 l.length (dJ (l.map eV))]:=by
 refine gj (t:=t24) (by kernel_rfl) (fn:=Tryz.f24) (by kernel_rfl) (by simp[dd,flagsOf,h.plain]) ?_;have fI:=h.len;refine eU (by simp only[ag,aD,aM,aS.aP,aR.aP,cF,nth,cM,List.getD_cons_succ,List.getD_cons_zero,aX.cells,a7.cells];rfl) rfl ?_;refine k9 rfl h.gS ?_;refine an1 rfl (by omega) ?_;refine ez (λaf=>af=[.agg (dJ (l.map eV))]) ?_ ?_
 ·refine wp_loop (λj af=>∃(i:Nat)(L:List aX),af=[ax i,.agg (dJ L)]/\i+j=l.length/\L.length=l.length/\∀k,k<i->L.getD k default=eV (l.getD k default)) l.length (by omega) ⟨0,List.replicate l.length default,rfl,by omega,by simp,by simp⟩ ?_;rintro j af ⟨i,L,rfl,hi,dg,aq⟩;try refine eK (by(try simp only[List.length_cons,List.length_nil,Nat.reduceAdd,Nat.zero_add]);rfl) (by(try simp only[dz]);rfl) ?_
  refine ae9 rfl ?_;refine hZ rfl rfl ?_;refine cK rfl (λbc=>?_) (λbc=>?_)
  ·have aU:i<l.length:=by omega
   have du:=m6 h.gS aU;have h9:=h.rd _ (pH aU);have h6:=h.ma _ (pH aU);generalize cn:l.getD i default=r at h9 h6 du;refine wp _ du ?_;refine dr (am3 k h9 h6) rfl ?_;refine aix rfl rfl (by omega) ?_;refine eU (by simp only[ag,aD,aM,aS.aP,aR.aP,cF,nth,cM,List.getD_cons_succ,List.getD_cons_zero,aX.cells,a7.cells];rfl) rfl ?_;refine aiy (r:=eV r) rfl rfl rfl (by omega) ?_;refine ie rfl rfl (by omega) ?_;refine cw ⟨j-1,by omega,i+1,L.set i (eV r),rfl,by omega,by simpa using dg,λk gx=>?_⟩;by_cases e:k=i
   ·subst e;have:k<L.length:=by omega
    rw[cn];simp[List.getD_eq_getElem?_getD,this]
   ·have:=aq k (by omega);simp only[List.getD_eq_getElem?_getD]at this⊢;rw[List.getElem?_set_ne (by omega)];exact this
  ·refine ia (by decide) ?_;have e:L=l.map eV:=List.ext_getElem (by simpa using dg) λk U ab=>by
    have al:k<l.length:=by simpa using ab
    have:=aq k (by omega);simpa[List.getD_eq_getElem?_getD,U,al]using this
   rw[e];exact cw rfl
 rintro af rfl;have cD:bG (dJ (l.map eV))=true:=GR ai9;try refine eK (by(try simp only[List.length_cons,List.length_nil,Nat.reduceAdd,Nat.zero_add]);rfl) (by(try simp only[dz]);rfl) ?_
 refine anX rfl ?_;rw[List.length_map];exact wp_ret rfl (by simp[aS.aP,aR.aP,cF,nth,ag,aD,cM,dz,cD]) rfl
theorem an4(k:Nat){p:a7}(ae:lk p):dT (k+2) 25 [.agg p.cells] λv=>v=.agg [.sl none 1 0 p.g.length (p.g.map ax),ax p.up,ax p.aP,ax p.wd,.bool p.fr]:=by
 refine gj (t:=t25) (by kernel_rfl) (fn:=Tryz.f25) (by kernel_rfl) (by simp[dd,flagsOf,a7.cells,ae.c5.plain]) ?_;have cD:=uj p.g;have:=ae.len;refine eU (by simp only[ag,aD,aM,aS.aP,aR.aP,cF,nth,cM,List.getD_cons_succ,List.getD_cons_zero,aX.cells,a7.cells];rfl) rfl ?_;refine dr (aoc k ae.c5 (by omega)) rfl ?_;refine p5 (by simp only[ag,aD,aM,aS.aP,aR.aP,cF,nth,cM,List.getD_cons_succ,List.getD_cons_zero,aX.cells,a7.cells];rfl) rfl ?_;exact wp_ret rfl (by simp[aS.aP,aR.aP,cF,nth,ag,aD,cM,cD]) rfl
theorem Ki(k:Nat){x y:aa}{l:List Int}(aj:dI x l)(aF:dI y l)(ak:l.length<4000):dT (k+1) 16 [x,y] λv=>v=.bool true:=by
 refine gj (t:=t16) (by kernel_rfl) (fn:=Tryz.f16) (by kernel_rfl) (by simp[dd,flagsOf,aj.plain,aF.plain]) ?_;try refine eK (by(try simp only[List.length_cons,List.length_nil,Nat.reduceAdd,Nat.zero_add]);rfl) (by(try simp only[dz]);rfl) ?_
 refine ib rfl aj ?_;refine ib rfl aF ?_;refine sM rfl rfl ?_;rw[decide_eq_true rfl];refine ez (λaf=>af=[.bool true]) ?_ ?_
 ·refine wp_loop (λj af=>∃i:Nat,af=[.bool true,ax i]/\i+j=l.length) l.length (by omega) ⟨0,rfl,by omega⟩ ?_;rintro j af ⟨i,rfl,hi⟩;try refine eK (by(try simp only[List.length_cons,List.length_nil,Nat.reduceAdd,Nat.zero_add]);rfl) (by(try simp only[dz]);rfl) ?_
  refine ez (λaf=>af=[.bool (decide ((i:Int)<l.length))]) ?_ ?_
  ·refine El rfl ?_;refine ib rfl aj ?_;refine hZ rfl rfl ?_;exact cw rfl
  rintro af rfl;try refine eK (by(try simp only[List.length_cons,List.length_nil,Nat.reduceAdd,Nat.zero_add]);rfl) (by(try simp only[dz]);rfl) ?_
  refine cK rfl (λh=>?_) (λh=>?_)
  ·have au:=tc aj (n:=i) (by omega);have hb:=tc aF (n:=i) (by omega);refine wp _ au ?_;refine wp _ hb ?_;refine sM rfl rfl ?_;rw[decide_eq_true rfl];refine ie rfl rfl (by omega) ?_;exact cw ⟨j-1,by omega,i+1,rfl,by omega⟩
  ·refine ia (by decide) ?_;exact cw rfl
 rintro af rfl;exact wp_ret rfl rfl rfl
structure Bh(a b:List aX):Prop where
 len:a.length=b.length
 st:∀i,i<a.length->(a.getD i default).st=(b.getD i default).st
 l8:∀i,i<a.length->(a.getD i default).lines=(b.getD i default).lines
 wd:∀i,i<a.length->(a.getD i default).width=(b.getD i default).width
theorem aoz(l:List aX):Bh l (l.map eV):=by
 have key:∀i,i<l.length->(l.map eV).getD i default=eV (l.getD i default):=λi hi=>by simp[List.getD_eq_getElem?_getD,hi]
 exact⟨by simp,λi hi=>by rw[key i hi];rfl,λi hi=>by rw[key i hi];rfl,λi hi=>by rw[key i hi];rfl⟩
theorem Bh.symm{a b:List aX}(h:Bh a b):Bh b a:=⟨h.len.symm,λi hi=>(h.st i (by rw[h.len];exact hi)).symm,λi hi=>(h.l8 i (by rw[h.len];exact hi)).symm,λi hi=>(h.wd i (by rw[h.len];exact hi)).symm⟩
theorem apj(k:Nat){slip:Int}{x y:aa}{a b:List aX}(aj:iq x a)(aF:iq y b)(h:Bh a b):dT (k+2) 68 [.agg [ax slip,x],.agg [ax slip,y]] λv=>v=.bool true:=by
 refine gj (t:=t68) (by kernel_rfl) (fn:=Tryz.f68) (by kernel_rfl) (by simp[dd,flagsOf,aj.plain,aF.plain]) ?_;have ak:=aj.len;have sh:=h.len;refine eU (by simp only[ag,aD,aM,aS.aP,aR.aP,cF,nth,cM,List.getD_cons_succ,List.getD_cons_zero,aX.cells,a7.cells];rfl) rfl ?_;refine eU (by simp only[ag,aD,aM,aS.aP,aR.aP,cF,nth,cM,List.getD_cons_succ,List.getD_cons_zero,aX.cells,a7.cells];rfl) rfl ?_;refine ez (λaf=>af=[.bool false]) ?_ ?_
 ·refine hJ rfl rfl ?_;refine pW rfl (by omega) ?_;refine k9 rfl aj.gS ?_;refine k9 rfl aF.gS ?_;refine hJ rfl rfl ?_;exact cw (aod (by omega))
 rintro af rfl;refine qV rfl ?_;refine ez (λaf=>af=[]) ?_ ?_
 ·refine wp_loop (λj af=>∃i:Nat,af=[ax i]/\i+j=a.length) a.length (by omega) ⟨0,rfl,by omega⟩ ?_;rintro j af ⟨i,rfl,hi⟩;try refine eK (by(try simp only[List.length_cons,List.length_nil,Nat.reduceAdd,Nat.zero_add]);rfl) (by(try simp only[dz]);rfl) ?_
  refine k9 rfl aj.gS ?_;refine hZ rfl rfl ?_;refine cK rfl (λbc=>?_) (λbc=>?_)
  ·have aU:i<a.length:=by omega
   have aaH:=m6 aj.gS aU;have dV:=m6 aF.gS (show i<b.length by omega);have aoi:=aj.rd _ (pH aU);have dw:=aF.rd _ (pH (show i<b.length by omega));have sa:=aj.ma _ (pH aU);have aK:=h.st i aU;have aO:=h.l8 i aU;have bS:=h.wd i aU;generalize a.getD i default=r at aaH aoi sa aK aO bS;generalize b.getD i default=s at dV dw aK aO bS;rw[←aK]at dw;refine wp _ aaH ?_;refine wp _ dV ?_;refine ez (λaf=>af=[.bool false]) ?_ ?_
   ·refine dr (Ki k aoi dw (by omega)) rfl ?_;refine wI rfl ?_;refine qV rfl ?_;refine hJ rfl rfl ?_;refine pW rfl (by omega) ?_;refine hJ rfl rfl ?_;exact cw (aod (by omega))
   rintro af rfl;refine qV rfl ?_;refine ie rfl rfl (by omega) ?_;exact cw ⟨j-1,by omega,i+1,rfl,by omega⟩
  ·refine ia (by decide) ?_;exact cw rfl
 rintro af rfl;exact wp_ret rfl rfl rfl
end
section
open Go Go.RowKit
theorem uF{α:Type}{l:List α}{d:α}{P:α->Prop}(h:∀m,m<l.length->P (l.getD m d)):∀x∈l,P x:=λx aj=>by grind [List.getElem_of_mem]
def p6(l:List Int)(lo hi:Int):Prop:=∀x∈l,lo<=x/\x<=hi
instance(l:List Int)(lo hi:Int):Decidable (p6 l lo hi):=inferInstanceAs (Decidable (∀x∈l,lo<=x/\x<=hi))
def gF(r:aX):Int:=if r.st.length=0 then 7 else if 3<r.st.length then 6 else if p6 r.st 2 20 then(if(2<=r.lines/\r.lines<=12)/\1<=r.width/\r.width<=60 then 0 else 1)else 1
def oj:List aX->Int
 |[]=>0
 |r::l=>if gF r≠0 then gF r else oj l
def jA(slip:Int)(l:List aX):Int:=if 0<=slip/\slip<=3 then(if l.length=0 then 7 else if 4<l.length then 6 else oj l)else 1
def hj(p:a7):Int:=if 5<p.g.length then 6 else if p6 p.g 1 30 then(if(0<=p.up/\p.up<=30)/\(0<=p.aP/\p.aP<=30)/\0<=p.wd/\p.wd<=60 then 0 else 1)else 1
def pI:List a7->Int
 |[]=>0
 |p::l=>if hj p≠0 then hj p else pI l
def gn(slip:Int)(l:List aX)(ns:List Int)(ps:List a7):Int:=if jA slip l≠0 then jA slip l else if p6 ns 0 (l.length-1)then pI ps else 3
theorem Ij:∀{l:List aX},(∀m,m<l.length->gF (l.getD m default)=0)->oj l=0
 |[],_=>rfl
 |r::l,h=>by
  have aT:gF r=0:=by simpa using h 0 (by simp)
  simp only[oj,aT];exact Ij λm hm=>by simpa using h (m+1) (by grind)
theorem Jj:∀{l:List aX}{i:Nat},i<l.length->(∀m,m<i->gF (l.getD m default)=0)->gF (l.getD i default)≠0->oj l=gF (l.getD i default)
 |r::l,0,_,_,aI=>by grind [oj]
 |r::l,i+1,hi,h,aI=>by
  have aT:gF r=0:=by simpa using h 0 (by omega)
  simp only[oj,aT];exact Jj (by grind) (λm hm=>by grind) aI
theorem Rx:∀{l:List aX},oj l=0->∀r∈l,gF r=0
 |[],_,r,ad=>by simp at ad
 |a::l,h,r,ad=>by
  simp only[oj]at h;by_cases aT:gF a=0
  ·rw[if_neg (by grind)]at h;rcases List.mem_cons.1 ad with rfl|ad
   ·exact aT
   ·exact Rx h r ad
  grind
theorem Ik:∀{l:List a7},(∀m,m<l.length->hj (l.getD m default)=0)->pI l=0
 |[],_=>rfl
 |r::l,h=>by
  have aT:hj r=0:=by simpa using h 0 (by simp)
  simp only[pI,aT];exact Ik λm hm=>by simpa using h (m+1) (by grind)
theorem Jk:∀{l:List a7}{i:Nat},i<l.length->(∀m,m<i->hj (l.getD m default)=0)->hj (l.getD i default)≠0->pI l=hj (l.getD i default)
 |r::l,0,_,_,aI=>by grind [pI]
 |r::l,i+1,hi,h,aI=>by
  have aT:hj r=0:=by simpa using h 0 (by omega)
  simp only[pI,aT];exact Jk (by grind) (λm hm=>by grind) aI
theorem Rt:∀{l:List a7},pI l=0->∀p∈l,hj p=0
 |[],_,r,ad=>by simp at ad
 |a::l,h,r,ad=>by
  simp only[pI]at h;by_cases aT:hj a=0
  ·rw[if_neg (by grind)]at h;rcases List.mem_cons.1 ad with rfl|ad
   ·exact aT
   ·exact Rt h r ad
  grind
theorem aeW{r:aX}(hi:dI r.sp r.st)(h:gF r=0):r.ok:=by
 unfold gF at h;split at h
 ·cases h
 split at h
 ·cases h
 split at h
 ·split at h
  ·rename_i U ab al aJ;exact⟨hi,by omega,by omega,al,aJ.1.1,aJ.1.2,aJ.2.1,aJ.2.2⟩
  ·cases h
 ·cases h
theorem aeM{p:a7}(hi:dI p.k6 p.g)(h:hj p=0):p.ok:=by
 unfold hj at h;split at h
 ·cases h
 split at h
 ·split at h
  ·rename_i U al aJ;exact⟨hi,by omega,al,aJ.1.1,aJ.1.2,aJ.2.1.1,aJ.2.1.2,aJ.2.2.1,aJ.2.2.2⟩
  ·cases h
 ·cases h
theorem aeL{slip:Int}{b3:aa}{l:List aX}(ad:iq b3 l)(h:jA slip l=0):Hand slip b3 l:=by
 unfold jA at h;split at h
 ·split at h
  ·cases h
  split at h
  ·cases h
  rename_i U ab al;exact⟨U.1,U.2,ad.gS,by omega,by omega,λr hm=>aeW (ad.rd r hm) (Rx h r hm)⟩
 ·cases h
theorem sV(k:Nat)(x lo hi:Int):dT (k+1) 88 [ax x,ax lo,ax hi] λv=>v=.bool (decide (lo<=x/\x<=hi)):=(agj k x lo hi).mono λv e=>by rw[e];simp
theorem sW(k:Nat)(x lo hi:Int):dT (k+1) 106 [ax x,ax lo,ax hi] λv=>v=.bool (decide (lo<=x/\x<=hi)):=by
 refine gj (t:=t106) (by kernel_rfl) (fn:=Tryz.f106) (by kernel_rfl) rfl ?_;refine ez (λaf=>af=[.bool (decide (lo<=x/\x<=hi))]) ?_ ?_
 ·refine Jl rfl rfl ?_;refine cK rfl (λh=>?_) (λh=>?_)
  ·refine A6 rfl rfl ?_;exact cw (sX (by omega))
  ·exact cw (EZ (by omega))
 ·rintro af rfl;exact wp_ret rfl rfl rfl
theorem aeX(k:Nat){r:aX}(hi:dI r.sp r.st)(ak:r.st.length<=20):dT (k+2) 90 [.agg r.cells] λv=>v=ax (gF r):=by
 refine gj (t:=t90) (by kernel_rfl) (fn:=Tryz.f90) (by kernel_rfl) (by simp[dd,flagsOf,aX.cells,hi.plain]) ?_;refine eU (by rfl) rfl ?_;refine ib rfl (by assumption) ?_;refine dr (Ts k _ _) rfl ?_;by_cases U:r.st.length=0
 ·refine hJ rfl rfl ?_;refine D4 rfl (by omega) ?_;refine wp_ret (v:=ax _) rfl rfl ?_;grind [gF]
 by_cases ab:3<r.st.length
 ·refine hJ rfl rfl ?_;refine D4 rfl (by omega) ?_;refine wp_ret (v:=ax _) rfl rfl ?_;grind [gF]
 refine hJ rfl rfl ?_;refine pW rfl (by omega) ?_;refine ib rfl (by assumption) ?_;refine ez (λaf=>af=[]/\p6 r.st 2 20) ?_ ?_
 ·refine wp_loop (λj af=>∃i:Nat,af=[ax i]/\i+j=r.st.length/\∀m,m<i->2<=r.st.getD m 0/\r.st.getD m 0<=20) r.st.length (by omega) ⟨0,rfl,by omega,λm hm=>by omega⟩ ?_;rintro j af ⟨i,rfl,dL,hb⟩;refine hZ rfl rfl ?_;refine cK rfl (λbc=>?_) (λbc=>?_)
  ·have aU:i<r.st.length:=by omega
   refine uG rfl hi rfl aU ?_;refine dr (sV k _ _ _) rfl ?_;refine kg rfl ?_;refine cK rfl (λal=>?_) (λal=>?_)
   ·refine gK ?_;refine gK ?_;refine wp_ret (v:=ax _) rfl rfl ?_;unfold gF;rw[if_neg (by omega),if_neg (by omega),if_neg (λah=>al (ah _ (zI aU)))]
   ·refine ie rfl rfl (by omega) ?_;refine cw ⟨j-1,by omega,i+1,rfl,by omega,λm hm=>?_⟩;by_cases e:m=i
    ·subst e;exact Decidable.not_not.1 al
    ·exact hb m (by omega)
  ·refine ia (by decide) ?_;exact cw ⟨rfl,uF (d:=0) λm hm=>hb m (by omega)⟩
 rintro af ⟨rfl,aN⟩;refine ez (λaf=>af=[.bool (decide (¬((2<=r.lines/\r.lines<=12)/\1<=r.width/\r.width<=60)))]) ?_ ?_
 ·refine dr (sV k _ _ _) rfl ?_;refine kg rfl ?_;refine cK rfl (λal=>?_) (λal=>?_)
  ·exact cw (xi (by omega))
  ·refine dr (sV k _ _ _) rfl ?_;refine kg rfl ?_;exact cw (sX (by omega))
 rintro af rfl;refine cK rfl (λal=>?_) (λal=>?_)
 ·refine wp_ret (v:=ax _) rfl rfl ?_;unfold gF;rw[if_neg (by omega),if_neg (by omega),if_pos aN,if_neg al]
 ·refine wp_ret (v:=ax _) rfl rfl ?_;unfold gF;rw[if_neg (by omega),if_neg (by omega),if_pos aN,if_pos (Decidable.not_not.1 al)]
theorem aeY(k:Nat){r:aX}(hi:dI r.sp r.st)(ak:r.st.length<=20):dT (k+2) 114 [.agg r.cells] λv=>v=ax (gF r):=by
 refine gj (t:=t114) (by kernel_rfl) (fn:=Tryz.f114) (by kernel_rfl) (by simp[dd,flagsOf,aX.cells,hi.plain]) ?_;refine eU (by rfl) rfl ?_;refine ib rfl (by assumption) ?_;refine sM rfl rfl ?_;refine cK rfl (λU=>?_) (λU=>?_)
 ·refine wp_ret (v:=ax _) rfl rfl ?_;grind [gF]
 refine ib rfl hi ?_;refine pf rfl rfl ?_;refine cK rfl (λab=>?_) (λab=>?_)
 ·refine wp_ret (v:=ax _) rfl rfl ?_;grind [gF]
 refine ez (λaf=>af=[]/\p6 r.st 2 20) ?_ ?_
 ·refine wp_loop (λj af=>∃i:Nat,af=[ax i]/\i+j=r.st.length/\∀m,m<i->2<=r.st.getD m 0/\r.st.getD m 0<=20) r.st.length (by omega) ⟨0,rfl,by omega,λm hm=>by omega⟩ ?_;rintro j af ⟨i,rfl,dL,hb⟩;refine ib rfl hi ?_;refine hZ rfl rfl ?_;refine cK rfl (λbc=>?_) (λbc=>?_)
  ·have aU:i<r.st.length:=by omega
   refine uG rfl hi rfl aU ?_;refine dr (sW k _ _ _) rfl ?_;refine kg rfl ?_;refine cK rfl (λal=>?_) (λal=>?_)
   ·refine gK ?_;refine gK ?_;refine wp_ret (v:=ax _) rfl rfl ?_;unfold gF;rw[if_neg (by omega),if_neg (by omega),if_neg (λah=>al (ah _ (zI aU)))]
   ·refine ie rfl rfl (by omega) ?_;refine cw ⟨j-1,by omega,i+1,rfl,by omega,λm hm=>?_⟩;grind
  ·refine ia (by decide) ?_;exact cw ⟨rfl,uF (d:=0) λm hm=>hb m (by omega)⟩
 rintro af ⟨rfl,aN⟩;refine ez (λaf=>af=[.bool (decide (¬((2<=r.lines/\r.lines<=12)/\1<=r.width/\r.width<=60)))]) ?_ ?_
 ·refine dr (sW k _ _ _) rfl ?_;refine kg rfl ?_;refine cK rfl (λal=>?_) (λal=>?_)
  ·exact cw (xi (by omega))
  ·refine dr (sW k _ _ _) rfl ?_;refine kg rfl ?_;exact cw (sX (by omega))
 rintro af rfl;refine cK rfl (λal=>?_) (λal=>?_)
 ·refine wp_ret (v:=ax _) rfl rfl ?_;grind [gF]
 ·refine wp_ret (v:=ax _) rfl rfl ?_;grind [gF]
theorem aeZ(k:Nat){slip:Int}{b3:aa}{l:List aX}(h:iq b3 l):dT (k+3) 41 [.agg [ax slip,b3]] λv=>v=ax (jA slip l):=by
 refine gj (t:=t41) (by kernel_rfl) (fn:=Tryz.f41) (by kernel_rfl) (by simp[dd,flagsOf,h.plain]) ?_;refine eU (by rfl) rfl ?_;refine dr (sV (k+1) _ _ _) rfl ?_;refine kg rfl ?_;refine cK rfl (λao=>?_) (λao=>?_)
 ·refine wp_ret (v:=ax _) rfl rfl ?_;grind [jA]
 refine k9 rfl h.gS ?_;refine dr (Ts (k+1) _ _) rfl ?_;by_cases U:l.length=0
 ·refine hJ rfl rfl ?_;refine D4 rfl (by omega) ?_;refine wp_ret (v:=ax _) rfl rfl ?_;grind [jA]
 by_cases ab:4<l.length
 ·refine hJ rfl rfl ?_;refine D4 rfl (by omega) ?_;refine wp_ret (v:=ax _) rfl rfl ?_;grind [jA]
 refine hJ rfl rfl ?_;refine pW rfl (by omega) ?_;refine k9 rfl h.gS ?_;refine ez (λaf=>af=[]/\oj l=0) ?_ ?_
 ·refine wp_loop (λj af=>∃i:Nat,af=[ax i]/\i+j=l.length/\∀m,m<i->gF (l.getD m default)=0) l.length (by omega) ⟨0,rfl,by omega,λm hm=>by omega⟩ ?_;rintro j af ⟨i,rfl,dL,hb⟩;refine hZ rfl rfl ?_;refine cK rfl (λbc=>?_) (λbc=>?_)
  ·have aU:i<l.length:=by omega
   have du:=m6 h.gS aU;have dA:=λdB=>Jj (l:=l) aU hb dB;have h9:=h.rd _ (pH aU);have h6:=h.ma _ (pH aU);have bh:gF (l.getD i default)=0->∀m,m<i+1->gF (l.getD m default)=0:=λaT m hm=>by grind
   refine wp _ du ?_;refine dr (aeX k h9 h6) rfl ?_;refine hJ rfl rfl ?_;refine cK rfl (λal=>?_) (λal=>?_)
   ·refine gK ?_;refine gK ?_;refine wp_ret (v:=ax _) rfl rfl ?_;grind [jA]
   ·refine ie rfl rfl (by omega) ?_;exact cw ⟨j-1,by omega,i+1,rfl,by omega,bh (Decidable.not_not.1 al)⟩
  ·refine ia (by decide) ?_;exact cw ⟨rfl,Ij λm hm=>hb m (by omega)⟩
 rintro af ⟨rfl,aN⟩;refine wp_ret (v:=ax _) rfl rfl ?_;grind [jA]
theorem ae0(k:Nat){slip:Int}{b3:aa}{l:List aX}(h:iq b3 l):dT (k+3) 73 [.agg [ax slip,b3]] λv=>v=ax (jA slip l):=by
 refine gj (t:=t73) (by kernel_rfl) (fn:=Tryz.f73) (by kernel_rfl) (by simp[dd,flagsOf,h.plain]) ?_;refine eU (by rfl) rfl ?_;refine dr (sW (k+1) _ _ _) rfl ?_;refine kg rfl ?_;refine cK rfl (λao=>?_) (λao=>?_)
 ·refine wp_ret (v:=ax _) rfl rfl ?_;grind [jA]
 refine k9 rfl h.gS ?_;refine sM rfl rfl ?_;refine cK rfl (λU=>?_) (λU=>?_)
 ·refine wp_ret (v:=ax _) rfl rfl ?_;grind [jA]
 refine k9 rfl h.gS ?_;refine pf rfl rfl ?_;refine cK rfl (λab=>?_) (λab=>?_)
 ·refine wp_ret (v:=ax _) rfl rfl ?_;grind [jA]
 refine ez (λaf=>af=[]/\oj l=0) ?_ ?_
 ·refine wp_loop (λj af=>∃i:Nat,af=[ax i]/\i+j=l.length/\∀m,m<i->gF (l.getD m default)=0) l.length (by omega) ⟨0,rfl,by omega,λm hm=>by omega⟩ ?_;rintro j af ⟨i,rfl,dL,hb⟩;refine k9 rfl h.gS ?_;refine hZ rfl rfl ?_;refine cK rfl (λbc=>?_) (λbc=>?_)
  ·have aU:i<l.length:=by omega
   have du:=m6 h.gS aU;have dA:=λdB=>Jj (l:=l) aU hb dB;have h9:=h.rd _ (pH aU);have h6:=h.ma _ (pH aU);have bh:gF (l.getD i default)=0->∀m,m<i+1->gF (l.getD m default)=0:=λaT m hm=>by grind
   refine wp _ du ?_;refine dr (aeY k h9 h6) rfl ?_;refine hJ rfl rfl ?_;refine cK rfl (λal=>?_) (λal=>?_)
   ·refine gK ?_;refine gK ?_;refine wp_ret (v:=ax _) rfl rfl ?_;grind [jA]
   ·refine ie rfl rfl (by omega) ?_;exact cw ⟨j-1,by omega,i+1,rfl,by omega,bh (Decidable.not_not.1 al)⟩
  ·refine ia (by decide) ?_;exact cw ⟨rfl,Ij λm hm=>hb m (by omega)⟩
 rintro af ⟨rfl,aN⟩;refine wp_ret (v:=ax _) rfl rfl ?_;grind [jA]
theorem ae1(k:Nat){p:a7}(h:lk p):dT (k+2) 99 [.agg p.cells] λv=>v=ax (hj p):=by
 refine gj (t:=t99) (by kernel_rfl) (fn:=Tryz.f99) (by kernel_rfl) (by simp[dd,flagsOf,a7.cells,h.c5.plain]) ?_;refine eU (by rfl) rfl ?_;refine ib rfl h.c5 ?_;refine pf rfl rfl ?_;refine cK rfl (λU=>?_) (λU=>?_)
 ·refine wp_ret (v:=ax _) rfl rfl ?_;grind [hj]
 refine ib rfl h.c5 ?_;refine ez (λaf=>af=[]/\p6 p.g 1 30) ?_ ?_
 ·refine wp_loop (λj af=>∃i:Nat,af=[ax i]/\i+j=p.g.length/\∀m,m<i->1<=p.g.getD m 0/\p.g.getD m 0<=30) p.g.length (by omega) ⟨0,rfl,by omega,λm hm=>by omega⟩ ?_;rintro j af ⟨i,rfl,dL,hb⟩;refine hZ rfl rfl ?_;refine cK rfl (λbc=>?_) (λbc=>?_)
  ·have aU:i<p.g.length:=by omega
   refine uG rfl h.c5 rfl aU ?_;refine dr (sV k _ _ _) rfl ?_;refine kg rfl ?_;refine cK rfl (λal=>?_) (λal=>?_)
   ·refine gK ?_;refine gK ?_;refine wp_ret (v:=ax _) rfl rfl ?_;unfold hj;rw[if_neg (by omega),if_neg (λah=>al (ah _ (zI aU)))]
   ·refine ie rfl rfl (by omega) ?_;refine cw ⟨j-1,by omega,i+1,rfl,by omega,λm hm=>?_⟩;grind
  ·refine ia (by decide) ?_;exact cw ⟨rfl,uF (d:=0) λm hm=>hb m (by omega)⟩
 rintro af ⟨rfl,aN⟩;refine ez (λaf=>af=[.bool (decide (¬((0<=p.up/\p.up<=30)/\(0<=p.aP/\p.aP<=30)/\0<=p.wd/\p.wd<=60)))]) ?_ ?_
 ·refine dr (sV k _ _ _) rfl ?_;refine kg rfl ?_;refine cK rfl (λal=>?_) (λal=>?_)
  ·exact cw (xi (by omega))
  ·refine dr (sV k _ _ _) rfl ?_;refine kg rfl ?_;refine cK rfl (λaJ=>?_) (λaJ=>?_)
   ·exact cw (xi (by omega))
   ·refine dr (sV k _ _ _) rfl ?_;refine kg rfl ?_;exact cw (sX (by omega))
 rintro af rfl;refine cK rfl (λal=>?_) (λal=>?_)
 ·refine wp_ret (v:=ax _) rfl rfl ?_;unfold hj;rw[if_neg (by omega),if_pos aN,if_neg al]
 ·refine wp_ret (v:=ax _) rfl rfl ?_;unfold hj;rw[if_neg (by omega),if_pos aN,if_pos (Decidable.not_not.1 al)]
theorem ae2(k:Nat){p:a7}(h:lk p):dT (k+2) 107 [.agg p.cells] λv=>v=ax (hj p):=by
 refine gj (t:=t107) (by kernel_rfl) (fn:=Tryz.f107) (by kernel_rfl) (by simp[dd,flagsOf,a7.cells,h.c5.plain]) ?_;refine eU (by rfl) rfl ?_;refine ib rfl h.c5 ?_;refine pf rfl rfl ?_;refine cK rfl (λU=>?_) (λU=>?_)
 ·refine wp_ret (v:=ax _) rfl rfl ?_;grind [hj]
 refine ez (λaf=>af=[]/\p6 p.g 1 30) ?_ ?_
 ·refine wp_loop (λj af=>∃i:Nat,af=[ax i]/\i+j=p.g.length/\∀m,m<i->1<=p.g.getD m 0/\p.g.getD m 0<=30) p.g.length (by omega) ⟨0,rfl,by omega,λm hm=>by omega⟩ ?_;rintro j af ⟨i,rfl,dL,hb⟩;refine ib rfl h.c5 ?_;refine hZ rfl rfl ?_;refine cK rfl (λbc=>?_) (λbc=>?_)
  ·have aU:i<p.g.length:=by omega
   refine uG rfl h.c5 rfl aU ?_;refine dr (sW k _ _ _) rfl ?_;refine kg rfl ?_;refine cK rfl (λal=>?_) (λal=>?_)
   ·refine gK ?_;refine gK ?_;refine wp_ret (v:=ax _) rfl rfl ?_;unfold hj;rw[if_neg (by omega),if_neg (λah=>al (ah _ (zI aU)))]
   ·refine ie rfl rfl (by omega) ?_;refine cw ⟨j-1,by omega,i+1,rfl,by omega,λm hm=>?_⟩;grind
  ·refine ia (by decide) ?_;exact cw ⟨rfl,uF (d:=0) λm hm=>hb m (by omega)⟩
 rintro af ⟨rfl,aN⟩;refine ez (λaf=>af=[.bool (decide (¬((0<=p.up/\p.up<=30)/\(0<=p.aP/\p.aP<=30)/\0<=p.wd/\p.wd<=60)))]) ?_ ?_
 ·refine dr (sW k _ _ _) rfl ?_;refine kg rfl ?_;refine cK rfl (λal=>?_) (λal=>?_)
  ·exact cw (xi (by omega))
  ·refine dr (sW k _ _ _) rfl ?_;refine kg rfl ?_;refine cK rfl (λaJ=>?_) (λaJ=>?_)
   ·exact cw (xi (by omega))
   ·refine dr (sW k _ _ _) rfl ?_;refine kg rfl ?_;exact cw (sX (by omega))
 rintro af rfl;refine cK rfl (λal=>?_) (λal=>?_)
 ·refine wp_ret (v:=ax _) rfl rfl ?_;grind [hj]
 ·refine wp_ret (v:=ax _) rfl rfl ?_;grind [hj]
end
section
open Go Go.RowKit
theorem QA{slip:Int}{l:List aX}(h:jA slip l=0):1<=l.length:=by
 unfold jA at h;split at h
 ·split at h
  ·cases h
  ·omega
 ·cases h
theorem SB(k:Nat){slip:Int}{b3 x y:aa}{l:List aX}{ns:List Int}{ps:List a7}(h:iq b3 l)(aj:dI x ns)(mB:ns.length<4000)(aF:ov y ps)(ae:∀p∈ps,lk p)(cD:ps.length<4000):dT (k+4) 64 [.agg [ax slip,b3],x,y] λv=>v=ax (gn slip l ns ps):=by
 refine gj (t:=t64) (by kernel_rfl) (fn:=Tryz.f64) (by kernel_rfl) (by simp[dd,flagsOf,h.plain,aj.plain,aF.plain λp hm=>(ae p hm).c5]) ?_;have hlen:=h.len;refine eU (by simp only[ag,aD,aM,aS.aP,aR.aP,cF,nth,cM,List.getD_cons_succ,List.getD_cons_zero,aX.cells,a7.cells];rfl) rfl ?_;refine dr (ae0 k h) rfl ?_;refine hJ rfl rfl ?_;refine cK rfl (λhe=>?_) (λhe=>?_)
 ·refine wp_ret (v:=ax _) rfl rfl ?_;unfold gn;rw[if_pos he]
 replace he:=Decidable.not_not.1 he;have gk:=QA he;refine ez (λaf=>af=[]/\p6 ns 0 (l.length-1)) ?_ ?_
 ·refine wp_loop (λj af=>∃i:Nat,af=[ax i]/\i+j=ns.length/\∀m,m<i->0<=ns.getD m 0/\ns.getD m 0<=(l.length:Int)-1) ns.length (by omega) ⟨0,rfl,by omega,λm hm=>by omega⟩ ?_;rintro j af ⟨i,rfl,dL,hb⟩;try refine eK (by(try simp only[List.length_cons,List.length_nil,Nat.reduceAdd,Nat.zero_add]);rfl) (by(try simp only[dz]);rfl) ?_
  refine ib rfl aj ?_;refine hZ rfl rfl ?_;refine cK rfl (λbc=>?_) (λbc=>?_)
  ·have aU:i<ns.length:=by omega
   refine uG rfl aj rfl aU ?_;refine k9 rfl h.gS ?_;refine AT rfl rfl (by omega) ?_;refine dr (sW _ _ _ _) rfl ?_;refine kg rfl ?_;refine cK rfl (λal=>?_) (λal=>?_)
   ·refine gK ?_;refine gK ?_;refine wp_ret (v:=ax _) rfl rfl ?_;unfold gn;rw[if_neg (by simpa using he),if_neg (λah=>al (by have:=ah _ (zI aU);omega))]
    skip
   ·refine ie rfl rfl (by omega) ?_;refine cw ⟨j-1,by omega,i+1,rfl,by omega,λm hm=>?_⟩;by_cases e:m=i
    ·subst e;have:=Decidable.not_not.1 al;omega
    ·exact hb m (by omega)
  ·refine ia (by decide) ?_;exact cw ⟨rfl,uF (d:=0) λm hm=>hb m (by omega)⟩
 rintro af ⟨rfl,aN⟩;try refine eK (by(try simp only[List.length_cons,List.length_nil,Nat.reduceAdd,Nat.zero_add]);rfl) (by(try simp only[dz]);rfl) ?_
 refine ez (λaf=>af=[]/\pI ps=0) ?_ ?_
 ·refine wp_loop (λj af=>∃i:Nat,af=[ax i]/\i+j=ps.length/\∀m,m<i->hj (ps.getD m default)=0) ps.length (by omega) ⟨0,rfl,by omega,λm hm=>by omega⟩ ?_;rintro j af ⟨i,rfl,dL,hb⟩;try refine eK (by(try simp only[List.length_cons,List.length_nil,Nat.reduceAdd,Nat.zero_add]);rfl) (by(try simp only[dz]);rfl) ?_
  refine wj rfl aF ?_;refine hZ rfl rfl ?_;refine cK rfl (λbc=>?_) (λbc=>?_)
  ·have aU:i<ps.length:=by omega
   have du:=BA aF aU;have dA:=λdB=>Jk (l:=ps) aU hb dB;have h9:=ae _ (Ll aU);have bh:hj (ps.getD i default)=0->∀m,m<i+1->hj (ps.getD m default)=0:=λaT m hm=>by
    by_cases e:m=i
    ·subst e;exact aT
    ·exact hb m (by omega)
   generalize ps.getD i default=p at du dA h9 bh;refine wp _ du ?_;refine dr (ae2 _ h9) rfl ?_;refine hJ rfl rfl ?_;refine cK rfl (λal=>?_) (λal=>?_)
   ·refine gK ?_;refine gK ?_;refine wp_ret (v:=ax _) rfl rfl ?_;unfold gn;rw[if_neg (by simpa using he),if_pos aN,dA al]
    skip
   ·refine ie rfl rfl (by omega) ?_;exact cw ⟨j-1,by omega,i+1,rfl,by omega,bh (Decidable.not_not.1 al)⟩
  ·refine ia (by decide) ?_;exact cw ⟨rfl,Ik λm hm=>hb m (by omega)⟩
 rintro af ⟨rfl,bO⟩;refine wp_ret (v:=ax _) rfl rfl ?_;unfold gn;rw[if_neg (by simpa using he),if_pos aN,bO]
def Ry(slip:Int)(b3:aa)(e:Int)(v:aa):Prop:=∃a b,v=.bD [.agg [a,b],ax e]/\(e=0->a=ax slip/\b=b3)/\bG [a,b]=true
theorem HE{slip:Int}{b3:aa}{e:Int}(h:e≠0):Ry slip b3 e (.bD [.agg [ax 0,.bC],ax e]):=⟨_,_,rfl,λbc=>absurd bc h,rfl⟩
theorem Sz(k:Nat){slip:Int}{b3 x y:aa}{l:List aX}{ns:List Int}{ps:List a7}(h:iq b3 l)(aj:dI x ns)(mB:ns.length<4000)(aF:ov y ps)(ae:∀p∈ps,lk p)(cD:ps.length<4000):dT (k+4) 56 [.agg [ax slip,b3],x,y] (Ry slip b3 (gn slip l ns ps)):=by
 refine gj (t:=t56) (by kernel_rfl) (fn:=Tryz.f56) (by kernel_rfl) (by simp[dd,flagsOf,h.plain,aj.plain,aF.plain λp hm=>(ae p hm).c5]) ?_;have hlen:=h.len;refine eU (by simp only[ag,aD,aM,aS.aP,aR.aP,cF,nth,cM,List.getD_cons_succ,List.getD_cons_zero,aX.cells,a7.cells];rfl) rfl ?_;refine dr (aeZ k h) rfl ?_;refine hJ rfl rfl ?_;refine cK rfl (λhe=>?_) (λhe=>?_)
 ·refine wp_ret (v:=.bD [.agg [ax 0,.bC],ax _]) rfl rfl ?_;unfold gn;rw[if_pos he];exact HE he
 replace he:=Decidable.not_not.1 he;have gk:=QA he;refine ib rfl aj ?_;refine ez (λaf=>af=[]/\p6 ns 0 (l.length-1)) ?_ ?_
 ·refine wp_loop (λj af=>∃i:Nat,af=[ax i]/\i+j=ns.length/\∀m,m<i->0<=ns.getD m 0/\ns.getD m 0<=(l.length:Int)-1) ns.length (by omega) ⟨0,rfl,by omega,λm hm=>by omega⟩ ?_;rintro j af ⟨i,rfl,dL,hb⟩;refine hZ rfl rfl ?_;refine cK rfl (λbc=>?_) (λbc=>?_)
  ·have aU:i<ns.length:=by omega
   refine uG rfl aj rfl aU ?_;refine k9 rfl h.gS ?_;refine AT rfl rfl (by omega) ?_;refine dr (sV _ _ _ _) rfl ?_;refine kg rfl ?_;refine cK rfl (λal=>?_) (λal=>?_)
   ·refine gK ?_;refine gK ?_;refine wp_ret (v:=.bD [.agg [ax 0,.bC],ax 3]) rfl rfl ?_;unfold gn;rw[if_neg (by simpa using he),if_neg (λah=>al (by have:=ah _ (zI aU);omega))];exact HE (by decide)
   ·refine ie rfl rfl (by omega) ?_;refine cw ⟨j-1,by omega,i+1,rfl,by omega,λm hm=>?_⟩;by_cases e:m=i
    ·subst e;have:=Decidable.not_not.1 al;omega
    ·exact hb m (by omega)
  ·refine ia (by decide) ?_;exact cw ⟨rfl,uF (d:=0) λm hm=>hb m (by omega)⟩
 rintro af ⟨rfl,aN⟩;try refine eK (by(try simp only[List.length_cons,List.length_nil,Nat.reduceAdd,Nat.zero_add]);rfl) (by(try simp only[dz]);rfl) ?_
 refine wj rfl aF ?_;refine ez (λaf=>af=[]/\pI ps=0) ?_ ?_
 ·refine wp_loop (λj af=>∃i:Nat,af=[ax i]/\i+j=ps.length/\∀m,m<i->hj (ps.getD m default)=0) ps.length (by omega) ⟨0,rfl,by omega,λm hm=>by omega⟩ ?_;rintro j af ⟨i,rfl,dL,hb⟩;refine hZ rfl rfl ?_;refine cK rfl (λbc=>?_) (λbc=>?_)
  ·have aU:i<ps.length:=by omega
   have du:=BA aF aU;have dA:=λdB=>Jk (l:=ps) aU hb dB;have h9:=ae _ (Ll aU);have bh:hj (ps.getD i default)=0->∀m,m<i+1->hj (ps.getD m default)=0:=λaT m hm=>by
    by_cases e:m=i
    ·subst e;exact aT
    ·exact hb m (by omega)
   generalize ps.getD i default=p at du dA h9 bh;refine wp _ du ?_;refine dr (ae1 _ h9) rfl ?_;refine hJ rfl rfl ?_;refine cK rfl (λal=>?_) (λal=>?_)
   ·refine gK ?_;refine gK ?_;refine wp_ret (v:=.bD [.agg [ax 0,.bC],ax (hj p)]) rfl rfl ?_;unfold gn;rw[if_neg (by simpa using he),if_pos aN,dA al];exact HE al
   ·refine ie rfl rfl (by omega) ?_;exact cw ⟨j-1,by omega,i+1,rfl,by omega,bh (Decidable.not_not.1 al)⟩
  ·refine ia (by decide) ?_;exact cw ⟨rfl,Ik λm hm=>hb m (by omega)⟩
 rintro af ⟨rfl,bO⟩;refine wp_ret (v:=.bD [.agg [ax slip,b3],ax 0]) rfl (by simp[h.plain]) ?_;unfold gn;rw[if_neg (by simpa using he),if_pos aN,bO];exact⟨_,_,rfl,λ_=>⟨rfl,rfl⟩,by simp[h.plain]⟩
def agt(l:List Int)(i:Nat):Int:=if 0<=l.getD i 0/\l.getD i 0<=300 then(if 0<i/\l.getD i 0<=l.getD (i-1) 0 then 5 else 0)else 1
def Ko(l:List Int):Nat->Int
 |0=>0
 |n+1=>if Ko l n≠0 then Ko l n else agt l n
def aiu(l:List Int):Int:=if 16<l.length then 6 else Ko l l.length
def al8(slip:Int)(l:List aX)(n:Int)(ps:List Int):Int:=if gn slip l [n] []≠0 then gn slip l [n] []else aiu ps
end
section
open Go Go.RowKit
theorem aow{l:List Int}{i:Nat}(h:i<l.length):l.take (i+1)=l.take i++[l.getD i 0]:=by
 rw[List.take_add_one];simp[List.getD_eq_getElem?_getD,h]
theorem aoW{C:b2->FuncId->List aa->Option aa}{n:Nat}{R:Out->Prop}{d:Nat}{st:List aa}{t:Tree}{T:TypeId}{x y:aS}{a b:Nat}(aj:x.aP d st=ax a)(aF:y.aP d st=ax b)(hb:0<b)(k:b6 C n t (d+1) (ax ((a%b:Nat):Int)::st) R):b6 C n (.av (.bin .rem T x y) t) d st R:=by
 refine wp (ax ((a%b:Nat):Int)) ?_ k;have e:Int.tmod (a:Int) (b:Int)=((a%b:Nat):Int):=by rw[Int.tmod_eq_emod_of_nonneg (by omega)];simp
 simp only[Prim.fZ,aj,aF];rw[D3 (by omega),e]
theorem anh(k:Nat){r:aX}(h:r.ok)(i:Nat):dT (k+1) 118 [.agg r.cells,ax i] λv=>v=ax (dp r i):=by
 refine gj (t:=t118) (by kernel_rfl) (fn:=Tryz.f118) (by kernel_rfl) (by simp[dd,flagsOf,aX.cells,h.c5.plain]) ?_;have U:=h.fI;have hi:=h.c5;refine eU (by simp only[ag,aD,aM,aS.aP,aR.aP,cF,nth,cM,List.getD_cons_succ,List.getD_cons_zero,aX.cells,a7.cells];rfl) rfl ?_;refine ib rfl (by assumption) ?_;refine aoW rfl rfl (by omega) ?_;refine uG rfl hi rfl (Nat.mod_lt _ h.fI) ?_;exact wp_ret rfl rfl rfl
theorem an6(k:Nat){slip m r:Int}(h:-1000000<=m/\m<=1000000/\-1000000<=r/\r<=1000000):dT (k+1) 151 [ax m,ax r,ax slip] λv=>v=.bool (decide (m-r<=slip/\r-m<=slip)):=by
 refine gj (t:=t151) (by kernel_rfl) (fn:=Tryz.f151) (by kernel_rfl) rfl ?_;try refine eK (by(try simp only[List.length_cons,List.length_nil,Nat.reduceAdd,Nat.zero_add]);rfl) (by(try simp only[dz]);rfl) ?_
 refine ez (λaf=>af=[.bool (decide (m-r<=slip/\r-m<=slip))]) ?_ ?_
 ·refine Ek rfl rfl (by omega) (by omega) ?_;refine A6 rfl rfl ?_;refine cK rfl (λU=>?_) (λU=>?_)
  ·refine Ek rfl rfl (by omega) (by omega) ?_;refine A6 rfl rfl ?_;exact cw (sX (by omega))
  ·exact cw (EZ (by omega))
 ·rintro af rfl;exact wp_ret rfl rfl rfl
theorem adI{slip:Int}{l:List aX}{ns:List Int}{ps:List a7}(h:gn slip l ns ps=0):jA slip l=0/\p6 ns 0 (l.length-1)/\pI ps=0:=by
 unfold gn at h;split at h
 ·rename_i ah;exact absurd h ah
 ·rename_i ah;split at h
  ·rename_i aN;exact⟨Decidable.not_not.1 ah,aN,h⟩
  ·cases h
end
end Go.Proofs.YtlminnpaeaganaaGreat
