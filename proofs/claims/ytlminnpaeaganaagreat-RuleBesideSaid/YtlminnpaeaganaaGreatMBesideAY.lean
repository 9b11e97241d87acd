/- Part of the proof of RuleBeside. No condition. -/
import Derived.Test.YtlminnpaeaganaaGreatMBesideAV
import Derived.Test.YtlminnpaeaganaaGreatMBesideAX
namespace Go.Proofs.YtlminnpaeaganaaGreat
set_option maxRecDepth 100000
set_option linter.all false
section
open Go Go.RowKit
def nth:List aa->Nat->aa
 |[],_=>.bad
 |a::_,0=>a
 |_::l,n+1=>nth l n
theorem Sf:∀(l:List aa)(i:Nat),nth l i=l.getD i .bad
 |[],i=>by simp[nth]
 |a::l,0=>rfl
 |a::l,i+1=>by simpa[nth]using Sf l i
def aR.aP(d:Nat)(st:List aa):aR->aa
 |.var i=>nth (.bad::st) (d-i)
 |.proj e j=>cM (e.aP d st) j
 |.bu v=>v
mutual
def aS.aP(d:Nat)(st:List aa):aS->aa
 |.e x=>x.aP d st
 |.agg l=>.agg (cF d st l)
 |.bD l=>.bD (cF d st l)
 |.lit sz len l=>.sl none sz 0 len (cF d st l)
 |.fn f l=>.fn f (cF d st l)
 |.ref l=>.bJ none 0 (cF d st l)
def cF(d:Nat)(st:List aa):List aS->List aa
 |[]=>[]
 |x::l=>x.aP d st::cF d st l
end
theorem aR.rl{d:Nat}{st:List aa}(h:st.length=d):∀x:aR,x.aP d st=x.den st.reverse
 |.var i=>by
  simp only[aR.aP,aR.den,Sf];rcases Nat.lt_or_ge i d with hi|hi
  ·rw[show d-i=(d-1-i)+1 by omega,List.getD_cons_succ];simp only[List.getD_eq_getElem?_getD];rw[List.getElem?_reverse (by omega),h]
  ·have aK:d-i=0:=by omega
   have aO:st.reverse[i]?=none:=List.getElem?_eq_none (by simp;omega);simp[aK,aO,List.getD_eq_getElem?_getD]
 |.proj e j=>by simp only[aR.aP,aR.den,aR.rl h e]
 |.bu v=>rfl
mutual
theorem aS.rl{d:Nat}{st:List aa}(h:st.length=d):∀x:aS,x.aP d st=x.den st.reverse
 |.e x=>by simp only[aS.aP,aS.den,aR.rl h]
 |.agg l=>by simp only[aS.aP,aS.den,q4 h l]
 |.bD l=>by simp only[aS.aP,aS.den,q4 h l]
 |.lit sz len l=>by simp only[aS.aP,aS.den,q4 h l]
 |.fn f l=>by simp only[aS.aP,aS.den,q4 h l]
 |.ref l=>by simp only[aS.aP,aS.den,q4 h l]
theorem q4{d:Nat}{st:List aa}(h:st.length=d):∀l:List aS,cF d st l=ep st.reverse l
 |[]=>rfl
 |x::l=>by simp only[cF,ep,aS.rl h x,q4 h l]
end
def Prim.fZ(P:Program)(d:Nat)(st:List aa):Prim->Option aa
 |.bin op t x y=>eB P op t (x.aP d st) (y.aP d st)
 |.un op x=>rH op (x.aP d st)
 |.conv s t x=>q5 P s t (x.aP d st)
 |.ext x i=>ll (x.aP d st) i
 |.agg n x=>vc n (x.aP d st)
 |.one x=>na (x.aP d st)
 |.row sz x i=>kp sz (x.aP d st) (i.aP d st)
 |.idx t x i=>uJ P t (x.aP d st) (i.aP d st)
 |.len t x=>ht P t (x.aP d st)
 |.slice t x lo hi=>p1 P t (x.aP d st) (lo.map (aS.aP d st)) (hi.map (aS.aP d st))
 |.iz qC l=>xK qC (cF d st l)
 |.j2 l=>some (.agg (cF d st l))
 |.mk z b n=>tL z b (n.aP d st)
 |.kX sz c i=>zj sz (c.aP d st) (i.aP d st)
 |.get sz fo n c i=>zk sz fo n (c.aP d st) (i.aP d st)
 |.put sz fo c i l=>vd sz fo (c.aP d st) (i.aP d st) (cF d st l)
 |.push sz b c y=>uW sz b (c.aP d st) (y.aP d st)
 |.oG sz c=>Bg sz (c.aP d st)
 |.bK sz b c=>iU st.reverse sz b (c.aP d st)
 |.deref n x=>A5 n (x.aP d st)
 |.cont r sz x=>po r sz (x.aP d st)
 |.wZ x=>EI (x.aP d st)
 |.ints x=>EX (x.aP d st)
 |.ins cR sz c l=>Ku P cR sz (c.aP d st) (cF d st l)
 |.keys sz x=>JZ sz (x.aP d st)
 |.mI sz c=>Lz sz (c.aP d st)
 |.lI c=>LA (c.aP d st)
 |.qz c=>Kv (c.aP d st)
 |.qA b c=>Kw st.reverse b (c.aP d st)
theorem Prim.afr{P:Program}{d:Nat}{st:List aa}(h:st.length=d)(p:Prim):p.fZ P d st=p.run P st.reverse:=by
 have aQ:aS.aP d st=aS.den st.reverse:=funext λx=>aS.rl h x;cases p<;>simp only[Prim.fZ,Prim.run,aR.rl h,aS.rl h,q4 h,aQ]
structure b6(C:b2->FuncId->List aa->Option aa)(n:Nat)(t:Tree)(d:Nat)(st:List aa)(R:Out->Prop):Prop where
 run:st.length=d->bN Tryz.prog C n t st.reverse R
def dz:List aa->List aa->List aa
 |[],st=>st
 |v::af,st=>dz af (v::st)
theorem DK:∀(af st:List aa),(dz af st).length=st.length+af.length
 |[],st=>rfl
 |v::af,st=>by simp only[dz,DK af,List.length_cons];omega
theorem DL:∀(af st:List aa),(dz af st).reverse=st.reverse++af
 |[],st=>by simp[dz]
 |v::af,st=>by simp only[dz,DL af,List.reverse_cons,List.append_assoc,List.cons_append,List.nil_append]
theorem gj{k:Nat}{g:FuncId}{args:List aa}{t:Tree}{fn:Func}{Q:aa->Prop}(a1:cA g=some t)(aQ:Tryz.prog.funcs[g]?=some fn)(gN:dd (flagsOf 23 fn) args=true)(h:b6 (E Tryz.prog k) 4096 t args.length (dz args []) λo=>∃v,o=.val v/\v.plain=true/\Q v):dT (k+1) g args Q:=lO a1 aQ gN (by have:=h.run (by rw[DK];simp);rwa[DL]at this)
theorem eK{C:b2->FuncId->List aa->Option aa}{n:Nat}{t:Tree}{d dq:Nat}{st fv:List aa}{R:Out->Prop}(aV:d=dq)(ao:st=fv)(k:b6 C n t dq fv R):b6 C n t d st R:=by subst aV ao;exact k
section
variable{C:b2->FuncId->List aa->Option aa}{n:Nat}{R:Out->Prop}{d:Nat}{st:List aa}{t:Tree}
theorem wp{p:Prim}(v:aa)(h:p.fZ Tryz.prog d st=some v)(k:b6 C n t (d+1) (v::st) R):b6 C n (.av p t) d st R:=⟨λak=>dk.2 ⟨v,by rw[←Prim.afr ak,h],by have:=k.run (by simp[ak]);rwa[List.reverse_cons]at this⟩⟩
theorem pe{x:aS}{i:Nat}{v:aa}(h:ll (x.aP d st) i=some v)(k:b6 C n t (d+1) (v::st) R):b6 C n (.av (.ext x i) t) d st R:=wp v h k
theorem eU{x:aS}{m:Nat}{cs:List aa}(h:x.aP d st=.agg cs)(ak:cs.length=m)(k:b6 C n t (d+1) (.agg cs::st) R):b6 C n (.av (.agg m x) t) d st R:=wp _ (by simp[Prim.fZ,h,vc,ak]) k
theorem IN{T:TypeId}{x y:aS}{a b:Nat}(aj:x.aP d st=ax a)(aF:y.aP d st=ax b)(hb:a+b<9223372036854775807)(k:b6 C n t (d+1) (ax ((a+b:Nat):Int)::st) R):b6 C n (.av (.bin .add T x y) t) d st R:=wp _ (by simp[Prim.fZ,aj,aF,wrap64 (n:=(a:Int)+b) (by omega) (by omega)]) k
theorem ac6{T:TypeId}{x y:aS}{a b:Nat}(aj:x.aP d st=ax a)(aF:y.aP d st=ax b)(hb:b<=a/\a<9223372036854775807)(k:b6 C n t (d+1) (ax ((a-b:Nat):Int)::st) R):b6 C n (.av (.bin .sub T x y) t) d st R:=wp _ (by
 have e:(a:Int)-b=((a-b:Nat):Int):=by omega
 simp only[Prim.fZ,aj,aF,Pl,e];rw[wrap64 (by omega) (by omega)]) k
theorem Ek{T:TypeId}{x y:aS}{a b:Int}(aj:x.aP d st=ax a)(aF:y.aP d st=ax b)(U:-9223372036854775808<=a-b)(ab:a-b<=9223372036854775807)(k:b6 C n t (d+1) (ax (a-b)::st) R):b6 C n (.av (.bin .sub T x y) t) d st R:=wp _ (by simp[Prim.fZ,aj,aF,wrap64 U ab]) k
theorem ie{T:TypeId}{x y:aS}{a:Nat}(aj:x.aP d st=ax a)(aF:y.aP d st=ax 1)(hb:a<9223372036854775806)(k:b6 C n t (d+1) (ax ((a+1:Nat):Int)::st) R):b6 C n (.av (.bin .add T x y) t) d st R:=IN (a:=a) (b:=1) aj aF (by omega) k
theorem AT{T:TypeId}{x y:aS}{a:Nat}(aj:x.aP d st=ax a)(aF:y.aP d st=ax 1)(hb:1<=a/\a<9223372036854775807)(k:b6 C n t (d+1) (ax ((a-1:Nat):Int)::st) R):b6 C n (.av (.bin .sub T x y) t) d st R:=ac6 (a:=a) (b:=1) aj aF (by omega) k
theorem hJ{T:TypeId}{x y:aS}{i:IntKind}{a b:Int}(aj:x.aP d st=.int i a)(aF:y.aP d st=.int i b)(k:b6 C n t (d+1) (.bool (decide (a≠b))::st) R):b6 C n (.av (.bin .neq T x y) t) d st R:=wp _ (by simp[Prim.fZ,aj,aF]) k
theorem hZ{T:TypeId}{x y:aS}{i:IntKind}{a b:Int}(aj:x.aP d st=.int i a)(aF:y.aP d st=.int i b)(k:b6 C n t (d+1) (.bool (decide (a<b))::st) R):b6 C n (.av (.bin .lss T x y) t) d st R:=wp _ (by simp[Prim.fZ,aj,aF]) k
theorem A6{T:TypeId}{x y:aS}{i:IntKind}{a b:Int}(aj:x.aP d st=.int i a)(aF:y.aP d st=.int i b)(k:b6 C n t (d+1) (.bool (decide (a<=b))::st) R):b6 C n (.av (.bin .leq T x y) t) d st R:=wp _ (by simp[Prim.fZ,aj,aF]) k
theorem pf{T:TypeId}{x y:aS}{i:IntKind}{a b:Int}(aj:x.aP d st=.int i a)(aF:y.aP d st=.int i b)(k:b6 C n t (d+1) (.bool (decide (b<a))::st) R):b6 C n (.av (.bin .gtr T x y) t) d st R:=wp _ (by simp[Prim.fZ,aj,aF]) k
theorem Jl{T:TypeId}{x y:aS}{i:IntKind}{a b:Int}(aj:x.aP d st=.int i a)(aF:y.aP d st=.int i b)(k:b6 C n t (d+1) (.bool (decide (b<=a))::st) R):b6 C n (.av (.bin .geq T x y) t) d st R:=wp _ (by simp[Prim.fZ,aj,aF]) k
theorem apw:Tryz.prog.underlying 4=some .bool:=by kernel_rfl
theorem aoK{x y:aS}{a b:Bool}(aj:x.aP d st=.bool a)(aF:y.aP d st=.bool b)(k:b6 C n t (d+1) (.bool (a != b)::st) R):b6 C n (.av (.bin .neq 4 x y) t) d st R:=wp _ (by simp[Prim.fZ,aj,aF,eB,apw]) k
theorem wI{x:aS}{a:Bool}(aj:x.aP d st=.bool a)(k:b6 C n t (d+1) (.bool (!a)::st) R):b6 C n (.av (.un .not x) t) d st R:=wp _ (by simp[Prim.fZ,aj]) k
theorem ib{x:aS}{v:aa}{l:List Int}(aj:x.aP d st=v)(h:dI v l)(k:b6 C n t (d+1) (ax l.length::st) R):b6 C n (.av (.len 22 x) t) d st R:=wp _ (by rw[←h.len,←aj];rfl) k
theorem k9{x:aS}{v:aa}{l:List aX}(aj:x.aP d st=v)(h:mQ v l)(k:b6 C n t (d+1) (ax l.length::st) R):b6 C n (.av (.len 25 x) t) d st R:=wp _ (by rw[←h.len,←aj];rfl) k
theorem aoF{x:aS}{v:aa}{l:List (Nat×Bool)}(aj:x.aP d st=v)(h:vO v l)(k:b6 C n t (d+1) (ax l.length::st) R):b6 C n (.av (.len 38 x) t) d st R:=wp _ (by rw[←h.len,←aj];rfl) k
theorem uG{x i:aS}{v:aa}{l:List Int}{m:Nat}(aj:x.aP d st=v)(h:dI v l)(hi:i.aP d st=ax m)(hm:m<l.length)(k:b6 C n t (d+1) (.agg [ax (l.getD m 0)]::st) R):b6 C n (.av (.row 1 x i) t) d st R:=wp _ (by rw[←tc h hm,←aj,←hi];rfl) k
theorem Pk{c:aR}{y:aS}{l:List Int}{a:Int}{b:Nat}(ah:c.aP d st=.agg (l.map ax))(aF:y.aP d st=.sl none 1 0 1 [ax a])(hb:b<=64)(ak:l.length<1000000)(k:b6 C n t (d+1) (.agg ((l++[a]).map ax)::st) R):b6 C n (.av (.push 1 b c y) t) d st R:=wp _ (by simp only[Prim.fZ,ah,aF];exact Ih hb ak) k
theorem El{c:aR}{a b:Tree}(h:c.aP d st=.bool true)(k:b6 C n a d st R):b6 C n (.ite c a b) d st R:=⟨λak=>run_ite.2 (.inl ⟨by rw[←aR.rl ak];exact h,k.run ak⟩)⟩
theorem qV{c:aR}{a b:Tree}(h:c.aP d st=.bool false)(k:b6 C n b d st R):b6 C n (.ite c a b) d st R:=⟨λak=>run_ite.2 (.inr ⟨by rw[←aR.rl ak];exact h,k.run ak⟩)⟩
theorem wq{c:aR}{a b:Tree}{x:Bool}(h:c.aP d st=.bool x)(k1:x=true->b6 C n a d st R)(bf:x=false->b6 C n b d st R):b6 C n (.ite c a b) d st R:=by
 cases x
 ·exact qV h (bf rfl)
 ·exact El h (k1 rfl)
theorem cK{c:aR}{a b:Tree}{p:Prop}[inst:Decidable p](h:c.aP d st=.bool (decide p))(k1:p->b6 C n a d st R)(bf:¬p->b6 C n b d st R):b6 C n (.ite c a b) d st R:=wq h (λe=>k1 (of_decide_eq_true e)) (λe=>bf (of_decide_eq_false e))
theorem D4{c:aR}{a b:Tree}{p:Prop}[inst:Decidable p](h:c.aP d st=.bool (decide p))(ae:p)(k:b6 C n a d st R):b6 C n (.ite c a b) d st R:=El (by rw[h,decide_eq_true ae]) k
theorem pW{c:aR}{a b:Tree}{p:Prop}[inst:Decidable p](h:c.aP d st=.bool (decide p))(ae:¬p)(k:b6 C n b d st R):b6 C n (.ite c a b) d st R:=qV (by rw[h,decide_eq_false ae]) k
theorem cw{L:Nat}{l:List aS}{J:List aa->Prop}(h:J (cF d st l)):b6 C n (.jump L l) d st (fV L J R):=⟨λak=>kG.2 (mj.2 (by rw[←q4 ak];exact h))⟩
theorem ia{L cL:Nat}{l:List aS}{J:List aa->Prop}(aI:cL≠L)(h:b6 C n (.jump cL l) d st R):b6 C n (.jump cL l) d st (fV L J R):=⟨λak=>kG.2 ((Y4 aI).2 (kG.1 (h.run ak)))⟩
theorem gK{L:Nat}{v:aS}{J:List aa->Prop}(h:b6 C n (.ret v) d st R):b6 C n (.ret v) d st (fV L J R):=⟨λak=>uE.2 (acg.2 (uE.1 (h.run ak)))⟩
end
theorem wp_ret{C:b2->FuncId->List aa->Option aa}{n:Nat}{d:Nat}{st:List aa}{x:aS}{v:aa}{Q:aa->Prop}(h:x.aP d st=v)(ae:v.plain=true)(aH:Q v):b6 C n (.ret x) d st λo=>∃v,o=.val v/\v.plain=true/\Q v:=⟨λak=>uE.2 ⟨v,by rw[←aS.rl ak,h],ae,aH⟩⟩
theorem sX{p q:Prop}[Decidable p][Decidable q](h:p↔q):[aa.bool (decide p)]=[aa.bool (decide q)]:=by rw[decide_eq_decide.2 h]
theorem xi{q:Prop}[Decidable q](h:q):[aa.bool true]=[aa.bool (decide q)]:=by rw[decide_eq_true h]
theorem EZ{q:Prop}[Decidable q](h:¬q):[aa.bool false]=[aa.bool (decide q)]:=by rw[decide_eq_false h]
def amT:Tree->Tree
 |.join _ b _=>b
 |t=>t
theorem nN{C:mR}{n k:Nat}{R:Out->Prop}{d:Nat}{st:List aa}{g:FuncId}{args:List aa}{es:List aS}{t:Tree}{Q:aa->Prop}(h:ks C k g args Q)(e:cF d st es=args)(gJ:∀v,Q v->b6 (C k) n t (d+1) (v::st) R):b6 (C k) n (.call g es t) d st R:=⟨λak=>kN h (by rw[←q4 ak];exact e) λv ai=>by have:=(gJ v ai).run (by simp[ak]);rwa[List.reverse_cons]at this⟩
theorem dr{C:mR}{n k:Nat}{R:Out->Prop}{d:Nat}{st:List aa}{g:FuncId}{args:List aa}{es:List aS}{t:Tree}{w:aa}(h:ks C k g args λv=>v=w)(e:cF d st es=args)(gJ:b6 (C k) n t (d+1) (w::st) R):b6 (C k) n (.call g es t) d st R:=nN h e λv ai=>by rw[ai];exact gJ
theorem ez{C:b2->FuncId->List aa->Option aa}{n:Nat}{R:Out->Prop}{d:Nat}{st:List aa}{L:Nat}{b k:Tree}(J:List aa->Prop)(h:b6 C n b d st (fV L J R))(aq:∀af,J af->b6 C n k (d+af.length) (dz af st) R):b6 C n (.join L b k) d st R:=⟨λak=>hY J (h.run ak) λaf ai=>by have:=(aq af ai).run (by rw[DK,ak]);rwa[DL]at this⟩
theorem wp_loop{C:b2->FuncId->List aa->Option aa}{n:Nat}{R:Out->Prop}{d:Nat}{st:List aa}{L:Nat}{init:List aS}{b:Tree}(I:Nat->List aa->Prop)(N:Nat)(gq:N<n)(aT:I N (cF d st init))(ao:∀j af,I j af->b6 C n b (d+af.length) (dz af st) (fV L (λcB=>∃j5,j5<j/\I j5 cB) R)):b6 C n (.loop L init b) d st R:=⟨λak=>o7 I N gq (by rw[←q4 ak];exact aT) λj af ai=>by have:=(ao j af ai).run (by rw[DK,ak]);rwa[DL]at this⟩
end
section
open Go Go.RowKit
def ov(x:aa)(l:List a7):Prop:=(x=.bC/\l=[])\/∃off,x=.sl none 5 off l.length (uM l)
theorem VV{l:List a7}(h:∀p∈l,dI p.k6 p.g):bG (uM l)=true:=by
 induction l with
 |nil=>rfl
 |cons p l az=>
  have:uM (p::l)=p.cells++uM l:=by simp[uM]
  rw[this];simp[a7.cells,(h p (by simp)).plain,az λx aj=>h x (by simp[aj])]
theorem ov.plain{x:aa}{l:List a7}(h:ov x l)(ak:∀p∈l,dI p.k6 p.g):x.plain=true/\x.one=true:=by
 rcases h with⟨rfl,_⟩|⟨off,rfl⟩
 ·simp
 ·simp[VV ak]
theorem ov.len{x:aa}{l:List a7}(h:ov x l):ht Tryz.prog 47 x=some (ax l.length):=by
 obtain⟨e,he⟩:=agk;rcases h with⟨rfl,rfl⟩|⟨off,rfl⟩<;>simp[ht,he]
theorem BA{x:aa}{l:List a7}(h:ov x l){n:Nat}(aI:n<l.length):kp 5 x (ax n)=some (.agg (l.getD n default).cells):=by
 rcases h with⟨rfl,rfl⟩|⟨off,rfl⟩
 ·simp at aI
 ·exact agn aI
theorem GR{l:List aX}(h:∀r∈l,dI r.sp r.st):bG (dJ l)=true:=by
 induction l with
 |nil=>rfl
 |cons r l az=>simp[aX.cells,(h r (by simp)).plain,az λx aj=>h x (by simp[aj])]
theorem mQ.Jg{x:aa}{l:List aX}(h:mQ x l)(ak:∀r∈l,dI r.sp r.st):x.plain=true/\x.one=true:=by
 rcases h with⟨rfl,_⟩|⟨off,rfl⟩
 ·simp
 ·simp[GR ak]
theorem pH{l:List aX}{i:Nat}(h:i<l.length):l.getD i default∈l:=by simp[List.getD_eq_getElem?_getD,h]
theorem Ll{l:List a7}{i:Nat}(h:i<l.length):l.getD i default∈l:=by simp[List.getD_eq_getElem?_getD,h]
theorem zI{l:List Int}{i:Nat}(h:i<l.length):l.getD i 0∈l:=by simp[List.getD_eq_getElem?_getD,h]
section
variable{C:b2->FuncId->List aa->Option aa}{n:Nat}{R:Out->Prop}{d:Nat}{st:List aa}{t:Tree}
theorem kg{x:aS}{p:Prop}[inst:Decidable p](aj:x.aP d st=.bool (decide p))(k:b6 C n t (d+1) (.bool (decide (¬p))::st) R):b6 C n (.av (.un .not x) t) d st R:=by
 refine wI aj ?_;rwa[←decide_not]
theorem wj{x:aS}{v:aa}{l:List a7}(aj:x.aP d st=v)(h:ov v l)(k:b6 C n t (d+1) (ax l.length::st) R):b6 C n (.av (.len 47 x) t) d st R:=wp _ (by rw[←h.len,←aj];rfl) k
end
structure iq(b3:aa)(l:List aX):Prop where
 gS:mQ b3 l
 rd:∀r∈l,dI r.sp r.st
 len:l.length<=20
 ma:∀r∈l,r.st.length<=20
theorem iq.plain{b3:aa}{l:List aX}(h:iq b3 l):b3.plain=true/\b3.one=true:=h.gS.Jg h.rd
structure lk(p:a7):Prop where
 c5:dI p.k6 p.g
 len:p.g.length<=20
theorem Hand.raw{slip:Int}{b3:aa}{l:List aX}(h:Hand slip b3 l):iq b3 l:=⟨h.gS,λr ad=>(h.ok r ad).c5,by have:=h.fI;omega,λr ad=>by have:=(h.ok r ad).ei;omega⟩
theorem a7.ok.raw{p:a7}(h:p.ok):lk p:=⟨h.c5,by have:=h.pR;omega⟩
structure Bh(a b:List aX):Prop where
 len:a.length=b.length
 st:∀i,i<a.length->(a.getD i default).st=(b.getD i default).st
 l8:∀i,i<a.length->(a.getD i default).lines=(b.getD i default).lines
 wd:∀i,i<a.length->(a.getD i default).width=(b.getD i default).width
theorem Bh.symm{a b:List aX}(h:Bh a b):Bh b a:=⟨h.len.symm,λi hi=>(h.st i (by rw[h.len];exact hi)).symm,λi hi=>(h.l8 i (by rw[h.len];exact hi)).symm,λi hi=>(h.wd i (by rw[h.len];exact hi)).symm⟩
end
section
open Go Go.RowKit
theorem uF{α:Type}{l:List α}{d:α}{P:α->Prop}(h:∀m,m<l.length->P (l.getD m d)):∀x∈l,P x:=λx aj=>by grind [List.getElem_of_mem]
def p6(l:List Int)(lo hi:Int):Prop:=∀x∈l,lo<=x/\x<=hi
instance(l:List Int)(lo hi:Int):Decidable (p6 l lo hi):=inferInstanceAs (Decidable (∀x∈l,lo<=x/\x<=hi))
def gF(r:aX):Int:=if r.st.length=0 then 7 else if 3<r.st.length then 6 else if p6 r.st 2 20 then(if(2<=r.lines/\r.lines<=12)/\1<=r.width/\r.width<=60 then 0 else 1)else 1
def oj:List aX->Int
 |[]=>0
 |r::l=>if gF r≠0 then gF r else oj l
def jA(slip:Int)(l:List aX):Int:=if 0<=slip/\slip<=3 then(if l.length=0 then 7 else if 4<l.length then 6 else oj l)else 1
def hj(p:a7):Int:=if 5<p.g.length then 6 else if p6 p.g 1 30 then(if(0<=p.up/\p.up<=30)/\(0<=p.aP/\p.aP<=30)/\0<=p.wd/\p.wd<=60 then 0 else 1)else 1
def pI:List a7->Int
 |[]=>0
 |p::l=>if hj p≠0 then hj p else pI l
def gn(slip:Int)(l:List aX)(ns:List Int)(ps:List a7):Int:=if jA slip l≠0 then jA slip l else if p6 ns 0 (l.length-1)then pI ps else 3
theorem Ij:∀{l:List aX},(∀m,m<l.length->gF (l.getD m default)=0)->oj l=0
 |[],_=>rfl
 |r::l,h=>by
  have aT:gF r=0:=by simpa using h 0 (by simp)
  simp only[oj,aT];exact Ij λm hm=>by simpa using h (m+1) (by grind)
theorem Jj:∀{l:List aX}{i:Nat},i<l.length->(∀m,m<i->gF (l.getD m default)=0)->gF (l.getD i default)≠0->oj l=gF (l.getD i default)
 |r::l,0,_,_,aI=>by grind [oj]
 |r::l,i+1,hi,h,aI=>by
  have aT:gF r=0:=by simpa using h 0 (by omega)
  simp only[oj,aT];exact Jj (by grind) (λm hm=>by grind) aI
theorem Rx:∀{l:List aX},oj l=0->∀r∈l,gF r=0
 |[],_,r,ad=>by simp at ad
 |a::l,h,r,ad=>by
  simp only[oj]at h;by_cases aT:gF a=0
  ·rw[if_neg (by grind)]at h;rcases List.mem_cons.1 ad with rfl|ad
   ·exact aT
   ·exact Rx h r ad
  grind
theorem Ik:∀{l:List a7},(∀m,m<l.length->hj (l.getD m default)=0)->pI l=0
 |[],_=>rfl
 |r::l,h=>by
  have aT:hj r=0:=by simpa using h 0 (by simp)
  simp only[pI,aT];exact Ik λm hm=>by simpa using h (m+1) (by grind)
theorem Jk:∀{l:List a7}{i:Nat},i<l.length->(∀m,m<i->hj (l.getD m default)=0)->hj (l.getD i default)≠0->pI l=hj (l.getD i default)
 |r::l,0,_,_,aI=>by grind [pI]
 |r::l,i+1,hi,h,aI=>by
  have aT:hj r=0:=by simpa using h 0 (by omega)
  simp only[pI,aT];exact Jk (by grind) (λm hm=>by grind) aI
theorem Rt:∀{l:List a7},pI l=0->∀p∈l,hj p=0
 |[],_,r,ad=>by simp at ad
 |a::l,h,r,ad=>by
  simp only[pI]at h;by_cases aT:hj a=0
  ·rw[if_neg (by grind)]at h;rcases List.mem_cons.1 ad with rfl|ad
   ·exact aT
   ·exact Rt h r ad
  grind
theorem aeW{r:aX}(hi:dI r.sp r.st)(h:gF r=0):r.ok:=by
 unfold gF at h;split at h
 ·cases h
 split at h
 ·cases h
 split at h
 ·split at h
  ·rename_i U ab al aJ;exact⟨hi,by omega,by omega,al,aJ.1.1,aJ.1.2,aJ.2.1,aJ.2.2⟩
  ·cases h
 ·cases h
theorem aeM{p:a7}(hi:dI p.k6 p.g)(h:hj p=0):p.ok:=by
 unfold hj at h;split at h
 ·cases h
 split at h
 ·split at h
  ·rename_i U al aJ;exact⟨hi,by omega,al,aJ.1.1,aJ.1.2,aJ.2.1.1,aJ.2.1.2,aJ.2.2.1,aJ.2.2.2⟩
  ·cases h
 ·cases h
theorem aeL{slip:Int}{b3:aa}{l:List aX}(ad:iq b3 l)(h:jA slip l=0):Hand slip b3 l:=by
 unfold jA at h;split at h
 ·split at h
  ·cases h
  split at h
  ·cases h
  rename_i U ab al;exact⟨U.1,U.2,ad.gS,by omega,by omega,λr hm=>aeW (ad.rd r hm) (Rx h r hm)⟩
 ·cases h
theorem sV(k:Nat)(x lo hi:Int):dT (k+1) 88 [ax x,ax lo,ax hi] λv=>v=.bool (decide (lo<=x/\x<=hi)):=(agj k x lo hi).mono λv e=>by rw[e];simp
theorem aeX(k:Nat){r:aX}(hi:dI r.sp r.st)(ak:r.st.length<=20):dT (k+2) 90 [.agg r.cells] λv=>v=ax (gF r):=by
 refine gj (t:=t90) (by kernel_rfl) (fn:=Tryz.f90) (by kernel_rfl) (by simp[dd,flagsOf,aX.cells,hi.plain]) ?_;refine eU (by rfl) rfl ?_;refine ib rfl (by assumption) ?_;refine dr (Ts k _ _) rfl ?_;by_cases U:r.st.length=0
 ·refine hJ rfl rfl ?_;refine D4 rfl (by omega) ?_;refine wp_ret (v:=ax _) rfl rfl ?_;grind [gF]
 by_cases ab:3<r.st.length
 ·refine hJ rfl rfl ?_;refine D4 rfl (by omega) ?_;refine wp_ret (v:=ax _) rfl rfl ?_;grind [gF]
 refine hJ rfl rfl ?_;refine pW rfl (by omega) ?_;refine ib rfl (by assumption) ?_;refine ez (λaf=>af=[]/\p6 r.st 2 20) ?_ ?_
 ·refine wp_loop (λj af=>∃i:Nat,af=[ax i]/\i+j=r.st.length/\∀m,m<i->2<=r.st.getD m 0/\r.st.getD m 0<=20) r.st.length (by omega) ⟨0,rfl,by omega,λm hm=>by omega⟩ ?_;rintro j af ⟨i,rfl,dL,hb⟩;refine hZ rfl rfl ?_;refine cK rfl (λbc=>?_) (λbc=>?_)
  ·have aU:i<r.st.length:=by omega
   refine uG rfl hi rfl aU ?_;refine dr (sV k _ _ _) rfl ?_;refine kg rfl ?_;refine cK rfl (λal=>?_) (λal=>?_)
   ·refine gK ?_;refine gK ?_;refine wp_ret (v:=ax _) rfl rfl ?_;unfold gF;rw[if_neg (by omega),if_neg (by omega),if_neg (λah=>al (ah _ (zI aU)))]
   ·refine ie rfl rfl (by omega) ?_;refine cw ⟨j-1,by omega,i+1,rfl,by omega,λm hm=>?_⟩;by_cases e:m=i
    ·subst e;exact Decidable.not_not.1 al
    ·exact hb m (by omega)
  ·refine ia (by decide) ?_;exact cw ⟨rfl,uF (d:=0) λm hm=>hb m (by omega)⟩
 rintro af ⟨rfl,aN⟩;refine ez (λaf=>af=[.bool (decide (¬((2<=r.lines/\r.lines<=12)/\1<=r.width/\r.width<=60)))]) ?_ ?_
 ·refine dr (sV k _ _ _) rfl ?_;refine kg rfl ?_;refine cK rfl (λal=>?_) (λal=>?_)
  ·exact cw (xi (by omega))
  ·refine dr (sV k _ _ _) rfl ?_;refine kg rfl ?_;exact cw (sX (by omega))
 rintro af rfl;refine cK rfl (λal=>?_) (λal=>?_)
 ·refine wp_ret (v:=ax _) rfl rfl ?_;unfold gF;rw[if_neg (by omega),if_neg (by omega),if_pos aN,if_neg al]
 ·refine wp_ret (v:=ax _) rfl rfl ?_;unfold gF;rw[if_neg (by omega),if_neg (by omega),if_pos aN,if_pos (Decidable.not_not.1 al)]
theorem aeZ(k:Nat){slip:Int}{b3:aa}{l:List aX}(h:iq b3 l):dT (k+3) 41 [.agg [ax slip,b3]] λv=>v=ax (jA slip l):=by
 refine gj (t:=t41) (by kernel_rfl) (fn:=Tryz.f41) (by kernel_rfl) (by simp[dd,flagsOf,h.plain]) ?_;refine eU (by rfl) rfl ?_;refine dr (sV (k+1) _ _ _) rfl ?_;refine kg rfl ?_;refine cK rfl (λao=>?_) (λao=>?_)
 ·refine wp_ret (v:=ax _) rfl rfl ?_;grind [jA]
 refine k9 rfl h.gS ?_;refine dr (Ts (k+1) _ _) rfl ?_;by_cases U:l.length=0
 ·refine hJ rfl rfl ?_;refine D4 rfl (by omega) ?_;refine wp_ret (v:=ax _) rfl rfl ?_;grind [jA]
 by_cases ab:4<l.length
 ·refine hJ rfl rfl ?_;refine D4 rfl (by omega) ?_;refine wp_ret (v:=ax _) rfl rfl ?_;grind [jA]
 refine hJ rfl rfl ?_;refine pW rfl (by omega) ?_;refine k9 rfl h.gS ?_;refine ez (λaf=>af=[]/\oj l=0) ?_ ?_
 ·refine wp_loop (λj af=>∃i:Nat,af=[ax i]/\i+j=l.length/\∀m,m<i->gF (l.getD m default)=0) l.length (by omega) ⟨0,rfl,by omega,λm hm=>by omega⟩ ?_;rintro j af ⟨i,rfl,dL,hb⟩;refine hZ rfl rfl ?_;refine cK rfl (λbc=>?_) (λbc=>?_)
  ·have aU:i<l.length:=by omega
   have du:=m6 h.gS aU;have dA:=λdB=>Jj (l:=l) aU hb dB;have h9:=h.rd _ (pH aU);have h6:=h.ma _ (pH aU);have bh:gF (l.getD i default)=0->∀m,m<i+1->gF (l.getD m default)=0:=λaT m hm=>by grind
   refine wp _ du ?_;refine dr (aeX k h9 h6) rfl ?_;refine hJ rfl rfl ?_;refine cK rfl (λal=>?_) (λal=>?_)
   ·refine gK ?_;refine gK ?_;refine wp_ret (v:=ax _) rfl rfl ?_;grind [jA]
   ·refine ie rfl rfl (by omega) ?_;exact cw ⟨j-1,by omega,i+1,rfl,by omega,bh (Decidable.not_not.1 al)⟩
  ·refine ia (by decide) ?_;exact cw ⟨rfl,Ij λm hm=>hb m (by omega)⟩
 rintro af ⟨rfl,aN⟩;refine wp_ret (v:=ax _) rfl rfl ?_;grind [jA]
theorem ae1(k:Nat){p:a7}(h:lk p):dT (k+2) 99 [.agg p.cells] λv=>v=ax (hj p):=by
 refine gj (t:=t99) (by kernel_rfl) (fn:=Tryz.f99) (by kernel_rfl) (by simp[dd,flagsOf,a7.cells,h.c5.plain]) ?_;refine eU (by rfl) rfl ?_;refine ib rfl h.c5 ?_;refine pf rfl rfl ?_;refine cK rfl (λU=>?_) (λU=>?_)
 ·refine wp_ret (v:=ax _) rfl rfl ?_;grind [hj]
 refine ib rfl h.c5 ?_;refine ez (λaf=>af=[]/\p6 p.g 1 30) ?_ ?_
 ·refine wp_loop (λj af=>∃i:Nat,af=[ax i]/\i+j=p.g.length/\∀m,m<i->1<=p.g.getD m 0/\p.g.getD m 0<=30) p.g.length (by omega) ⟨0,rfl,by omega,λm hm=>by omega⟩ ?_;rintro j af ⟨i,rfl,dL,hb⟩;refine hZ rfl rfl ?_;refine cK rfl (λbc=>?_) (λbc=>?_)
  ·have aU:i<p.g.length:=by omega
   refine uG rfl h.c5 rfl aU ?_;refine dr (sV k _ _ _) rfl ?_;refine kg rfl ?_;refine cK rfl (λal=>?_) (λal=>?_)
   ·refine gK ?_;refine gK ?_;refine wp_ret (v:=ax _) rfl rfl ?_;unfold hj;rw[if_neg (by omega),if_neg (λah=>al (ah _ (zI aU)))]
   ·refine ie rfl rfl (by omega) ?_;refine cw ⟨j-1,by omega,i+1,rfl,by omega,λm hm=>?_⟩;grind
  ·refine ia (by decide) ?_;exact cw ⟨rfl,uF (d:=0) λm hm=>hb m (by omega)⟩
 rintro af ⟨rfl,aN⟩;refine ez (λaf=>af=[.bool (decide (¬((0<=p.up/\p.up<=30)/\(0<=p.aP/\p.aP<=30)/\0<=p.wd/\p.wd<=60)))]) ?_ ?_
 ·refine dr (sV k _ _ _) rfl ?_;refine kg rfl ?_;refine cK rfl (λal=>?_) (λal=>?_)
  ·exact cw (xi (by omega))
  ·refine dr (sV k _ _ _) rfl ?_;refine kg rfl ?_;refine cK rfl (λaJ=>?_) (λaJ=>?_)
   ·exact cw (xi (by omega))
   ·refine dr (sV k _ _ _) rfl ?_;refine kg rfl ?_;exact cw (sX (by omega))
 rintro af rfl;refine cK rfl (λal=>?_) (λal=>?_)
 ·refine wp_ret (v:=ax _) rfl rfl ?_;unfold hj;rw[if_neg (by omega),if_pos aN,if_neg al]
 ·refine wp_ret (v:=ax _) rfl rfl ?_;unfold hj;rw[if_neg (by omega),if_pos aN,if_pos (Decidable.not_not.1 al)]
end
section
open Go Go.RowKit
theorem QA{slip:Int}{l:List aX}(h:jA slip l=0):1<=l.length:=by
 unfold jA at h;split at h
 ·split at h
  ·cases h
  ·omega
 ·cases h
def Ry(slip:Int)(b3:aa)(e:Int)(v:aa):Prop:=∃a b,v=.bD [.agg [a,b],ax e]/\(e=0->a=ax slip/\b=b3)/\bG [a,b]=true
theorem HE{slip:Int}{b3:aa}{e:Int}(h:e≠0):Ry slip b3 e (.bD [.agg [ax 0,.bC],ax e]):=⟨_,_,rfl,λbc=>absurd bc h,rfl⟩
theorem Sz(k:Nat){slip:Int}{b3 x y:aa}{l:List aX}{ns:List Int}{ps:List a7}(h:iq b3 l)(aj:dI x ns)(mB:ns.length<4000)(aF:ov y ps)(ae:∀p∈ps,lk p)(cD:ps.length<4000):dT (k+4) 56 [.agg [ax slip,b3],x,y] (Ry slip b3 (gn slip l ns ps)):=by
 refine gj (t:=t56) (by kernel_rfl) (fn:=Tryz.f56) (by kernel_rfl) (by simp[dd,flagsOf,h.plain,aj.plain,aF.plain λp hm=>(ae p hm).c5]) ?_;have hlen:=h.len;refine eU (by simp only[ag,aD,aM,aS.aP,aR.aP,cF,nth,cM,List.getD_cons_succ,List.getD_cons_zero,aX.cells,a7.cells];rfl) rfl ?_;refine dr (aeZ k h) rfl ?_;refine hJ rfl rfl ?_;refine cK rfl (λhe=>?_) (λhe=>?_)
 ·refine wp_ret (v:=.bD [.agg [ax 0,.bC],ax _]) rfl rfl ?_;unfold gn;rw[if_pos he];exact HE he
 replace he:=Decidable.not_not.1 he;have gk:=QA he;refine ib rfl aj ?_;refine ez (λaf=>af=[]/\p6 ns 0 (l.length-1)) ?_ ?_
 ·refine wp_loop (λj af=>∃i:Nat,af=[ax i]/\i+j=ns.length/\∀m,m<i->0<=ns.getD m 0/\ns.getD m 0<=(l.length:Int)-1) ns.length (by omega) ⟨0,rfl,by omega,λm hm=>by omega⟩ ?_;rintro j af ⟨i,rfl,dL,hb⟩;refine hZ rfl rfl ?_;refine cK rfl (λbc=>?_) (λbc=>?_)
  ·have aU:i<ns.length:=by omega
   refine uG rfl aj rfl aU ?_;refine k9 rfl h.gS ?_;refine AT rfl rfl (by omega) ?_;refine dr (sV _ _ _ _) rfl ?_;refine kg rfl ?_;refine cK rfl (λal=>?_) (λal=>?_)
   ·refine gK ?_;refine gK ?_;refine wp_ret (v:=.bD [.agg [ax 0,.bC],ax 3]) rfl rfl ?_;unfold gn;rw[if_neg (by simpa using he),if_neg (λah=>al (by have:=ah _ (zI aU);omega))];exact HE (by decide)
   ·refine ie rfl rfl (by omega) ?_;refine cw ⟨j-1,by omega,i+1,rfl,by omega,λm hm=>?_⟩;by_cases e:m=i
    ·subst e;have:=Decidable.not_not.1 al;omega
    ·exact hb m (by omega)
  ·refine ia (by decide) ?_;exact cw ⟨rfl,uF (d:=0) λm hm=>hb m (by omega)⟩
 rintro af ⟨rfl,aN⟩;try refine eK (by(try simp only[List.length_cons,List.length_nil,Nat.reduceAdd,Nat.zero_add]);rfl) (by(try simp only[dz]);rfl) ?_
 refine wj rfl aF ?_;refine ez (λaf=>af=[]/\pI ps=0) ?_ ?_
 ·refine wp_loop (λj af=>∃i:Nat,af=[ax i]/\i+j=ps.length/\∀m,m<i->hj (ps.getD m default)=0) ps.length (by omega) ⟨0,rfl,by omega,λm hm=>by omega⟩ ?_;rintro j af ⟨i,rfl,dL,hb⟩;refine hZ rfl rfl ?_;refine cK rfl (λbc=>?_) (λbc=>?_)
  ·have aU:i<ps.length:=by omega
   have du:=BA aF aU;have dA:=λdB=>Jk (l:=ps) aU hb dB;have h9:=ae _ (Ll aU);have bh:hj (ps.getD i default)=0->∀m,m<i+1->hj (ps.getD m default)=0:=λaT m hm=>by
    by_cases e:m=i
    ·subst e;exact aT
    ·exact hb m (by omega)
   generalize ps.getD i default=p at du dA h9 bh;refine wp _ du ?_;refine dr (ae1 _ h9) rfl ?_;refine hJ rfl rfl ?_;refine cK rfl (λal=>?_) (λal=>?_)
   ·refine gK ?_;refine gK ?_;refine wp_ret (v:=.bD [.agg [ax 0,.bC],ax (hj p)]) rfl rfl ?_;unfold gn;rw[if_neg (by simpa using he),if_pos aN,dA al];exact HE al
   ·refine ie rfl rfl (by omega) ?_;exact cw ⟨j-1,by omega,i+1,rfl,by omega,bh (Decidable.not_not.1 al)⟩
  ·refine ia (by decide) ?_;exact cw ⟨rfl,Ik λm hm=>hb m (by omega)⟩
 rintro af ⟨rfl,bO⟩;refine wp_ret (v:=.bD [.agg [ax slip,b3],ax 0]) rfl (by simp[h.plain]) ?_;unfold gn;rw[if_neg (by simpa using he),if_pos aN,bO];exact⟨_,_,rfl,λ_=>⟨rfl,rfl⟩,by simp[h.plain]⟩
def agt(l:List Int)(i:Nat):Int:=if 0<=l.getD i 0/\l.getD i 0<=300 then(if 0<i/\l.getD i 0<=l.getD (i-1) 0 then 5 else 0)else 1
def Ko(l:List Int):Nat->Int
 |0=>0
 |n+1=>if Ko l n≠0 then Ko l n else agt l n
def aiu(l:List Int):Int:=if 16<l.length then 6 else Ko l l.length
def al8(slip:Int)(l:List aX)(n:Int)(ps:List Int):Int:=if gn slip l [n] []≠0 then gn slip l [n] []else aiu ps
end
section
open Go Go.RowKit
theorem adI{slip:Int}{l:List aX}{ns:List Int}{ps:List a7}(h:gn slip l ns ps=0):jA slip l=0/\p6 ns 0 (l.length-1)/\pI ps=0:=by
 unfold gn at h;split at h
 ·rename_i ah;exact absurd h ah
 ·rename_i ah;split at h
  ·rename_i aN;exact⟨Decidable.not_not.1 ah,aN,h⟩
  ·cases h
end
section
open Go Go.RowKit
theorem c3:Tryz.prog.cellsOf 3=1:=by kernel_rfl
theorem D2{P:Program}{k:Nat}{t:TypeId}{fl:List TypeId}{bz:List aa}(h:qu P k (t::fl) bz):∃q Lm,bz=q::Lm/\l4 P k t q/\qu P k fl Lm:=by
 cases bz with
 |nil=>exact h.elim
 |cons q bz=>exact⟨q,bz,rfl,h.1,h.2⟩
theorem ace{P:Program}{k:Nat}{bz:List aa}(h:qu P k [] bz):bz=[]:=by
 cases bz with
 |nil=>rfl
 |cons q bz=>exact h.elim
end
section
open Go Go.RowKit
abbrev lF(l:List Bool):List aa:=l.map aa.bool
def su(x:aa)(l:List Bool):Prop:=(x=.bC/\l=[])\/∃off,x=.sl none 1 off l.length (lF l)
theorem Pn(l:List Bool):bG (lF l)=true:=by
 induction l with
 |nil=>rfl
 |cons a l az=>simp_all
theorem su.plain{x:aa}{l:List Bool}(h:su x l):x.plain=true/\x.one=true:=by
 rcases h with⟨rfl,_⟩|⟨off,rfl⟩;all_goals simp_all[Pn]
theorem agv:Tryz.prog.underlying 119=some (.slice 4):=by kernel_rfl
theorem su.len{x:aa}{l:List Bool}(h:su x l):ht Tryz.prog 119 x=some (ax l.length):=by rcases h with⟨rfl,rfl⟩|⟨off,rfl⟩<;>simp[ht]
def BB(l:List Bool):aa:=match l with
 |[]=>.bC
 |a::l=>.sl none 1 0 (l.length+1) (lF (a::l))
section
variable{C:b2->FuncId->List aa->Option aa}{n:Nat}{R:Out->Prop}{d:Nat}{st:List aa}{t:Tree}
end
def Cp(slip:Int)(r:aX)(p:a7)(line:Nat)(ob:List Bool):Bool:=(List.range p.g.length).all λk=>ob.getD k false||nr slip (p.g.getD k 0) (dp r (line+k))
def n4(slip:Int)(r:aX)(p:a7)(line:Nat)(ob:List Bool):Bool:=decide (((line+p.g.length:Nat):Int)<=r.lines-1)&&(Cp slip r p line ob&&(!(pG slip r p line||sf slip r p line)&&sg slip r p))
def iV(slip:Int)(r:aX)(p:a7)(ob:List Bool)(t:Bool):Nat->List (Nat×Bool)
 |0=>[]
 |n+1=>iV slip r p ob t n++if n4 slip r p n ob=true then[(n,t)]else[]
def EJ(slip:Int)(r:aX)(p:a7)(ob:List Bool):List (Nat×Bool):=iV slip r p ob false r.lines.toNat++if p.fr then iV slip r (half p) ob.reverse true r.lines.toNat else[]
end
section
open Go Go.RowKit
theorem EY:dI .bC []:=.inl ⟨rfl,rfl⟩
def akV(slip:Int)(l:List aX)(n:Int):List Int:=if gn slip l [n] []=0 then tM (l.getD n.toNat default) (l.getD n.toNat default).lines.toNat else[]
def akv(slip:Int)(l:List aX)(n:Int)(p:a7):List (Nat×Bool):=if gn slip l [n] [p]=0 then kl slip (l.getD n.toNat default) p else[]
theorem J1{p:a7}:ov (.sl none 5 0 1 p.cells) [p]:=.inr ⟨0,by simp[uM]⟩
def lj(p:a7):a7:=⟨.sl none 1 0 p.g.length (p.g.map ax),p.g,p.up,p.aP,p.wd,p.fr⟩
end
section
open Go Go.RowKit
def above(p:a7)(t:Bool):Int:=if t then p.aP else p.up
def below(p:a7)(t:Bool):Int:=if t then p.up else p.aP
def Se(slip:Int)(r:aX)(a b:a7)(x y:Nat×Bool):List Int:=if y.1<=x.1+a.g.length then[]else if below a x.2+above b y.2-2*slip<=a1 r y.1-a1 r (x.1+a.g.length)then[(y.1:Int)-(x.1+a.g.length:Nat)-1]else[]
def SG(slip:Int)(r:aX)(a b:a7)(x:Nat×Bool)(ys:List (Nat×Bool)):List Int:=ys.flatMap (Se slip r a b x)
def S7(slip:Int)(r:aX)(a b:a7)(xs ys:List (Nat×Bool)):List Int:=xs.flatMap λx=>SG slip r a b x ys
def Xd(slip:Int)(a b:a7)(l:List aX):List Int:=l.flatMap λr=>S7 slip r a b (kl slip r a) (kl slip r b)
theorem Az{α:Type}{f:α->List Int}{n:Nat}:∀{l:List α},(∀a∈l,(f a).length<=n)->(l.flatMap f).length<=l.length*n
 |[],_=>by simp
 |a::l,h=>by
  have U:=h a (by simp);have ab:=Az (l:=l) λx aj=>h x (by simp[aj]);rw[List.flatMap_cons,List.length_append,List.length_cons,Nat.add_mul];omega
theorem take_one{α:Type}[Inhabited α]{l:List α}{i:Nat}(h:i<l.length):l.take (i+1)=l.take i++[l.getD i default]:=by
 rw[List.take_add_one];simp[List.getD_eq_getElem?_getD,h]
theorem Bs{slip:Int}{r:aX}{p:a7}{y:Nat×Bool}(h:y∈kl slip r p):y.1<r.lines.toNat/\((y.1+p.g.length:Nat):Int)<=r.lines-1:=by
 rcases y with⟨i,t⟩;have key:∀q:a7,q.g.length=p.g.length->ln slip r q i=true->((i+p.g.length:Nat):Int)<=r.lines-1:=by
  intro q aH ao;simp only[ln,Bool.and_eq_true,decide_eq_true_eq]at ao;rw[←aH];exact ao.1
 simp only[kl,List.mem_append]at h;rcases h with h|h
 ·rw[Qy]at h;exact⟨h.2.1,key p rfl h.2.2⟩
 ·split at h
  ·rw[Qy]at h;exact⟨h.2.1,key (half p) (by simp[half]) h.2.2⟩
  ·simp at h
end
section
open Go Go.RowKit
set_option maxRecDepth 100000
end
section
open Go Go.RowKit
theorem JO{a b:a7}:ov (.sl none 5 0 2 (a.cells++b.cells)) [a,b]:=.inr ⟨0,by simp[uM]⟩
theorem HW{a b:a7}(au:lk a)(hb:lk b):∀p∈[a,b],lk p:=by
 intro p ae;simp at ae;rcases ae with rfl|rfl
 ·exact au
 ·exact hb
theorem IK{slip:Int}{b3:aa}{l:List aX}{a b:a7}(ad:iq b3 l)(au:lk a)(hb:lk b)(h:gn slip l [] [a,b]=0):Hand slip b3 l/\a.ok/\b.ok:=by
 obtain⟨al,_,bI⟩:=adI h;exact⟨aeL ad al,aeM au.c5 (Rt bI a (by simp)),aeM hb.c5 (Rt bI b (by simp))⟩
theorem Co{α:Type}[Inhabited α]{f:α->List Int}{l:List α}{i:Nat}(h:i<l.length):(l.take (i+1)).flatMap f=(l.take i).flatMap f++f (l.getD i default):=by rw[take_one h];simp
theorem CF{α:Type}{f:α->List Int}{l:List α}{Q:Int->Prop}(h:∀a∈l,∀x∈f a,Q x):∀x∈l.flatMap f,Q x:=λx aj=>by
 obtain⟨a,au,aj⟩:=List.mem_flatMap.1 aj;exact h a au x aj
theorem De{α:Type}[Inhabited α]{l:List α}{i:Nat}(h:i<l.length):l.getD i default∈l:=by simp[List.getD_eq_getElem?_getD,h]
section
variable{C:b2->FuncId->List aa->Option aa}{n:Nat}{R:Out->Prop}{d:Nat}{st:List aa}{t:Tree}
def rZ(l:List Int):List Int:=l.mergeSort λx y=>decide (x<=y)
theorem Gr(l:List Int):(l.map ax).all zh=true:=by rw[List.all_eq_true];intro p ae;obtain⟨z,_,rfl⟩:=List.mem_map.1 ae;rfl
theorem I6(l:List Int):(l.map ax).map UT=l:=by
 rw[List.map_map]
 conv=>rhs;rw[←List.map_id l]
 rfl
theorem Rw{c:aR}{l:List Int}(ah:c.aP d st=.agg (l.map ax))(ak:l.length<1000000)(k:b6 C n t (d+1) (.agg ((rZ l).map ax)::st) R):b6 C n (.av (.qz c) t) d st R:=wp _ (by
 simp only[Prim.fZ,ah,Kv];rw[if_pos ⟨Gr l,by rw[List.length_map];omega⟩];simp only[lP,I6];rfl) k
theorem Rz{c:aR}{l:List Int}(ah:c.aP d st=.agg (l.map ax))(ak:l.length<1000000)(k:b6 C n t (d+1) (m9 (agM l)::st) R):b6 C n (.av (.qA .cZ c) t) d st R:=wp _ (by
 simp only[Prim.fZ,ah,Kw];rw[if_pos ⟨Gr l,by rw[List.length_map];omega⟩];cases l with
 |nil=>rfl
 |cons a l=>
  simp only[List.map_cons,isNil,E4];rw[show ∀l:List Int,UT (ax a)::(l.map ax).map UT=a::l from λl=>by rw[I6];rfl];simp only[agM,m9,List.map_cons,List.length_cons,List.length_map]) k
end
theorem DD:∀{l m:List Int},l.Pairwise (·<·)->m.Pairwise (·<·)->(∀x,x∈l↔x∈m)->l=m
 |[],[],_,_,_=>rfl
 |[],y::m,_,_,h=>by have:=(h y).2 (by simp);simp at this
 |x::l,[],_,_,h=>by have:=(h x).1 (by simp);simp at this
 |x::l,y::m,ak,hm,h=>by
  obtain⟨U,ab⟩:=List.pairwise_cons.1 ak;obtain⟨al,aJ⟩:=List.pairwise_cons.1 hm;have e:x=y:=by
   have a:=(h x).1 (by simp);have b:=(h y).2 (by simp);rcases List.mem_cons.1 a with a|a
   ·exact a
   rcases List.mem_cons.1 b with b|b
   ·exact b.symm
   have:=U y b;have:=al x a;omega
  subst e;congr 1;refine DD ab aJ λz=>⟨λbO=>?_,λbO=>?_⟩
  ·have:=U z bO;rcases List.mem_cons.1 ((h z).1 (by simp[bO]))with e|e
   ·omega
   ·exact e
  ·have:=al z bO;rcases List.mem_cons.1 ((h z).2 (by simp[bO]))with e|e
   ·omega
   ·exact e
theorem zH{x:Int}:∀{ys:List Int}{p:Int},x∈p::J0 p ys↔x∈p::ys
 |[],p=>by simp[J0]
 |y::ys,p=>by
  simp only[J0];split
  ·rename_i e;subst e;rw[zH];simp
  ·have:=zH (x:=x) (ys:=ys) (p:=y);rw[List.mem_cons,this];simp
theorem CW:∀{ys:List Int}{p:Int},(p::ys).Pairwise (·<=·)->(p::J0 p ys).Pairwise (·<·)
 |[],p,_=>by simp[J0]
 |y::ys,p,h=>by
  obtain⟨U,ab⟩:=List.pairwise_cons.1 h;obtain⟨al,aJ⟩:=List.pairwise_cons.1 ab;simp only[J0];split
  ·exact CW (List.pairwise_cons.2 ⟨λz bO=>U z (by simp[bO]),aJ⟩)
  ·rename_i bU;refine List.pairwise_cons.2 ⟨λz bO=>?_,CW ab⟩;have FM:=zH.1 bO;have ai7:=U y (by simp);rcases List.mem_cons.1 FM with e|e
   ·omega
   ·have:=al z e;omega
theorem Hi{x:Int}{l:List Int}:x∈agM (rZ l)↔x∈l:=by
 have h:∀m:List Int,x∈agM m↔x∈m:=λm=>by
  cases m with
  |nil=>rfl
  |cons a m=>exact zH
 rw[h,rZ,List.mem_mergeSort]
theorem BQ(l:List Int):(agM (rZ l)).Pairwise (·<·):=by
 have ao:(rZ l).Pairwise (·<=·):=by
  have:=List.pairwise_mergeSort (le:=λx y:Int=>decide (x<=y)) (λa b c U ab=>by simp only[decide_eq_true_eq]at *;omega) (λa b=>by simp only[Bool.or_eq_true,decide_eq_true_eq];omega) l;exact this.imp λh=>by simpa using h
 cases h:rZ l with
 |nil=>simp[agM]
 |cons a m=>rw[h]at ao;exact CW ao
def rR(a b:a7)(x y:Nat×Bool):List Int:=if y.1<=x.1+a.g.length/\x.1<=y.1+b.g.length then[(y.1:Int)-x.1]else[]
def rX(a b:a7)(x:Nat×Bool)(ys:List (Nat×Bool)):List Int:=ys.flatMap (rR a b x)
def rW(a b:a7)(xs ys:List (Nat×Bool)):List Int:=xs.flatMap λx=>rX a b x ys
def rM(slip:Int)(a b:a7)(l:List aX):List Int:=l.flatMap λr=>rW a b (kl slip r a) (kl slip r b)
theorem Pm(a b:a7)(x y:Nat×Bool):(rR a b x y).length<=1:=by unfold rR;split<;>simp
theorem GC{a b:a7}{x:Nat×Bool}{ys:List (Nat×Bool)}(h:ys.length<=24):(rX a b x ys).length<=24:=by
 have:=Az (l:=ys) (f:=rR a b x) (n:=1) λy _=>Pm a b x y;unfold rX;omega
theorem GO{a b:a7}{xs ys:List (Nat×Bool)}(aj:xs.length<=24)(h:ys.length<=24):(rW a b xs ys).length<=576:=by
 have:=Az (l:=xs) (f:=λx=>rX a b x ys) (n:=24) λx _=>GC h;unfold rW;omega
theorem GX{slip:Int}{a b:a7}{l:List aX}(ak:l.length<=4)(fU:∀r∈l,r.ok):(rM slip a b l).length<=2304:=by
 have:=Az (l:=l) (f:=λr=>rW a b (kl slip r a) (kl slip r b)) (n:=576) λr ad=>GO (aot slip (fU r ad) a) (aot slip (fU r ad) b);unfold rM;omega
theorem Qx{slip:Int}{a b:a7}{l:List aX}(fU:∀r∈l,r.ok):∀x∈rM slip a b l,-12<=x/\x<=12:=by
 refine CF λr ad=>CF λx aj=>CF λy aF z bO=>?_;have U:=(Bs aj).1;have ab:=(Bs aF).1;have k5:=(fU r ad).k5;unfold rR at bO;split at bO
 ·simp at bO;omega
 ·simp at bO
def sW(slip:Int)(l:List aX)(a b:a7):List Int:=if gn slip l [] [a,b]=0 then agM (rZ (rM slip a b l))else[]
theorem Pp{slip:Int}{b3:aa}{l:List aX}{a b:a7}(h:iq b3 l)(au:lk a)(hb:lk b):(sW slip l a b).length<=25:=by
 unfold sW;split
 ·rename_i he;obtain⟨e4,_,_⟩:=IK h au hb he;have U:=BQ (rM slip a b l);have ab:=Qx (slip:=slip) (a:=a) (b:=b) e4.ok;have key:∀(m:List Int)(lo:Int),m.Pairwise (·<·)->(∀x∈m,lo<=x/\x<=12)->(m.length:Int)<=max (13-lo) 0:=by
   intro m;induction m with
   |nil=>intro lo _ _;simp;omega
   |cons a m az=>
    intro lo ae hm;obtain⟨al,aJ⟩:=List.pairwise_cons.1 ae;have bm:=hm a (by simp);have:=az (a+1) aJ λx aj=>⟨by have:=al x aj;omega,(hm x (by simp[aj])).2⟩;simp only[List.length_cons];omega
  have:=key _ (-12) U λx aj=>ab x (Hi.1 aj);omega
 ·simp
theorem SF(k:Nat){slip:Int}{b3:aa}{l:List aX}(h:iq b3 l){a b:a7}(au:lk a)(hb:lk b):dT (k+5) 37 [.agg [ax slip,b3],.agg a.cells,.agg b.cells] λv=>∃y,v=.bD [y,ax (gn slip l [] [a,b])]/\dI y (sW slip l a b):=by
 refine gj (t:=t37) (by kernel_rfl) (fn:=Tryz.f37) (by kernel_rfl) (by simp[dd,flagsOf,h.plain,a7.cells,au.c5.plain,hb.c5.plain]) ?_;refine eU (by simp only[ag,aD,aM,aS.aP,aR.aP,cF,nth,cM,List.getD_cons_succ,List.getD_cons_zero,aX.cells,a7.cells];rfl) rfl ?_;refine eU (by simp only[ag,aD,aM,aS.aP,aR.aP,cF,nth,cM,List.getD_cons_succ,List.getD_cons_zero,aX.cells,a7.cells];rfl) rfl ?_;refine eU (by simp only[ag,aD,aM,aS.aP,aR.aP,cF,nth,cM,List.getD_cons_succ,List.getD_cons_zero,aX.cells,a7.cells];rfl) rfl ?_;refine nN (Sz k (slip:=slip) (x:=.bC) (ns:=[]) (y:=.sl none 5 0 2 (a.cells++b.cells)) (ps:=[a,b]) h EY (by simp) JO (HW au hb) (by simp)) rfl ?_;rintro v ⟨p,q,rfl,Wc,cD⟩;refine pe (by simp only[ag,aD,aM,aS.aP,aR.aP,cF,nth,cM,List.getD_cons_succ,List.getD_cons_zero,aX.cells,a7.cells,ll];rfl) ?_;refine pe (by simp only[ag,aD,aM,aS.aP,aR.aP,cF,nth,cM,List.getD_cons_succ,List.getD_cons_zero,aX.cells,a7.cells,ll];rfl) ?_;refine eU (by simp only[ag,aD,aM,aS.aP,aR.aP,cF,nth,cM,List.getD_cons_succ,List.getD_cons_zero,aX.cells,a7.cells];rfl) rfl ?_;refine hJ rfl rfl ?_;refine cK rfl (λhe=>?_) (λhe=>?_)
 ·exact wp_ret (v:=.bD [.bC,ax (gn slip l [] [a,b])]) rfl rfl ⟨.bC,rfl,by unfold sW;rw[if_neg he];exact EY⟩
 replace he:=Decidable.not_not.1 he;obtain⟨rfl,rfl⟩:=Wc he;obtain⟨e4,KJ,LB⟩:=IK h au hb he;have fI:=e4.fI;have F4:=e4.gS;have sc:=au.c5;have se:=hb.c5;have ajC:=KJ.pR;have ajB:=LB.pR;refine k9 rfl (by assumption) ?_;refine ez (λaf=>af=[.agg ((rM slip a b l).map ax)]) ?_ ?_
 ·refine wp_loop (λj af=>∃i:Nat,af=[ax i,.agg ((rM slip a b (l.take i)).map ax)]/\i+j=l.length) l.length (by omega) ⟨0,rfl,by omega⟩ ?_;rintro j af ⟨i,rfl,hi⟩;refine hZ rfl rfl ?_;refine cK rfl (λab=>?_) (λab=>?_)
  ·have aU:i<l.length:=by omega
   have ad:=e4.get aU;have ub:=GX (slip:=slip) (a:=a) (b:=b) (l:=l.take i) (by simp;omega) λr ad=>e4.ok r (List.mem_of_mem_take ad);have aev:rM slip a b (l.take (i+1))=rM slip a b (l.take i)++rW a b (kl slip (l.getD i default) a) (kl slip (l.getD i default) b):=Co aU;have Ce:=λ(p:a7)(ae:p.ok)=>Tw k e4 aU ae;generalize l.getD i default=r at ad aev Ce;have k5:=ad.k5;refine nN (Ce b LB) rfl ?_;intro XL KL;refine nN (Ce a KJ) rfl ?_;intro Yi UM;have Xm:=aot slip ad a;have acn:=aot slip ad b;have Wf:=λy aF=>Bs (slip:=slip) (r:=r) (p:=a) (y:=y) aF;have vx:=λy aF=>Bs (slip:=slip) (r:=r) (p:=b) (y:=y) aF;generalize kl slip r a=A at *;generalize kl slip r b=B at *;generalize rM slip a b (l.take i)=P at *;clear Ce ad;refine aoF rfl UM ?_;refine ez (λaf=>af=[.agg ((P++rW a b A B).map ax)]) ?_ ?_
   ·refine wp_loop (λj af=>∃n:Nat,af=[ax n,.agg ((P++rW a b (A.take n) B).map ax)]/\n+j=A.length) A.length (by omega) ⟨0,by rw[show rW a b (A.take 0) B=[]from rfl,List.append_nil];rfl,by omega⟩ ?_;rintro jG af ⟨n,rfl,aI⟩;refine hZ rfl rfl ?_;refine cK rfl (λal=>?_) (λal=>?_)
    ·have mB:n<A.length:=by omega
     have L3:=Ki UM mB;have Mm:=De mB;have fz:=GO (a:=a) (b:=b) (xs:=A.take n) (ys:=B) (by simp;omega) acn;have aaA:rW a b (A.take (n+1)) B=rW a b (A.take n) B++rX a b (A.getD n default) B:=Co mB;generalize A.getD n default=x at L3 Mm aaA;have dG:=Wf x Mm;generalize rW a b (A.take n) B=Q at *;refine wp _ L3 ?_;refine aoF rfl KL ?_;refine ez (λaf=>af=[.agg ((P++(Q++rX a b x B)).map ax)]) ?_ ?_
     ·refine wp_loop (λj af=>∃m:Nat,af=[ax m,.agg ((P++(Q++rX a b x (B.take m))).map ax)]/\m+j=B.length) B.length (by omega) ⟨0,by rw[show rX a b x (B.take 0)=[]from rfl,List.append_nil];rfl,by omega⟩ ?_;rintro WC af ⟨m,rfl,hm⟩;refine hZ rfl rfl ?_;refine cK rfl (λaJ=>?_) (λaJ=>?_)
      ·have SA:m<B.length:=by omega
       have Mw:=Ki KL SA;have MN:=De SA;have fA:=GC (a:=a) (b:=b) (x:=x) (ys:=B.take m) (by simp;omega);have Ng:rX a b x (B.take (m+1))=rX a b x (B.take m)++rR a b x (B.getD m default):=Co SA;generalize B.getD m default=y at Mw MN Ng;have Lo:=vx y MN;generalize rX a b x (B.take m)=T at *;refine wp _ Mw ?_;refine ez (λaf=>af=[.bool (decide (y.1<=x.1+a.g.length/\x.1<=y.1+b.g.length))]) ?_ ?_
       ·refine ib rfl (by assumption) ?_;refine IN rfl rfl (by omega) ?_;refine A6 rfl rfl ?_;refine cK rfl (λbm=>?_) (λbm=>?_)
        ·refine ib rfl (by assumption) ?_;refine IN rfl rfl (by omega) ?_;refine A6 rfl rfl ?_;exact cw (sX (by omega))
        ·exact cw (EZ (by omega))
       rintro af rfl;try refine eK (by(try simp only[List.length_cons,List.length_nil,Nat.reduceAdd,Nat.zero_add]);rfl) (by(try simp only[dz]);rfl) ?_
       refine ez (λaf=>af=[.agg ((P++(Q++(T++rR a b x y))).map ax)]) ?_ ?_
       ·refine cK rfl (λbm=>?_) (λbm=>?_)
        ·have e:rR a b x y=[(y.1:Int)-x.1]:=by unfold rR;rw[if_pos bm]
         refine Ek rfl rfl (by omega) (by omega) ?_;refine Pk rfl rfl (by decide) (by first|omega|(simp;omega)) ?_;refine cw ?_;rw[e];simp[cF,aS.aP,aR.aP,nth,ag]
        ·have e:rR a b x y=[]:=by unfold rR;rw[if_neg bm]
         refine cw ?_;rw[e,List.append_nil];rfl
       rintro af rfl;refine ie rfl rfl (by omega) ?_;exact cw ⟨WC-1,by omega,m+1,by rw[Ng];rfl,by omega⟩
      ·refine ia (by decide) ?_;have e:B.take m=B:=List.take_of_length_le (by omega);rw[e];exact cw rfl
     rintro af rfl;refine ie rfl rfl (by omega) ?_;exact cw ⟨jG-1,by omega,n+1,by rw[aaA];rfl,by omega⟩
    ·refine ia (by decide) ?_;have e:A.take n=A:=List.take_of_length_le (by omega);rw[e];exact cw rfl
   rintro af rfl;refine ie rfl rfl (by omega) ?_;exact cw ⟨j-1,by omega,i+1,by rw[aev];rfl,by omega⟩
  ·refine ia (by decide) ?_;have e:l.take i=l:=List.take_of_length_le (by omega);rw[e];exact cw rfl
 rintro af rfl;have dg:=GX (slip:=slip) (a:=a) (b:=b) fI e4.ok;refine Rw rfl (by omega) ?_;refine Rz rfl (by simp[rZ];omega) ?_;have aH:=(rh (agM (rZ (rM slip a b l)))).plain;refine wp_ret (v:=.bD [m9 (agM (rZ (rM slip a b l))),ax 0]) rfl (by simp[aH]) ⟨_,by rw[he],?_⟩;unfold sW;rw[if_pos he];exact rh _
end
section
open Go Go.RowKit
def T0:Prim->Bool
 |.ins ..=>false
 |_=>true
def oc:Tree->Bool
 |.av p t=>T0 p&&oc t
 |.ite _ a b=>oc a&&oc b
 |.call _ _ t | .kL _ _ t | .pick _ _ t | .loop _ _ t=>oc t
 |.join _ a b=>oc a&&oc b
 |_=>true
section
variable(P:Program)(fs:Array Func)
theorem adi(t:TypeId)(x y:aa):u2 { P with funcs:=fs } t x y=u2 P t x y:=rfl
theorem Ji:∀(l:List Field)(i:Nat)(xs ys:List aa),s3 { P with funcs:=fs } l i xs ys=s3 P l i xs ys
 |[],_,[],[]=>rfl
 |[],_,_::_,_=>rfl
 |[],_,[],_::_=>rfl
 |_::_,_,[],_=>rfl
 |_::_,_,_::_,[]=>rfl
 |f::l,i,x::xs,y::ys=>by simp only[s3,adi,Ji l]
theorem adj(t:TypeId)(xs ys:List aa):za { P with funcs:=fs } t xs ys=za P t xs ys:=by
 have aK:Program.underlying { P with funcs:=fs } t=P.underlying t:=rfl;have aO:Program.depth { P with funcs:=fs }=P.depth:=rfl;simp only[za,Re,Ja,Ji,aK,aO]
theorem adk(op:BinOp)(t:TypeId)(x y:aa):eB { P with funcs:=fs } op t x y=eB P op t x y:=by
 have aK:Program.underlying { P with funcs:=fs } t=P.underlying t:=rfl;simp only[eB,adj,aK]
theorem abD(ρ:List aa){p:Prim}(h:T0 p=true):Prim.run { P with funcs:=fs } ρ p=Prim.run P ρ p:=by
 cases p with
 |ins=>cases h
 |bin op t x y=>exact adk P fs op t _ _
 |conv s d x=>simp only[Prim.run];rfl
 |idx t x i=>simp only[Prim.run];rfl
 |len t x=>simp only[Prim.run];rfl
 |slice t x lo hi=>simp only[Prim.run];rfl
 |_=>simp only[Prim.run]
theorem qS{C:b2->FuncId->List aa->Option aa}{n:Nat}:∀(t:Tree)(ω:b2)(ρ:List aa),oc t=true->eval { P with funcs:=fs } C n t ω ρ=eval P C n t ω ρ
 |.ret _,_,_,_=>rfl
 |.jump _ _,_,_,_=>rfl
 |.av p t,ω,ρ,h=>by
  simp only[oc,Bool.and_eq_true]at h;simp only[eval,abD P fs ρ h.1];congr 1;funext v;exact qS t _ _ h.2
 |.ite _ a b,ω,ρ,h=>by
  simp only[oc,Bool.and_eq_true]at h;simp only[eval,qS a _ _ h.1,qS b _ _ h.2]
 |.call _ _ t,ω,ρ,h=>by
  have e:=λω ρ=>qS (C:=C) (n:=n) t ω ρ h;simp only[eval,e]
 |.kL _ _ t,ω,ρ,h=>by
  have e:=λω ρ=>qS (C:=C) (n:=n) t ω ρ h;simp only[eval,e]
 |.pick _ _ t,ω,ρ,h=>by
  have e:=λω ρ=>qS (C:=C) (n:=n) t ω ρ h;simp only[eval,e]
 |.loop _ _ t,ω,ρ,h=>by
  have e:=λω ρ=>qS (C:=C) (n:=n) t ω ρ h;simp only[eval,e]
 |.join _ a b,ω,ρ,h=>by
  simp only[oc,Bool.and_eq_true]at h;have aK:=λω ρ=>qS (C:=C) (n:=n) a ω ρ h.1;have aO:=λω ρ=>qS (C:=C) (n:=n) b ω ρ h.2;simp only[eval,aK,aO]
 |.die,_,_,_=>rfl
end
theorem abE{C:b2->FuncId->List aa->Option aa}{n:Nat}{t:Tree}(h:oc t=true)(ω:b2)(ρ:List aa):eval cl C n t ω ρ=eval Tryz.prog C n t ω ρ:=qS Tryz.prog cl.funcs t ω ρ h
theorem Rf{k:Nat}{g:FuncId}{args:List aa}{t:Tree}{fn:Func}{Q:aa->Prop}(a1:PP.cA g=some t)(aQ:cl.funcs[g]?=some fn)(gN:dd (flagsOf 23 fn) args=true)(ar:oc t=true)(h:bN Tryz.prog (PP.E cl k) 4096 t args λo=>∃v,o=.val v/\v.plain=true/\Q v):ks (PP.E cl) (k+1) g args Q:=by
 intro ω;obtain⟨o,U,v,rfl,ae,gI⟩:=h ω;refine⟨v,?_,gI⟩;unfold PP.E;simp only[jD,a1,aQ];rw[if_pos gN,abE ar];have bc:=U;unfold PP.E at bc;rw[bc];simp[ae]
theorem adl{g:FuncId}(h:zx g=true):PP.cA g=cA g:=by
 have aT:=h;simp only[zx,Bool.and_eq_true,bne_iff_ne,ne_eq]at aT;obtain⟨t,a1⟩:=Option.isSome_iff_exists.1 aT.1;obtain⟨w,hm,rfl,_⟩:=iN.DW a1;have U:(w.g=91\/w.g=92\/w.g=96\/w.g=121\/w.g=122\/w.g=123\/w.g=130\/w.g=131\/w.g=163)\/w.g=103\/w.g=58:=by
  have key:PP.xW.rows.all (λw=>decide ((w.g=91\/w.g=92\/w.g=96\/w.g=121\/w.g=122\/w.g=123\/w.g=130\/w.g=131\/w.g=163)\/w.g=103\/w.g=58))=true:=by kernel_rfl
  exact of_decide_eq_true (List.all_eq_true.1 key w hm)
 rcases U with U|U|U
 ·have fG:PP.cA 91=cA 91:=(show PP.cA 91=some t91 by kernel_rfl).trans (show cA 91=some t91 by kernel_rfl).symm;have ha:PP.cA 92=cA 92:=(show PP.cA 92=some t92 by kernel_rfl).trans (show cA 92=some t92 by kernel_rfl).symm;have od:PP.cA 96=cA 96:=(show PP.cA 96=some t96 by kernel_rfl).trans (show cA 96=some t96 by kernel_rfl).symm;have FK:PP.cA 121=cA 121:=(show PP.cA 121=some t121 by kernel_rfl).trans (show cA 121=some t121 by kernel_rfl).symm;have FL:PP.cA 122=cA 122:=(show PP.cA 122=some t122 by kernel_rfl).trans (show cA 122=some t122 by kernel_rfl).symm;have zy:PP.cA 123=cA 123:=(show PP.cA 123=some t123 by kernel_rfl).trans (show cA 123=some t123 by kernel_rfl).symm;have ahm:PP.cA 130=cA 130:=(show PP.cA 130=some t130 by kernel_rfl).trans (show cA 130=some t130 by kernel_rfl).symm;have T1:PP.cA 131=cA 131:=(show PP.cA 131=some t131 by kernel_rfl).trans (show cA 131=some t131 by kernel_rfl).symm;have ahn:PP.cA 163=cA 163:=(show PP.cA 163=some t163 by kernel_rfl).trans (show cA 163=some t163 by kernel_rfl).symm;rcases U with e|e|e|e|e|e|e|e|e
  ·rw[e];exact fG
  ·rw[e];exact ha
  ·rw[e];exact od
  ·rw[e];exact FK
  ·rw[e];exact FL
  ·rw[e];exact zy
  ·rw[e];exact ahm
  ·rw[e];exact T1
  ·rw[e];exact ahn
 ·exact absurd U aT.2.1
 ·exact absurd U aT.2.2
theorem abF:PP.xW.rows.all (λw=>match PP.xW.tree w with|some t=>oc t|none=>true)=true:=by kernel_rfl
theorem adm{g:FuncId}{t:Tree}(h:PP.cA g=some t):oc t=true:=by
 obtain⟨w,hm,_,e⟩:=iN.DW h;have:=List.all_eq_true.1 abF w hm;rwa[e]at this
instance ak6:oX (PP.E cl):=⟨λ{k g args t fn Q} aN a1 aQ gN h=>by
 simp only[zx,Bool.and_eq_true,bne_iff_ne,ne_eq]at aN;have T2:PP.cA g=some t:=by rw[adl (by simp[zx,aN])];exact a1
 exact Rf T2 (by rw[Qe aN.2.1 aN.2.2];exact aQ) gN (adm T2) h⟩
theorem No:∀{a b:List aa},hv (a++b)=(hv a&&hv b)
 |[],_=>by simp[hv]
 |x::a,b=>by simp[hv,No,Bool.and_assoc]
theorem aaa(l:List Int):hv (l.map ax)=true:=by
 induction l with
 |nil=>rfl
 |cons a l az=>simp[hv,aa.l1,az]
theorem dI.l1{x:aa}{l:List Int}(h:dI x l):x.l1=true:=by
 rcases h with⟨rfl,_⟩|⟨off,rfl⟩
 ·rfl
 ·simp[aa.l1,aaa]
theorem Xu{l:List aX}(h:∀r∈l,r.ok):hv (dJ l)=true:=by
 induction l with
 |nil=>rfl
 |cons r l az=>
  have e:dJ (r::l)=r.cells++dJ l:=by simp[dJ]
  rw[e,No,az λx aj=>h x (by simp[aj])];simp[aX.cells,hv,aa.l1,(h r (by simp)).c5.l1]
theorem Hand.l1{slip:Int}{b3:aa}{l:List aX}(h:Hand slip b3 l):b3.l1=true:=by
 rcases h.gS with⟨rfl,_⟩|⟨off,rfl⟩
 ·rfl
 ·simp[aa.l1,Xu h.ok]
theorem Rg(k:Nat){slip:Int}{b3:aa}{l:List aX}(h:Hand slip b3 l){p:a7}(ae:p.ok){i:Nat}(hi:i<l.length):ks (PP.E cl) (k+5) 103 [.ca,.bJ none 0 [ax slip,b3],.bJ none 0 [ax i],.bJ none 0 p.cells,.ca] λv=>v=.bD [.bool (kn slip (l.getD i default) p),ax i]:=by
 refine Rf (t:=PP.t103) (by kernel_rfl) (fn:=yW) (by kernel_rfl) (by
  have e:flagsOf 23 yW=[false,false,false,false,false]:=by kernel_rfl
  rw[e];simp[dd,a7.cells,ae.c5.plain,h.plain];rfl) (by kernel_rfl) ?_
 refine(?_:b6 (PP.E cl (k+4)) 4096 PP.t103 5 (dz [.ca,.bJ none 0 [ax slip,b3],.bJ none 0 [ax i],.bJ none 0 p.cells,.ca] []) _).run rfl;have ad:=h.get hi;have du:=m6 h.gS hi;generalize l.getD i default=r at ad du;refine ez (λaf=>af=[]) (cw rfl) ?_;rintro af rfl;refine wp _ rfl ?_;refine wp _ rfl ?_;refine dr (afE (C:=PP.E cl) (k+3) slip) rfl ?_;refine wp _ rfl ?_;refine wp _ rfl ?_;refine wp _ du ?_;refine wp _ rfl ?_;refine dr (afF (C:=PP.E cl) k h.cc h.s1 ad ae) rfl ?_;exact wp_ret rfl rfl rfl
theorem Rh{n:Nat}(h:n<=4)(b:Nat->Bool):rN n b=(List.range n).filter b:=by
 match n,h with
 |0,_=>simp[rN]
 |1,_=>simp only[rN,List.range_succ,List.range_zero,List.nil_append,List.cons_append,List.filter];simp
 |2,_=>simp only[rN,List.range_succ,List.range_zero,List.nil_append,List.cons_append,List.filter];simp
 |3,_=>simp only[rN,List.range_succ,List.range_zero,List.nil_append,List.cons_append,List.filter];simp
 |4,_=>simp only[rN,List.range_succ,List.range_zero,List.nil_append,List.cons_append,List.filter];simp
def oe(slip:Int)(l:List aX)(p:a7)(n:Nat):List Nat:=(List.range n).filter λi=>kn slip (l.getD i default) p
def hy(slip:Int)(l:List aX)(p:a7)(n:Nat):List Int:=(oe slip l p n).map λ(i:Nat)=>(i:Int)
theorem aoJ(slip:Int)(l:List aX)(p:a7)(n:Nat):(hy slip l p n).length<=n:=by
 unfold hy oe;rw[List.length_map];exact Nat.le_trans (List.length_filter_le _ _) (by simp)
theorem Qf(l:List Nat):dI (lS l) (l.map λ(i:Nat)=>(i:Int)):=by
 unfold lS;split
 ·rename_i e;cases l with
  |nil=>exact .inl ⟨rfl,rfl⟩
  |cons a l=>cases e
 ·exact .inr ⟨0,by simp⟩
theorem Sl(k:Nat){slip:Int}{b3:aa}{l:List aX}(h:Hand slip b3 l){p:a7}(ae:p.ok):dT (k+1) 58 [.agg [ax slip,b3],.agg p.cells] λv=>v=lS (oe slip l p l.length):=by
 have aw:yX [.agg [ax slip,b3],.agg p.cells] (oe slip l p l.length):=⟨[ax slip,b3],p.cells,b3,l.length,λi=>kn slip (l.getD i default) p,rfl,by simp[hv,aa.l1,h.l1],by simp[a7.cells,hv,aa.l1,ae.c5.l1],by simp[bG,h.plain],by simp[a7.cells,ae.c5.plain],rfl,by
  rcases h.gS with⟨rfl,rfl⟩|⟨off,rfl⟩
  ·exact .inl ⟨rfl,rfl⟩
  ·exact .inr ⟨_,_,_,rfl⟩,h.fI,λi hi ω=>by
   obtain⟨v,ai,rfl⟩:=Rg 4 h ae hi ω;exact ai,(Rh h.fI _).symm⟩
 intro ω;refine⟨_,?_,rfl⟩;have a1:cA 58=none:=by kernel_rfl
 have key:∀aG,yX [.agg [ax slip,b3],.agg p.cells] aG->aG=oe slip l p l.length:=by
  rintro aG ⟨ah,eg,cy,n,bit,iM⟩;obtain⟨aK,aO⟩:[ax slip,b3]=ah/\p.cells=eg:=by have:=iM.a;simpa using this
  subst aK aO;have aH:cy=b3:=by have:=iM.q;simpa using this.symm
  subst aH;have aI:n=l.length:=by
   rcases iM.r with⟨e,rfl⟩|⟨_,_,_,e⟩<;>rcases h.gS with⟨e',aO⟩|⟨off,e'⟩<;>rw[e']at e
   ·rw[aO];rfl
   ·cases e
   ·cases e
   ·injection e with _ _ _ e _;exact e.symm
  rw[iM.l,Rh iM.U4,aI];unfold oe;refine List.filter_congr λi hi=>?_;rw[List.mem_range]at hi;have U:=iM.b i (by omega) ω;obtain⟨v,ai,rfl⟩:=Rg 4 h ae hi ω;rw[ai]at U;simpa using U.symm
 have hex:∃aG,yX [.agg [ax slip,b3],.agg p.cells] aG:=⟨_,aw⟩;have e:pj ω 58 [.agg [ax slip,b3],.agg p.cells]=some (lS (oe slip l p l.length)):=by
  unfold pj;rw[if_pos rfl,dif_pos hex,key _ hex.choose_spec]
 unfold E;simp only[jD,a1];exact e
end
section
open Go Go.RowKit
theorem Qt{slip:Int}{b3:aa}{l:List aX}{ns:List Int}{p:a7}(ad:iq b3 l)(ae:lk p)(h:gn slip l ns [p]=0):Hand slip b3 l/\p.ok:=by
 obtain⟨al,_,bI⟩:=adI h;exact⟨aeL ad al,aeM ae.c5 (Rt bI p (by simp))⟩
def qs(slip:Int)(l:List aX)(ns:List Int)(p:a7):List Int:=if gn slip l ns [p]=0 then hy slip l p l.length else[]
def qt(slip:Int)(l:List aX)(n:Int)(p:a7):Int:=if gn slip l [n] [p]=0 then(if n∈hy slip l p l.length then(if(hy slip l p l.length).length=1 then 1 else 3)else 2)else 0
theorem Qz(k:Nat){slip:Int}{b3:aa}{l:List aX}(h:iq b3 l){p:a7}(ae:lk p):dT (k+5) 15 [.agg [ax slip,b3],.agg p.cells] λv=>∃y,v=.bD [y,ax (gn slip l [] [p])]/\dI y (qs slip l [] p):=by
 refine gj (t:=t15) (by kernel_rfl) (fn:=Tryz.f15) (by kernel_rfl) (by simp[dd,flagsOf,h.plain,a7.cells,ae.c5.plain]) ?_;refine eU (by simp only[ag,aD,aM,aS.aP,aR.aP,cF,nth,cM,List.getD_cons_succ,List.getD_cons_zero,aX.cells,a7.cells];rfl) rfl ?_;refine eU (by simp only[ag,aD,aM,aS.aP,aR.aP,cF,nth,cM,List.getD_cons_succ,List.getD_cons_zero,aX.cells,a7.cells];rfl) rfl ?_;refine nN (Sz k (slip:=slip) (x:=.bC) (ns:=[]) (y:=.sl none 5 0 1 p.cells) (ps:=[p]) h EY (by simp) J1 (by simpa using ae) (by simp)) rfl ?_;rintro v ⟨a,b,rfl,bL,cD⟩;refine pe (by simp only[ag,aD,aM,aS.aP,aR.aP,cF,nth,cM,List.getD_cons_succ,List.getD_cons_zero,aX.cells,a7.cells,ll];rfl) ?_;refine pe (by simp only[ag,aD,aM,aS.aP,aR.aP,cF,nth,cM,List.getD_cons_succ,List.getD_cons_zero,aX.cells,a7.cells,ll];rfl) ?_;refine eU (by simp only[ag,aD,aM,aS.aP,aR.aP,cF,nth,cM,List.getD_cons_succ,List.getD_cons_zero,aX.cells,a7.cells];rfl) rfl ?_;refine hJ rfl rfl ?_;refine cK rfl (λhe=>?_) (λhe=>?_)
 ·exact wp_ret (v:=.bD [.bC,ax (gn slip l [] [p])]) rfl rfl ⟨.bC,rfl,by unfold qs;rw[if_neg he];exact EY⟩
 replace he:=Decidable.not_not.1 he;obtain⟨rfl,rfl⟩:=bL he;obtain⟨e4,tK⟩:=Qt h ae he;refine dr (Sl (k+3) e4 tK) rfl ?_;have aH:=Qf (oe slip l p l.length);have xv:=aH.plain;exact wp_ret (v:=.bD [lS (oe slip l p l.length),ax 0]) rfl (by simp[xv]) ⟨_,by rw[he],by unfold qs;rw[if_pos he];exact aH⟩
end
end Go.Proofs.YtlminnpaeaganaaGreat
