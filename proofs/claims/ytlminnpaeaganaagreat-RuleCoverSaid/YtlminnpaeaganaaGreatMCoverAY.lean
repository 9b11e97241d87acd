/- Part of the proof of RuleCover. No condition. -/
import Derived.Test.YtlminnpaeaganaaGreatMCoverAX
namespace Go.Proofs.YtlminnpaeaganaaGreat
set_option maxRecDepth 100000
set_option linter.all false
section
open Go Go.RowKit
theorem Tu:Tryz.prog.underlying 22=some (.slice 3):=by kernel_rfl
theorem aeS{C:mR}[oX C](k:Nat){x:aa}{l:List Int}(aj:dI x l)(ak:l.length<1000000):ks C (k+1) 163 [x] λv=>(v=.bC/\l=[])\/v=.sl none 1 0 l.length (l.map ax):=by
 refine sU (t:=t163) (by kernel_rfl) (by kernel_rfl) (fn:=Tryz.f163) (by kernel_rfl) (by simp[dd,flagsOf,aj.plain]) ?_;rcases aj with⟨rfl,rfl⟩|⟨off,rfl⟩
 ·simp[t163,ag,aD,aM,eB,Tu]
 ·have ae:=uj l;have hb:l.length*8<=140737488355328/\l.length<=9223372036854775807:=by omega
  simp[t163,ag,aD,aM,eB,Tu,iU,isNil,hb,ae]
def half(p:a7):a7:=⟨p.k6,p.g.reverse,p.aP,p.up,p.wd,p.fr⟩
theorem aeT{C:mR}[oX C](k:Nat){p:a7}(ae:p.ok):ks C (k+2) 131 [.agg p.cells] λv=>∃q:aa,v=.agg [q,ax p.aP,ax p.up,ax p.wd,.bool p.fr]/\dI q p.g.reverse:=by
 refine sU (t:=t131) (by kernel_rfl) (by kernel_rfl) (fn:=Tryz.f131) (by kernel_rfl) (by simp[dd,flagsOf,a7.cells,ae.c5.plain]) ?_;have fp:=ae.pR;simp only[t131,ag,aD,aM,dk];refine⟨.agg p.cells,by simp[a7.cells],?_⟩;refine kN (Q:=λv=>(v=.bC/\p.g=[])\/v=.sl none 1 0 p.g.length (p.g.map ax)) (aeS (C:=C) k ae.c5 (by omega)) (by simp[a7.cells]) ?_;intro y aF;simp only[dk];generalize aI:p.g.length=n at *;refine⟨.agg (p.g.map ax),?_,.bool (match y with | .bC=>true|_=>false),?_,ax n,by simp[aI],ax ((n:Int)-1),by simp[wrap64 (n:=(n:Int)-1) (by omega) (by omega)],?_⟩
 ·rcases aF with⟨rfl,h⟩|rfl
  ·simp[po,h]
  ·simp[po,aI]
 ·rcases aF with⟨rfl,h⟩|rfl<;>simp[EI]
 refine hY (λaf=>af=[.agg (p.g.reverse.map ax)]) ?_ ?_
 ·refine o7 (λj af=>∃(i:Nat)(L:List Int),af=[ax i,ax ((n:Int)-1-i),.agg (L.map ax)]/\i+j=n/\L.length=n/\∀k,k<n->L.getD k 0=if k<i\/n<k+1+i then p.g.getD (n-1-k) 0 else p.g.getD k 0) n (by omega) ⟨0,p.g,by simp,by omega,aI,λk aq=>by rw[if_neg (by omega)]⟩ ?_;rintro j af ⟨i,L,rfl,hi,dg,aq⟩;simp only[dk];refine⟨.bool (decide ((i:Int)<(n:Int)-1-i)),by simp,?_⟩;simp only[run_ite,aR.den,List.cons_append,List.nil_append,List.getD_cons_succ,List.getD_cons_zero,hV];refine gR (λh=>?_) (λh=>?_)<;>simp only[decide_eq_true_eq,decide_eq_false_iff_not]at h
  ·have ajs:((n:Int)-1-i)=((n-1-i:Nat):Int):=by omega
   rw[ajs];have CQ:=II (l:=L) (i:=(i:Int)) (by omega) (by omega);have Vj:=II (l:=L) (i:=((n-1-i:Nat):Int)) (by omega) (by omega);rw[Int.toNat_natCast]at CQ Vj;simp only[dk];refine⟨ax ((n-1-i:Nat):Int),wu (l:=L) (by omega) (by omega),.agg [ax (L.getD (n-1-i) 0)],Vj,ax i,wu (l:=L) (by omega) (by omega),.agg [ax (L.getD i 0)],CQ,ax i,wu (l:=L) (by omega) (by omega),.agg ((L.set i (L.getD (n-1-i) 0)).map ax),yG (by omega),ax ((n-1-i:Nat):Int),wu (l:=L.set i (L.getD (n-1-i) 0)) (by omega) (by simp;omega),.agg (((L.set i (L.getD (n-1-i) 0)).set (n-1-i) (L.getD i 0)).map ax),yG (by simp;omega),ax ((i+1:Nat):Int),by simp[wrap64 (n:=(i:Int)+1) (by omega) (by omega)],ax ((n:Int)-1-(i+1:Nat)),?_,?_⟩
   ·have:((n-1-i:Nat):Int)-1=(n:Int)-1-(i+1:Nat):=by omega
    simp only[Prim.run,aS.den,aR.den,List.cons_append,List.nil_append,List.getD_cons_succ,List.getD_cons_zero,Pl,this];rw[wrap64 (by omega) (by omega)]
   ·simp only[kG,mj];refine⟨j-1,by omega,i+1,(L.set i (L.getD (n-1-i) 0)).set (n-1-i) (L.getD i 0),by simp,by omega,by simpa using dg,λk gx=>?_⟩;have U:=aq i (by omega);have ab:=aq (n-1-i) (by omega);rw[if_neg (by omega)]at U ab;by_cases aK:k=n-1-i
    ·rw[if_pos (by omega)];have:n-1-k=i:=by omega
     rw[this,←U];subst aK;simp only[List.getD_eq_getElem?_getD];rw[List.getElem?_set_self (by simp;omega)];rfl
    ·by_cases aO:k=i
     ·rw[if_pos (by omega)];rw[aO,←ab];simp only[List.getD_eq_getElem?_getD];rw[List.getElem?_set_ne (by omega),List.getElem?_set_self (by omega)];rfl
     ·have al:=aq k gx;simp only[List.getD_eq_getElem?_getD]at al⊢;rw[List.getElem?_set_ne (by omega),List.getElem?_set_ne (by omega),al];by_cases c:k<i\/n<k+1+i
      ·rw[if_pos c,if_pos (by omega)]
      ·rw[if_neg c,if_neg (by omega)]
  ·have e:L=p.g.reverse:=List.ext_getElem (by simp[dg,aI]) λk U ab=>by
    have al:=aq k (by omega);have aJ:k<p.g.length:=by omega
    have bm:n-1-k<p.g.length:=by omega
    rw[List.getElem_reverse];simp only[aI];simp only[List.getD_eq_getElem?_getD,List.getElem?_eq_getElem U,List.getElem?_eq_getElem aJ,List.getElem?_eq_getElem bm,Option.getD_some]at al;rw[al];by_cases c:k<i\/n<k+1+i
    ·rw[if_pos c]
    ·have:n-1-k=k:=by omega
     rw[if_neg c];simp only[this]
   simp[fV,e]
 ·rintro af rfl;simp only[dk];rcases aF with⟨rfl,h⟩|rfl
  ·refine⟨.bC,by simp[iU,isNil,h],?_⟩;simp[h,dI,a7.cells]
  ·have cD:=uj p.g.reverse;refine⟨.sl none 1 0 n (p.g.reverse.map ax),by simp[iU,isNil,aI],?_⟩;simp only[uE];refine⟨_,rfl,?_,.sl none 1 0 n (p.g.reverse.map ax),by simp[a7.cells],.inr ⟨0,by simp[aI]⟩⟩;simp at cD;simp[cD,a7.cells]
def gW(l:List (Nat×Bool)):List aa:=l.flatMap λs=>[ax s.1,.bool s.2]
theorem Wj(l:List (Nat×Bool)):bG (gW l)=true:=by
 induction l with
 |nil=>rfl
 |cons s l az=>have:gW (s::l)=[ax s.1,.bool s.2]++gW l:=(by simp[gW]);rw[this];simp[az]
def vO(x:aa)(l:List (Nat×Bool)):Prop:=(x=.bC/\l=[])\/∃off,x=.sl none 2 off l.length (gW l)
theorem vO.plain{x:aa}{l:List (Nat×Bool)}(h:vO x l):x.plain=true/\x.one=true:=by
 rcases h with⟨rfl,_⟩|⟨off,rfl⟩
 ·simp
 ·simp[Wj]
def Fx(l:List (Nat×Bool)):aa:=match l with
 |[]=>.bC
 |s::l=>.sl none 2 0 (l.length+1) (gW (s::l))
theorem ago:∃e,Tryz.prog.underlying 38=some (.slice e):=by
 have h:(match Tryz.prog.underlying 38 with|some (.slice _)=>true|_=>false)=true:=by kernel_rfl
 split at h
 ·exact⟨_,by assumption⟩
 ·cases h
theorem vO.len{x:aa}{l:List (Nat×Bool)}(h:vO x l):ht Tryz.prog 38 x=some (ax l.length):=by
 obtain⟨e,he⟩:=ago;rcases h with⟨rfl,rfl⟩|⟨off,rfl⟩<;>simp[ht,he]
def jz(slip:Int)(r:aX)(p:a7)(t:Bool):Nat->List (Nat×Bool)
 |0=>[]
 |i+1=>jz slip r p t i++if ln slip r p i then[(i,t)]else[]
theorem Y7{slip:Int}{r:aX}{p q:a7}{i:Nat}(U:p.g=q.g)(ab:p.up=q.up)(al:p.aP=q.aP)(aJ:p.wd=q.wd):ln slip r p i=ln slip r q i:=by
 cases p;cases q;simp only at U ab al aJ;subst U ab al aJ;rfl
def kl(slip:Int)(r:aX)(p:a7):List (Nat×Bool):=jz slip r p false r.lines.toNat++if p.fr then jz slip r (half p) true r.lines.toNat else[]
end
section
open Go Go.RowKit
set_option maxRecDepth 100000
end
section
open Go Go.RowKit
theorem agp{l:List Int}{i:Nat}(h:i<l.length):l.getD i 0∈l:=by simp[List.getD_eq_getElem?_getD,h]
theorem Fy(k:Nat){n slip lo hi:Int}(aT:0<=slip)(U:slip<=3)(ak:lo<=hi)(nf:-1000<=n)(Li:n<=1000):dT (k+4) 97 [pQ,ax n,ax slip,ax lo,ax hi] λv=>∃x,v=ax x/\lo<=x/\x<=hi/\(lo<=n->n<=hi->x-n<=slip/\n-x<=slip):=by
 refine lO (t:=t97) (by kernel_rfl) (fn:=Tryz.f97) (by kernel_rfl) rfl ?_;simp only[t97,ag,aD,aM,dk];refine⟨ax (-slip),by simp[rH,wrap64 (n:=-slip) (by omega) (by omega)],?_⟩;refine gb (td k (-slip) slip (by omega) (by omega) (by omega) (by omega)) ?_;rintro v ⟨y,rfl,vm,xL⟩;simp only[dk];refine⟨ax (n+y),by simp[wrap64 (n:=n+y) (by omega) (by omega)],ax (if lo<n+y then n+y else lo),by simp[u3],ax (if(if lo<n+y then n+y else lo)<hi then(if lo<n+y then n+y else lo)else hi),by simp[s4],?_⟩;simp only[uE];refine⟨_,rfl,by simp,_,rfl,?_⟩;split<;>split<;>omega
structure Uw(slip:Int)(p q:a7):Prop where
 len:q.g.length=p.g.length
 gs:∀i,i<p.g.length->nr slip (q.g.getD i 0) (p.g.getD i 0)=true
 up:q.up-p.up<=slip/\p.up-q.up<=slip
 aP:q.aP-p.aP<=slip/\p.aP-q.aP<=slip
 wd:(p.wd=0/\q.wd=0)\/(0<p.wd/\nr slip q.wd p.wd=true)
 fr:q.fr=p.fr
theorem agq(k:Nat){slip:Int}(aT:0<=slip)(U:slip<=3){p:a7}(ae:p.ok):dT (k+5) 53 [pQ,.agg p.cells,ax slip] λv=>∃q:a7,v=.agg q.cells/\q.ok/\q.k6=.sl none 1 0 q.g.length (q.g.map ax)/\Uw slip p q:=by
 refine lO (t:=t53) (by kernel_rfl) (fn:=Tryz.f53) (by kernel_rfl) (by simp[dd,flagsOf,a7.cells,ae.c5.plain]) ?_;have fp:=ae.pR;have gr:=ae.ud;have p2:=ae.j7;have p3:=ae.d0;have p4:=ae.d1;have CI:=ae.c9;have vH:=ae.w1;have hlen:=ae.c5.len;have aeU:=λ(i:Nat)(hi:i<p.g.length)=>tc ae.c5 hi;simp only[t53,ag,aD,aM,dk];refine⟨.agg p.cells,by simp[a7.cells],ax p.g.length,by simpa[a7.cells]using hlen,_,Ru (n:=p.g.length) (by omega),?_⟩;refine hY (λaf=>af=[.agg (p.g.map ax)]) ?_ ?_
 ·refine o7 (λj af=>∃(i:Nat)(L:List Int),af=[ax i,.agg (L.map ax)]/\i+j=p.g.length/\L.length=p.g.length/\∀k,k<i->L.getD k 0=p.g.getD k 0) p.g.length (by omega) ⟨0,List.replicate p.g.length 0,by simp,by omega,by simp,by simp⟩ ?_;rintro j af ⟨i,L,rfl,hi,dg,aq⟩;simp only[dk];refine⟨ax p.g.length,by simpa[a7.cells]using hlen,.bool (decide ((i:Int)<p.g.length)),by simp,?_⟩;simp only[run_ite,aR.den,List.cons_append,List.nil_append,List.getD_cons_succ,List.getD_cons_zero,hV];refine gR (λh=>?_) (λh=>?_)<;>simp only[decide_eq_true_eq,decide_eq_false_iff_not]at h
  ·have aU:i<p.g.length:=by omega
   simp only[dk];refine⟨.agg [ax (p.g.getD i 0)],by simpa[a7.cells]using aeU i aU,ax i,by simp;omega,.agg ((L.set i (p.g.getD i 0)).map ax),yG (by omega),?_⟩;simp[wrap64 (n:=(i:Int)+1) (by omega) (by omega)];refine⟨j-1,by omega,i+1,L.set i (p.g.getD i 0),by simp,by omega,by simpa using dg,λk gx=>?_⟩;by_cases e:k=i
   ·subst e;have:k<L.length:=by omega
    simp[List.getD_eq_getElem?_getD,this]
   ·have:=aq k (by omega);simp only[List.getD_eq_getElem?_getD]at this⊢;rw[List.getElem?_set_ne (by omega)];exact this
  ·have e:L=p.g:=List.ext_getElem dg λk U ab=>by
    have:=aq k (by omega);simpa[List.getD_eq_getElem?_getD,U,ab]using this
   simp[fV,e]
 rintro af rfl;refine hY (λaf=>∃L:List Int,af=[.agg (L.map ax)]/\L.length=p.g.length/\(∀x∈L,1<=x/\x<=30)/\∀i,i<p.g.length->nr slip (L.getD i 0) (p.g.getD i 0)=true) ?_ ?_
 ·refine o7 (λj af=>∃(i:Nat)(L:List Int),af=[ax i,.agg (L.map ax)]/\i+j=p.g.length/\L.length=p.g.length/\(∀x∈L,1<=x/\x<=30)/\(∀k,k<i->nr slip (L.getD k 0) (p.g.getD k 0)=true)/\∀k,i<=k->k<p.g.length->L.getD k 0=p.g.getD k 0) p.g.length (by omega) ⟨0,p.g,by simp,by omega,rfl,ae.gs,by simp,λk _ _=>rfl⟩ ?_;rintro j af ⟨i,L,rfl,hi,dg,hb,aq,mG⟩;simp only[dk];refine⟨ax L.length,by simp,.bool (decide ((i:Int)<L.length)),by simp,?_⟩;simp only[run_ite,aR.den,List.cons_append,List.nil_append,List.getD_cons_succ,List.getD_cons_zero,hV];refine gR (λh=>?_) (λh=>?_)<;>simp only[decide_eq_true_eq,decide_eq_false_iff_not]at h
  ·have aU:i<L.length:=by omega
   have aN:=hb _ (agp aU);have CQ:=II (l:=L) (i:=(i:Int)) (by omega) (by omega);rw[Int.toNat_natCast]at CQ;simp only[dk];refine⟨ax i,wu (l:=L) (by omega) (by omega),.agg [ax (L.getD i 0)],CQ,?_⟩;refine gb (Fy k (n:=L.getD i 0) aT U (by omega) (by omega) (by omega)) ?_;rintro v ⟨x,rfl,xG,lv,dG⟩;have Cj:=dG (by omega) (by omega);simp only[dk];refine⟨ax i,wu (l:=L) (by omega) (by omega),ax x,by simp,.agg ((L.set i x).map ax),yG (by omega),?_⟩;simp[wrap64 (n:=(i:Int)+1) (by omega) (by omega)];refine⟨j-1,by omega,i+1,L.set i x,by simp,by omega,by simpa using dg,λy aF=>?_,λk gx=>?_,λk U ab=>?_⟩
   ·rcases List.mem_or_eq_of_mem_set aF with h|h
    ·exact hb y h
    ·omega
   ·by_cases e:k=i
    ·subst e;have aO:=mG k (by omega) (by omega);rw[aO]at Cj;have:(L.set k x)[k]?.getD 0=x:=by simp[aU]
     rw[this];simp only[List.getD_eq_getElem?_getD]at Cj;simp[nr,Cj]
    ·have:=aq k (by omega);simp only[List.getD_eq_getElem?_getD]at this⊢;rw[List.getElem?_set_ne (by omega)];exact this
   ·have:=mG k (by omega) ab;simp only[List.getD_eq_getElem?_getD]at this⊢;rw[List.getElem?_set_ne (by omega)];exact this
  ·simp only[kG,mj];simp only[fV];simp;exact⟨L,rfl,dg,hb,λi hi=>by have:=aq i (by omega);simpa using this⟩
 rintro af ⟨L,rfl,dg,hb,aq⟩;refine kN (Q:=λv=>∃x,v=ax x/\0<=x/\x<=30/\(x-p.up<=slip/\p.up-x<=slip)) ((Fy k (n:=p.up) aT U (lo:=0) (hi:=30) (by omega) (by omega) (by omega)).mono λv ⟨x,e,a,b,c⟩=>⟨x,e,a,b,c (by omega) (by omega)⟩) (by simp[a7.cells]) ?_;rintro v ⟨u,rfl,Ck,Cl,Lk⟩;refine kN (Q:=λv=>∃x,v=ax x/\0<=x/\x<=30/\(x-p.aP<=slip/\p.aP-x<=slip)) ((Fy k (n:=p.aP) aT U (lo:=0) (hi:=30) (by omega) (by omega) (by omega)).mono λv ⟨x,e,a,b,c⟩=>⟨x,e,a,b,c (by omega) (by omega)⟩) (by simp[a7.cells]) ?_;rintro v ⟨d,rfl,qp,gE,jY⟩;simp only[dk];refine⟨ax u,by simp,ax d,by simp,.bool (decide (0<p.wd)),by simp[a7.cells],?_⟩;refine hY (λaf=>∃w,af=[ax w]/\0<=w/\w<=60/\((p.wd=0/\w=0)\/(0<p.wd/\nr slip w p.wd=true))) ?_ ?_
 ·simp only[run_ite,aR.den,List.cons_append,List.nil_append,List.getD_cons_succ,List.getD_cons_zero,hV];refine gR (λh=>?_) (λh=>?_)<;>simp only[decide_eq_true_eq,decide_eq_false_iff_not]at h
  ·refine kN (Q:=λv=>∃x,v=ax x/\1<=x/\x<=60/\(x-p.wd<=slip/\p.wd-x<=slip)) ((Fy k (n:=p.wd) aT U (lo:=1) (hi:=60) (by omega) (by omega) (by omega)).mono λv ⟨x,e,a,b,c⟩=>⟨x,e,a,b,c (by omega) (by omega)⟩) (by simp[a7.cells]) ?_;rintro v ⟨w,rfl,gl,fg,kW⟩;simp only[dk];refine⟨ax w,by simp,?_⟩;simp only[kG,mj];exact⟨w,by simp,by omega,by omega,.inr ⟨h,by simp[nr,kW]⟩⟩
  ·simp only[kG,mj];exact⟨p.wd,by simp[a7.cells],by omega,by omega,.inl ⟨by omega,by omega⟩⟩
 rintro af ⟨w,rfl,gl,fg,kW⟩;simp only[dk];refine⟨.sl none 1 0 L.length (L.map ax),by simp,?_⟩;simp only[uE];have cD:=uj L;refine⟨_,rfl,?_,⟨.sl none 1 0 L.length (L.map ax),L,u,d,w,p.fr⟩,by simp[a7.cells],⟨.inr ⟨0,rfl⟩,by show L.length<=5;omega,hb,Ck,Cl,qp,gE,gl,fg⟩,rfl,⟨dg,aq,Lk,jY,by rcases kW with h|h;exact .inl h;exact .inr h,rfl⟩⟩;simp[a7.cells,cD]
structure Cut(r:aX)(a b:Nat)(q:a7):Prop where
 ok:q.ok
 fr:q.fr=false
 len:q.g.length=b-a
 gs:∀i,i<b-a->q.g.getD i 0=dp r (a+i)
 up:0<a->q.up<dp r (a-1)
 aP:(b:Int)<r.lines-1->q.aP<dp r b
 wd:q.wd=0\/q.wd=r.width
theorem agr(k:Nat){r:aX}(ad:r.ok){a b:Nat}(bL:a<=b)(al7:b<=a+5)(se:(b:Int)<=r.lines-1):dT (k+4) 54 [pQ,.agg r.cells,ax a,ax b] λv=>∃q:a7,v=.agg q.cells/\Cut r a b q:=by
 refine lO (t:=t54) (by kernel_rfl) (fn:=Tryz.f54) (by kernel_rfl) (by simp[dd,flagsOf,aX.cells,ad.c5.plain]) ?_;have hn:=ad.hn;have k5:=ad.k5;have w1:=ad.w1;have w2:=ad.w2;have bh:=Jh ad;simp only[t54,ag,aD,aM,dk];refine⟨.agg r.cells,by simp[aX.cells],?_⟩;refine hY (λaf=>∃L:List Int,af=[.agg (L.map ax)]/\L.length=b-a/\(∀x∈L,1<=x/\x<=30)/\∀i,i<b-a->L.getD i 0=dp r (a+i)) ?_ ?_
 ·refine o7 (λj af=>∃L:List Int,af=[ax ((a+L.length:Nat):Int),.agg (L.map ax)]/\L.length+j=b-a/\(∀x∈L,1<=x/\x<=30)/\∀i,i<L.length->L.getD i 0=dp r (a+i)) (b-a) (by omega) ⟨[],by simp,by simp,by simp,by simp⟩ ?_;rintro j af ⟨L,rfl,hi,hb,aq⟩;simp only[dk];refine⟨.bool (decide (((a+L.length:Nat):Int)<b)),by simp,?_⟩;simp only[run_ite,aR.den,List.cons_append,List.nil_append,List.getD_cons_succ,List.getD_cons_zero,hV];refine gR (λh=>?_) (λh=>?_)<;>simp only[decide_eq_true_eq,decide_eq_false_iff_not]at h
  ·refine kN (Q:=λv=>v=ax (dp r (a+L.length))) (Kn (k+1) ad (a+L.length)) (by simp[aX.cells]) ?_;rintro v rfl;have ao:=bh (a+L.length);simp only[dk];refine⟨ax (dp r (a+L.length)),by simp,.agg ((L++[dp r (a+L.length)]).map ax),Ih (by decide) (by omega),ax ((a+(L++[dp r (a+L.length)]).length:Nat):Int),?_,?_⟩
   ·simp;rw[wrap64 (by omega) (by omega)];omega
   ·simp only[kG,mj];refine⟨j-1,by omega,L++[dp r (a+L.length)],by simp,by simp;omega,λx aj=>?_,λi e1=>?_⟩
    ·rcases List.mem_append.1 aj with bc|bc
     ·exact hb x bc
     ·simp at bc;omega
    ·by_cases e:i<L.length
     ·have:=aq i e;simp only[List.getD_eq_getElem?_getD]at this⊢;rw[List.getElem?_append_left e,this]
     ·have e:i=L.length:=by simp at e1;omega
      subst e;simp
  ·simp only[kG];simp only[fV];simp;exact⟨L,rfl,by omega,hb,λi hi=>by have:=aq i (by omega);simpa using this⟩
 rintro af ⟨L,rfl,dg,hb,aq⟩;refine gb (m8 (k+1) 30 (by omega) (by omega)) ?_;rintro v ⟨x,rfl,xG,lv⟩;refine gb (m8 (k+1) 30 (by omega) (by omega)) ?_;rintro v ⟨y,rfl,vm,xL⟩;simp only[dk];refine⟨ax x,by simp,ax y,by simp,.bool (decide (0<a)),by simp,?_⟩;refine hY (λaf=>∃u,af=[ax u]/\0<=u/\u<=30/\(0<a->u<dp r (a-1))) ?_ ?_
 ·simp only[run_ite,aR.den,List.cons_append,List.nil_append,List.getD_cons_succ,List.getD_cons_zero,hV];refine gR (λh=>?_) (λh=>?_)<;>simp only[decide_eq_true_eq,decide_eq_false_iff_not]at h
  ·have ao:=bh (a-1);simp only[dk];refine⟨ax ((a-1:Nat):Int),by have e:(a:Int)-1=((a-1:Nat):Int):=(by omega);simp[e,wrap64 (n:=((a-1:Nat):Int)) (by omega) (by omega)],?_⟩;refine kN (Q:=λv=>v=ax (dp r (a-1))) (Kn (k+1) ad (a-1)) (by simp[aX.cells]) ?_;rintro v rfl;simp only[dk];refine⟨ax (dp r (a-1)-1),by simp[wrap64 (n:=dp r (a-1)-1) (by omega) (by omega)],?_⟩;refine gb (m8 (k+1) (dp r (a-1)-1) (by omega) (by omega)) ?_;rintro v ⟨z,rfl,iZ,Cm⟩;simp only[dk];refine⟨ax z,by simp,?_⟩;simp only[kG,mj];exact⟨z,by simp,by omega,by omega,λ_=>by omega⟩
  ·simp only[kG,mj];exact⟨x,by simp,by omega,by omega,λbc=>by omega⟩
 rintro af ⟨u,rfl,Ck,Cl,Lk⟩;simp only[dk];refine⟨ax (r.lines-1),by simp[aX.cells,wrap64 (n:=r.lines-1) (by omega) (by omega)],.bool (decide ((b:Int)<r.lines-1)),by simp,?_⟩;refine hY (λaf=>∃d,af=[ax d]/\0<=d/\d<=30/\((b:Int)<r.lines-1->d<dp r b)) ?_ ?_
 ·simp only[run_ite,aR.den,List.cons_append,List.nil_append,List.getD_cons_succ,List.getD_cons_zero,hV];refine gR (λh=>?_) (λh=>?_)<;>simp only[decide_eq_true_eq,decide_eq_false_iff_not]at h
  ·have ao:=bh b;refine kN (Q:=λv=>v=ax (dp r b)) (Kn (k+1) ad b) (by simp[aX.cells]) ?_;rintro v rfl;simp only[dk];refine⟨ax (dp r b-1),by simp[wrap64 (n:=dp r b-1) (by omega) (by omega)],?_⟩;refine gb (m8 (k+1) (dp r b-1) (by omega) (by omega)) ?_;rintro v ⟨z,rfl,iZ,Cm⟩;simp only[dk];refine⟨ax z,by simp,?_⟩;simp only[kG,mj];exact⟨z,by simp,by omega,by omega,λ_=>by omega⟩
  ·simp only[kG,mj];exact⟨y,by simp,by omega,by omega,λbc=>absurd bc h⟩
 rintro af ⟨d,rfl,qp,gE,jY⟩;refine kN (Q:=λv=>∃c,v=ax c/\c∈[0,r.width]) (zl k (l:=[0,r.width]) (.inr ⟨0,rfl⟩) (by simp) (by simp)) (by simp[aX.cells]) ?_;rintro v ⟨c,rfl,ah⟩;have gv:c=0\/c=r.width:=by simpa using ah
 simp only[dk];refine⟨ax c,by simp,m9 L,by simp,?_⟩;simp only[uE];refine⟨_,rfl,?_,⟨m9 L,L,u,d,c,false⟩,by simp[a7.cells],⟨⟨rh L,by show L.length<=5;omega,hb,Ck,Cl,qp,gE,by show 0<=c;omega,by show c<=60;omega⟩,rfl,dg,aq,Lk,jY,gv⟩⟩;simp[(rh L).plain.1,(rh L).plain.2]
end
section
open Go Go.RowKit
theorem af9(k:Nat){slip:Int}{b3:aa}{l:List aX}(h:Hand slip b3 l):dT (k+6) 13 [pQ,.agg [ax slip,b3]] λv=>∃p:a7,v=.agg p.cells/\p.ok:=by
 refine lO (t:=t13) (by kernel_rfl) (fn:=Tryz.f13) (by kernel_rfl) (by simp[dd,flagsOf,h.plain]) ?_;have fY:=h.fY;have fI:=h.fI;simp only[t13,ag,aD,aM,dk];refine⟨.agg [ax slip,b3],by simp,ax l.length,by simpa using h.gS.len,ax ((l.length:Int)-1),by simp[wrap64 (n:=(l.length:Int)-1) (by omega) (by omega)],?_⟩;refine gb (m8 (k+3) ((l.length:Int)-1) (by omega) (by omega)) ?_;rintro v ⟨n,rfl,nf,Li⟩;obtain⟨n,rfl⟩:=Int.eq_ofNat_of_zero_le nf;have aI:n<l.length:=by omega
 have ad:=h.get aI;have du:=m6 h.gS aI;generalize cn:l.getD n default=r at ad du;have hn:=ad.hn;have k5:=ad.k5;simp only[dk];refine⟨.agg r.cells,by simpa using du,ax (r.lines-1),by simp[aX.cells,wrap64 (n:=r.lines-1) (by omega) (by omega)],?_⟩;refine gb (m8 (k+3) (r.lines-1) (by omega) (by omega)) ?_;rintro v ⟨a,rfl,Cn,pC⟩;obtain⟨a,rfl⟩:=Int.eq_ofNat_of_zero_le Cn;simp only[dk];refine⟨ax (r.lines-1),by simp[aX.cells,wrap64 (n:=r.lines-1) (by omega) (by omega)],?_⟩;refine gb (zl (k+2) (l:=[1,2,5]) (.inr ⟨0,rfl⟩) (by simp) (by simp)) ?_;rintro v ⟨x,rfl,aj⟩;have hc:1<=x/\x<=5:=by simp at aj;omega
 refine gb (m8 (k+3) x (by omega) (by omega)) ?_;rintro v ⟨y,rfl,vm,xL⟩;obtain⟨b,hb⟩:∃b:Nat,(b:Int)=if(a:Int)+y<r.lines-1 then(a:Int)+y else r.lines-1:=⟨(if(a:Int)+y<r.lines-1 then(a:Int)+y else r.lines-1).toNat,by split<;>omega⟩
 have lY:a<=b/\b<=a+5/\(b:Int)<=r.lines-1:=by split at hb<;>omega
 simp only[dk];refine⟨ax ((a:Int)+y),by simp[wrap64 (n:=(a:Int)+y) (by omega) (by omega)],ax b,by simp[s4,hb],?_⟩;refine kN (Q:=λv=>∃q:a7,v=.agg q.cells/\Cut r a b q) (agr (k+1) ad lY.1 lY.2.1 lY.2.2) (by simp[aX.cells]) ?_;rintro v ⟨c,rfl,ah⟩;refine kN (Q:=λv=>∃q:a7,v=.agg q.cells/\q.ok/\q.k6=.sl none 1 0 q.g.length (q.g.map ax)/\Uw slip c q) (agq k h.cc h.s1 ah.ok) (by simp) ?_;rintro v ⟨q,rfl,aH,air,hm⟩;have kB:=aH.pR;simp only[dk];refine⟨.agg q.cells,by simp[a7.cells],.agg (q.g.map ax),by simp[a7.cells,air,po],?_⟩;refine gb (Km (k+2) 3 (by omega) (by omega)) ?_;rintro v ⟨dS,rfl⟩;refine hY (λaf=>∃u d,af=[ax u,ax d]/\0<=u/\u<=30/\0<=d/\d<=30) ?_ ?_
 ·cases dS with
  |true=>
   simp only[run_ite,aR.den,List.cons_append,List.nil_append,List.getD_cons_succ,List.getD_cons_zero,hV,Ig,kG,mj];exact⟨0,0,by simp,by omega,by omega,by omega,by omega⟩
  |false=>
   simp only[run_ite,aR.den,List.cons_append,List.nil_append,List.getD_cons_succ,List.getD_cons_zero,hV,Ol,kG,mj];exact⟨q.up,q.aP,by simp[a7.cells],aH.ud,aH.j7,aH.d0,aH.d1⟩
 rintro af ⟨u,d,rfl,Ck,Cl,qp,gE⟩;refine hY (λaf=>(af=[.bool true]/\0<q.g.length)\/af=[.bool false]) ?_ ?_
 ·simp only[dk];refine⟨ax q.g.length,by simp,.bool (decide (0<(q.g.length:Int))),by simp,?_⟩;simp only[run_ite,aR.den,List.cons_append,List.nil_append,List.getD_cons_succ,List.getD_cons_zero,hV];refine gR (λh=>?_) (λh=>?_)<;>simp only[decide_eq_true_eq,decide_eq_false_iff_not]at h
  ·refine gb (Km (k+2) 4 (by omega) (by omega)) ?_;rintro v ⟨c2,rfl⟩;simp only[kG,mj];cases c2 with
   |true=>exact .inl ⟨by simp,by omega⟩
   |false=>exact .inr (by simp)
  ·simp
 rintro af e0;refine hY (λaf=>∃L:List Int,af=[.agg (L.map ax)]/\L.length=q.g.length/\∀x∈L,1<=x/\x<=30) ?_ ?_
 ·rcases e0 with⟨rfl,eb⟩|rfl
  ·simp only[run_ite,aR.den,List.cons_append,List.nil_append,List.getD_cons_succ,List.getD_cons_zero,hV,Ig,dk];refine⟨ax q.g.length,by simp,ax ((q.g.length:Int)-1),by simp[wrap64 (n:=(q.g.length:Int)-1) (by omega) (by omega)],?_⟩;refine gb (m8 (k+3) ((q.g.length:Int)-1) (by omega) (by omega)) ?_;rintro v ⟨i,rfl,jX,F5⟩;obtain⟨i,rfl⟩:=Int.eq_ofNat_of_zero_le jX;refine gb (td (k+2) 1 12 (by omega) (by omega) (by omega) (by omega)) ?_;rintro v ⟨z,rfl,iZ,Cm⟩;simp only[dk];refine⟨ax i,wu (l:=q.g) (by omega) (by omega),ax z,by simp,.agg ((q.g.set i z).map ax),yG (by omega),?_⟩;simp only[kG,mj];refine⟨q.g.set i z,by simp,by simp,λy aF=>?_⟩;rcases List.mem_or_eq_of_mem_set aF with h|h
   ·exact aH.gs y h
   ·omega
  ·simp only[run_ite,aR.den,List.cons_append,List.nil_append,List.getD_cons_succ,List.getD_cons_zero,hV,Ol,kG,mj];exact⟨q.g,by simp,rfl,aH.gs⟩
 rintro af ⟨L,rfl,dg,ais⟩;refine gb (Km (k+2) 3 (by omega) (by omega)) ?_;rintro v ⟨fr,rfl⟩;rcases e0 with⟨rfl,eb⟩|rfl <;>
 ·simp only[dk];refine⟨.bool fr,by simp,.sl none 1 0 L.length (L.map ax),by simp,?_⟩;simp only[uE];have cD:=uj L;refine⟨_,rfl,?_,⟨.sl none 1 0 L.length (L.map ax),L,u,d,q.wd,fr⟩,by simp[a7.cells],⟨.inr ⟨0,rfl⟩,by show L.length<=5;omega,ais,Ck,Cl,qp,gE,aH.c9,aH.w1⟩⟩;simp[a7.cells,cD]
theorem Qy{slip:Int}{r:aX}{p:a7}{t bw:Bool}{i n:Nat}:(i,bw)∈jz slip r p t n↔bw=t/\i<n/\ln slip r p i=true:=by
 induction n with
 |zero=>simp[jz]
 |succ n az=>
  simp only[jz,List.mem_append,az];by_cases h:ln slip r p n=true
  ·rw[if_pos h];simp;constructor
   ·rintro(⟨a,b,c⟩|⟨rfl,a⟩)
    ·exact⟨a,by omega,c⟩
    ·exact⟨a,by omega,h⟩
   ·rintro⟨a,b,c⟩;by_cases e:i=n
    ·exact .inr ⟨e,a⟩
    ·exact .inl ⟨a,by omega,c⟩
  ·rw[if_neg h];simp;intro a c;have:i≠n:=by rintro rfl;exact h c
   omega
end
section
open Go Go.RowKit
theorem IJ{slip:Int}{r:aX}{p:a7}{t:Bool}:∀{n:Nat},(∀i,i<n->ln slip r p i=false)->jz slip r p t n=[]
 |0,_=>rfl
 |n+1,h=>by simp[jz,h n (Nat.lt_succ_self n),IJ (n:=n) λi hi=>h i (by omega)]
def kn(slip:Int)(r:aX)(p:a7):Bool:=decide (0<(kl slip r p).length)
theorem Rv{slip:Int}{r:aX}{p:a7}{s:Nat×Bool}(h:s∈kl slip r p):kn slip r p=true:=by
 simp only[kn,decide_eq_true_eq];exact List.length_pos_of_mem h
theorem afF{C:mR}[oX C](k:Nat){slip:Int}(F6:0<=slip)(kQ:slip<=3){r:aX}(ad:r.ok){p:a7}(ae:p.ok):ks C (k+4) 92 [.agg (GG slip),.agg r.cells,.agg p.cells,.int .u8 0] λv=>v=.bool (kn slip r p):=by
 refine sU (t:=t92) (by kernel_rfl) (by kernel_rfl) (fn:=Tryz.f92) (by kernel_rfl) (by simp[dd,flagsOf,a7.cells,ae.c5.plain,aX.cells,ad.c5.plain]) ?_;have hn:=ad.hn;have k5:=ad.k5;have fp:=ae.pR;simp only[t92,ag,aD,aM,dk];refine⟨.agg (GG slip),by simp,.agg r.cells,by simp[aX.cells],.agg p.cells,by simp[a7.cells],.int .u8 0,by simp,?_⟩;refine hY (λaf=>af=[]/\kl slip r p=[]) ?_ ?_
 ·refine hY (λaf=>af=[]/\∀i,i<r.lines.toNat->ln slip r p i=false) ?_ ?_
  ·refine o7 (λj af=>∃i:Nat,af=[ax i]/\i+j=r.lines.toNat/\∀k,k<i->ln slip r p k=false) r.lines.toNat (by omega) ⟨0,rfl,by omega,by simp⟩ ?_;rintro j af ⟨i,rfl,hi,hb⟩;simp only[dk];refine⟨.bool (decide ((i:Int)<r.lines)),by simp[aX.cells],?_⟩;simp only[run_ite,aR.den,List.cons_append,List.nil_append,List.getD_cons_succ,List.getD_cons_zero,hV];refine gR (λh=>?_) (λh=>?_)<;>simp only[decide_eq_true_eq,decide_eq_false_iff_not]at h
   ·refine kN (SE (C:=C) (k+1) F6 kQ ad ae (line:=i) (by omega)) (by simp[aX.cells,a7.cells]) ?_;rintro v rfl;simp only[run_ite,aR.den,List.cons_append,List.nil_append,List.getD_cons_succ,List.getD_cons_zero,hV];refine gR (λab=>?_) (λab=>?_)
    ·have:kn slip r p=true:=Rv (s:=(i,false)) (by simp only[kl,List.mem_append];exact .inl (Qy.2 ⟨rfl,by omega,ab⟩));simp[this]
    ·simp[wrap64 (n:=(i:Int)+1) (by omega) (by omega)];refine⟨j-1,by omega,i+1,by simp,by omega,λk aq=>?_⟩;by_cases e:k=i
     ·subst e;exact ab
     ·exact hb k (by omega)
   ·simp[fV];intro k aq;exact hb k (by omega)
  ·rintro af ⟨rfl,aI⟩;have aw:=IJ (t:=false) aI;simp only[dk];refine⟨.bool (!p.fr),by simp[a7.cells],?_⟩;simp only[run_ite,aR.den,List.cons_append,List.nil_append,List.getD_cons_succ,List.getD_cons_zero,hV];refine gR (λh=>?_) (λh=>?_)<;>simp only[Bool.not_eq_true',Bool.not_eq_false']at h
   ·simp[kl,h,aw]
   ·simp only[dk];refine⟨ax p.g.length,by simpa[a7.cells]using ae.c5.len,?_⟩;refine hY (λaf=>af=[.int .u8 0]) ?_ ?_
    ·refine o7 (λj af=>∃i:Nat,af=[.int .u8 0,ax i]/\i+j=p.g.length) p.g.length (by omega) ⟨0,rfl,by omega⟩ ?_;rintro j af ⟨i,rfl,hi⟩;simp only[dk];refine⟨.bool (decide ((i:Int)<p.g.length)),by simp,?_⟩;simp only[run_ite,aR.den,List.cons_append,List.nil_append,List.getD_cons_succ,List.getD_cons_zero,hV];refine gR (λh=>?_) (λh=>?_)<;>simp only[decide_eq_true_eq,decide_eq_false_iff_not]at h
     ·refine kN (SD (C:=C) (k+2) i) (by simp) ?_;rintro v rfl;refine hY (λaf=>af=[.int .u8 0]) ?_ ?_
      ·simp
      ·rintro af rfl;simp[wrap64 (n:=(i:Int)+1) (by omega) (by omega)];exact⟨j-1,by omega,i+1,by simp,by omega⟩
     ·simp[fV]
    ·rintro af rfl;refine kN (aeT (C:=C) (k+1) ae) (by simp[a7.cells]) ?_;rintro v ⟨q,rfl,aH⟩;have lZ:(a7.mk q p.g.reverse p.aP p.up p.wd p.fr).ok:=⟨aH,by simpa using ae.pR,λx aj=>ae.gs x (by simpa using aj),ae.d0,ae.d1,ae.ud,ae.j7,ae.c9,ae.w1⟩;have ah:=λi=>Y7 (slip:=slip) (r:=r) (p:=⟨q,p.g.reverse,p.aP,p.up,p.wd,p.fr⟩) (q:=half p) (i:=i) rfl rfl rfl rfl;simp only[dk];refine⟨.agg [q,ax p.aP,ax p.up,ax p.wd,.bool p.fr],by simp,?_⟩;refine hY (λaf=>af=[]/\∀i,i<r.lines.toNat->ln slip r (half p) i=false) ?_ ?_
     ·refine o7 (λj af=>∃i:Nat,af=[ax i]/\i+j=r.lines.toNat/\∀k,k<i->ln slip r (half p) k=false) r.lines.toNat (by omega) ⟨0,rfl,by omega,by simp⟩ ?_;rintro j af ⟨i,rfl,hi,hb⟩;simp only[dk];refine⟨.bool (decide ((i:Int)<r.lines)),by simp[aX.cells],?_⟩;simp only[run_ite,aR.den,List.cons_append,List.nil_append,List.getD_cons_succ,List.getD_cons_zero,hV];refine gR (λal=>?_) (λal=>?_)<;>simp only[decide_eq_true_eq,decide_eq_false_iff_not]at al
      ·refine kN (Q:=λv=>v=.bool (ln slip r (half p) i)) ((SE (C:=C) (k+1) F6 kQ ad lZ (line:=i) (by omega)).mono λv e=>by rw[e,ah]) (by simp[aX.cells,a7.cells]) ?_;rintro v rfl;simp only[run_ite,aR.den,List.cons_append,List.nil_append,List.getD_cons_succ,List.getD_cons_zero,hV];refine gR (λab=>?_) (λab=>?_)
       ·have:kn slip r p=true:=Rv (s:=(i,true)) (by simp only[kl,List.mem_append,h,if_true];exact .inr (Qy.2 ⟨rfl,by omega,ab⟩));simp[this]
       ·simp[wrap64 (n:=(i:Int)+1) (by omega) (by omega)];refine⟨j-1,by omega,i+1,by simp,by omega,λk aq=>?_⟩;by_cases e:k=i
        ·subst e;exact ab
        ·exact hb k (by omega)
      ·simp[fV];intro k aq;exact hb k (by omega)
     ·rintro af ⟨rfl,Up⟩;have ait:=IJ (t:=true) Up;simp[kl,h,aw,ait]
 ·rintro af ⟨rfl,fM⟩;simp[kn,fM]
end
section
open Go Go.RowKit
def eV(r:aX):aX:=⟨.sl none 1 0 r.st.length (r.st.map ax),r.st,r.lines,r.width⟩
def akI(r:aX)(p:a7)(e m:Int):Prop:=
 (e=0/\∃n:Nat,m=n/\n<=3/\kn n r p=true/\∀eu:Nat,eu<n->kn eu r p=false) \/
 (e=11/\m=0/\∀eu:Nat,eu<=3->kn eu r p=false)
end
section
open Go Go.RowKit
def nth:List aa->Nat->aa
 |[],_=>.bad
 |a::_,0=>a
 |_::l,n+1=>nth l n
theorem Sf:∀(l:List aa)(i:Nat),nth l i=l.getD i .bad
 |[],i=>by simp[nth]
 |a::l,0=>rfl
 |a::l,i+1=>by simpa[nth]using Sf l i
def aR.aP(d:Nat)(st:List aa):aR->aa
 |.var i=>nth (.bad::st) (d-i)
 |.proj e j=>cM (e.aP d st) j
 |.bu v=>v
mutual
def aS.aP(d:Nat)(st:List aa):aS->aa
 |.e x=>x.aP d st
 |.agg l=>.agg (cF d st l)
 |.bD l=>.bD (cF d st l)
 |.lit sz len l=>.sl none sz 0 len (cF d st l)
 |.fn f l=>.fn f (cF d st l)
 |.ref l=>.bJ none 0 (cF d st l)
def cF(d:Nat)(st:List aa):List aS->List aa
 |[]=>[]
 |x::l=>x.aP d st::cF d st l
end
theorem aR.rl{d:Nat}{st:List aa}(h:st.length=d):∀x:aR,x.aP d st=x.den st.reverse
 |.var i=>by
  simp only[aR.aP,aR.den,Sf];rcases Nat.lt_or_ge i d with hi|hi
  ·rw[show d-i=(d-1-i)+1 by omega,List.getD_cons_succ];simp only[List.getD_eq_getElem?_getD];rw[List.getElem?_reverse (by omega),h]
  ·have aK:d-i=0:=by omega
   have aO:st.reverse[i]?=none:=List.getElem?_eq_none (by simp;omega);simp[aK,aO,List.getD_eq_getElem?_getD]
 |.proj e j=>by simp only[aR.aP,aR.den,aR.rl h e]
 |.bu v=>rfl
mutual
theorem aS.rl{d:Nat}{st:List aa}(h:st.length=d):∀x:aS,x.aP d st=x.den st.reverse
 |.e x=>by simp only[aS.aP,aS.den,aR.rl h]
 |.agg l=>by simp only[aS.aP,aS.den,q4 h l]
 |.bD l=>by simp only[aS.aP,aS.den,q4 h l]
 |.lit sz len l=>by simp only[aS.aP,aS.den,q4 h l]
 |.fn f l=>by simp only[aS.aP,aS.den,q4 h l]
 |.ref l=>by simp only[aS.aP,aS.den,q4 h l]
theorem q4{d:Nat}{st:List aa}(h:st.length=d):∀l:List aS,cF d st l=ep st.reverse l
 |[]=>rfl
 |x::l=>by simp only[cF,ep,aS.rl h x,q4 h l]
end
def Prim.fZ(P:Program)(d:Nat)(st:List aa):Prim->Option aa
 |.bin op t x y=>eB P op t (x.aP d st) (y.aP d st)
 |.un op x=>rH op (x.aP d st)
 |.conv s t x=>q5 P s t (x.aP d st)
 |.ext x i=>ll (x.aP d st) i
 |.agg n x=>vc n (x.aP d st)
 |.one x=>na (x.aP d st)
 |.row sz x i=>kp sz (x.aP d st) (i.aP d st)
 |.idx t x i=>uJ P t (x.aP d st) (i.aP d st)
 |.len t x=>ht P t (x.aP d st)
 |.slice t x lo hi=>p1 P t (x.aP d st) (lo.map (aS.aP d st)) (hi.map (aS.aP d st))
 |.iz qC l=>xK qC (cF d st l)
 |.j2 l=>some (.agg (cF d st l))
 |.mk z b n=>tL z b (n.aP d st)
 |.kX sz c i=>zj sz (c.aP d st) (i.aP d st)
 |.get sz fo n c i=>zk sz fo n (c.aP d st) (i.aP d st)
 |.put sz fo c i l=>vd sz fo (c.aP d st) (i.aP d st) (cF d st l)
 |.push sz b c y=>uW sz b (c.aP d st) (y.aP d st)
 |.oG sz c=>Bg sz (c.aP d st)
 |.bK sz b c=>iU st.reverse sz b (c.aP d st)
 |.deref n x=>A5 n (x.aP d st)
 |.cont r sz x=>po r sz (x.aP d st)
 |.wZ x=>EI (x.aP d st)
 |.ints x=>EX (x.aP d st)
 |.ins cR sz c l=>Ku P cR sz (c.aP d st) (cF d st l)
 |.keys sz x=>JZ sz (x.aP d st)
 |.mI sz c=>Lz sz (c.aP d st)
 |.lI c=>LA (c.aP d st)
 |.qz c=>Kv (c.aP d st)
 |.qA b c=>Kw st.reverse b (c.aP d st)
theorem Prim.afr{P:Program}{d:Nat}{st:List aa}(h:st.length=d)(p:Prim):p.fZ P d st=p.run P st.reverse:=by
 have aQ:aS.aP d st=aS.den st.reverse:=funext λx=>aS.rl h x;cases p<;>simp only[Prim.fZ,Prim.run,aR.rl h,aS.rl h,q4 h,aQ]
structure b6(C:b2->FuncId->List aa->Option aa)(n:Nat)(t:Tree)(d:Nat)(st:List aa)(R:Out->Prop):Prop where
 run:st.length=d->bN Tryz.prog C n t st.reverse R
def dz:List aa->List aa->List aa
 |[],st=>st
 |v::af,st=>dz af (v::st)
theorem DK:∀(af st:List aa),(dz af st).length=st.length+af.length
 |[],st=>rfl
 |v::af,st=>by simp only[dz,DK af,List.length_cons];omega
theorem DL:∀(af st:List aa),(dz af st).reverse=st.reverse++af
 |[],st=>by simp[dz]
 |v::af,st=>by simp only[dz,DL af,List.reverse_cons,List.append_assoc,List.cons_append,List.nil_append]
theorem gj{k:Nat}{g:FuncId}{args:List aa}{t:Tree}{fn:Func}{Q:aa->Prop}(a1:cA g=some t)(aQ:Tryz.prog.funcs[g]?=some fn)(gN:dd (flagsOf 23 fn) args=true)(h:b6 (E Tryz.prog k) 4096 t args.length (dz args []) λo=>∃v,o=.val v/\v.plain=true/\Q v):dT (k+1) g args Q:=lO a1 aQ gN (by have:=h.run (by rw[DK];simp);rwa[DL]at this)
theorem eK{C:b2->FuncId->List aa->Option aa}{n:Nat}{t:Tree}{d dq:Nat}{st fv:List aa}{R:Out->Prop}(aV:d=dq)(ao:st=fv)(k:b6 C n t dq fv R):b6 C n t d st R:=by subst aV ao;exact k
section
variable{C:b2->FuncId->List aa->Option aa}{n:Nat}{R:Out->Prop}{d:Nat}{st:List aa}{t:Tree}
theorem wp{p:Prim}(v:aa)(h:p.fZ Tryz.prog d st=some v)(k:b6 C n t (d+1) (v::st) R):b6 C n (.av p t) d st R:=⟨λak=>dk.2 ⟨v,by rw[←Prim.afr ak,h],by have:=k.run (by simp[ak]);rwa[List.reverse_cons]at this⟩⟩
theorem pe{x:aS}{i:Nat}{v:aa}(h:ll (x.aP d st) i=some v)(k:b6 C n t (d+1) (v::st) R):b6 C n (.av (.ext x i) t) d st R:=wp v h k
theorem eU{x:aS}{m:Nat}{cs:List aa}(h:x.aP d st=.agg cs)(ak:cs.length=m)(k:b6 C n t (d+1) (.agg cs::st) R):b6 C n (.av (.agg m x) t) d st R:=wp _ (by simp[Prim.fZ,h,vc,ak]) k
theorem p5{x:aS}{v:aa}(h:x.aP d st=v)(ar:v.one=true)(k:b6 C n t (d+1) (v::st) R):b6 C n (.av (.one x) t) d st R:=wp _ (by simp[Prim.fZ,h,na,ar]) k
theorem IN{T:TypeId}{x y:aS}{a b:Nat}(aj:x.aP d st=ax a)(aF:y.aP d st=ax b)(hb:a+b<9223372036854775807)(k:b6 C n t (d+1) (ax ((a+b:Nat):Int)::st) R):b6 C n (.av (.bin .add T x y) t) d st R:=wp _ (by simp[Prim.fZ,aj,aF,wrap64 (n:=(a:Int)+b) (by omega) (by omega)]) k
theorem ac6{T:TypeId}{x y:aS}{a b:Nat}(aj:x.aP d st=ax a)(aF:y.aP d st=ax b)(hb:b<=a/\a<9223372036854775807)(k:b6 C n t (d+1) (ax ((a-b:Nat):Int)::st) R):b6 C n (.av (.bin .sub T x y) t) d st R:=wp _ (by
 have e:(a:Int)-b=((a-b:Nat):Int):=by omega
 simp only[Prim.fZ,aj,aF,Pl,e];rw[wrap64 (by omega) (by omega)]) k
theorem ie{T:TypeId}{x y:aS}{a:Nat}(aj:x.aP d st=ax a)(aF:y.aP d st=ax 1)(hb:a<9223372036854775806)(k:b6 C n t (d+1) (ax ((a+1:Nat):Int)::st) R):b6 C n (.av (.bin .add T x y) t) d st R:=IN (a:=a) (b:=1) aj aF (by omega) k
theorem AT{T:TypeId}{x y:aS}{a:Nat}(aj:x.aP d st=ax a)(aF:y.aP d st=ax 1)(hb:1<=a/\a<9223372036854775807)(k:b6 C n t (d+1) (ax ((a-1:Nat):Int)::st) R):b6 C n (.av (.bin .sub T x y) t) d st R:=ac6 (a:=a) (b:=1) aj aF (by omega) k
theorem sM{T:TypeId}{x y:aS}{i:IntKind}{a b:Int}(aj:x.aP d st=.int i a)(aF:y.aP d st=.int i b)(k:b6 C n t (d+1) (.bool (decide (a=b))::st) R):b6 C n (.av (.bin .eql T x y) t) d st R:=wp _ (by simp[Prim.fZ,aj,aF]) k
theorem hJ{T:TypeId}{x y:aS}{i:IntKind}{a b:Int}(aj:x.aP d st=.int i a)(aF:y.aP d st=.int i b)(k:b6 C n t (d+1) (.bool (decide (a≠b))::st) R):b6 C n (.av (.bin .neq T x y) t) d st R:=wp _ (by simp[Prim.fZ,aj,aF]) k
theorem hZ{T:TypeId}{x y:aS}{i:IntKind}{a b:Int}(aj:x.aP d st=.int i a)(aF:y.aP d st=.int i b)(k:b6 C n t (d+1) (.bool (decide (a<b))::st) R):b6 C n (.av (.bin .lss T x y) t) d st R:=wp _ (by simp[Prim.fZ,aj,aF]) k
theorem A6{T:TypeId}{x y:aS}{i:IntKind}{a b:Int}(aj:x.aP d st=.int i a)(aF:y.aP d st=.int i b)(k:b6 C n t (d+1) (.bool (decide (a<=b))::st) R):b6 C n (.av (.bin .leq T x y) t) d st R:=wp _ (by simp[Prim.fZ,aj,aF]) k
theorem pf{T:TypeId}{x y:aS}{i:IntKind}{a b:Int}(aj:x.aP d st=.int i a)(aF:y.aP d st=.int i b)(k:b6 C n t (d+1) (.bool (decide (b<a))::st) R):b6 C n (.av (.bin .gtr T x y) t) d st R:=wp _ (by simp[Prim.fZ,aj,aF]) k
theorem Jl{T:TypeId}{x y:aS}{i:IntKind}{a b:Int}(aj:x.aP d st=.int i a)(aF:y.aP d st=.int i b)(k:b6 C n t (d+1) (.bool (decide (b<=a))::st) R):b6 C n (.av (.bin .geq T x y) t) d st R:=wp _ (by simp[Prim.fZ,aj,aF]) k
theorem wI{x:aS}{a:Bool}(aj:x.aP d st=.bool a)(k:b6 C n t (d+1) (.bool (!a)::st) R):b6 C n (.av (.un .not x) t) d st R:=wp _ (by simp[Prim.fZ,aj]) k
theorem ib{x:aS}{v:aa}{l:List Int}(aj:x.aP d st=v)(h:dI v l)(k:b6 C n t (d+1) (ax l.length::st) R):b6 C n (.av (.len 22 x) t) d st R:=wp _ (by rw[←h.len,←aj];rfl) k
theorem k9{x:aS}{v:aa}{l:List aX}(aj:x.aP d st=v)(h:mQ v l)(k:b6 C n t (d+1) (ax l.length::st) R):b6 C n (.av (.len 25 x) t) d st R:=wp _ (by rw[←h.len,←aj];rfl) k
theorem uG{x i:aS}{v:aa}{l:List Int}{m:Nat}(aj:x.aP d st=v)(h:dI v l)(hi:i.aP d st=ax m)(hm:m<l.length)(k:b6 C n t (d+1) (.agg [ax (l.getD m 0)]::st) R):b6 C n (.av (.row 1 x i) t) d st R:=wp _ (by rw[←tc h hm,←aj,←hi];rfl) k
theorem Pk{c:aR}{y:aS}{l:List Int}{a:Int}{b:Nat}(ah:c.aP d st=.agg (l.map ax))(aF:y.aP d st=.sl none 1 0 1 [ax a])(hb:b<=64)(ak:l.length<1000000)(k:b6 C n t (d+1) (.agg ((l++[a]).map ax)::st) R):b6 C n (.av (.push 1 b c y) t) d st R:=wp _ (by simp only[Prim.fZ,ah,aF];exact Ih hb ak) k
theorem Qv{c:aR}{l:List Int}(ah:c.aP d st=.agg (l.map ax))(k:b6 C n t (d+1) (m9 l::st) R):b6 C n (.av (.bK 1 .cZ c) t) d st R:=wp _ (by simp only[Prim.fZ,ah,aaD]) k
theorem El{c:aR}{a b:Tree}(h:c.aP d st=.bool true)(k:b6 C n a d st R):b6 C n (.ite c a b) d st R:=⟨λak=>run_ite.2 (.inl ⟨by rw[←aR.rl ak];exact h,k.run ak⟩)⟩
theorem qV{c:aR}{a b:Tree}(h:c.aP d st=.bool false)(k:b6 C n b d st R):b6 C n (.ite c a b) d st R:=⟨λak=>run_ite.2 (.inr ⟨by rw[←aR.rl ak];exact h,k.run ak⟩)⟩
theorem wq{c:aR}{a b:Tree}{x:Bool}(h:c.aP d st=.bool x)(k1:x=true->b6 C n a d st R)(bf:x=false->b6 C n b d st R):b6 C n (.ite c a b) d st R:=by
 cases x
 ·exact qV h (bf rfl)
 ·exact El h (k1 rfl)
theorem cK{c:aR}{a b:Tree}{p:Prop}[inst:Decidable p](h:c.aP d st=.bool (decide p))(k1:p->b6 C n a d st R)(bf:¬p->b6 C n b d st R):b6 C n (.ite c a b) d st R:=wq h (λe=>k1 (of_decide_eq_true e)) (λe=>bf (of_decide_eq_false e))
theorem D4{c:aR}{a b:Tree}{p:Prop}[inst:Decidable p](h:c.aP d st=.bool (decide p))(ae:p)(k:b6 C n a d st R):b6 C n (.ite c a b) d st R:=El (by rw[h,decide_eq_true ae]) k
theorem pW{c:aR}{a b:Tree}{p:Prop}[inst:Decidable p](h:c.aP d st=.bool (decide p))(ae:¬p)(k:b6 C n b d st R):b6 C n (.ite c a b) d st R:=qV (by rw[h,decide_eq_false ae]) k
theorem cw{L:Nat}{l:List aS}{J:List aa->Prop}(h:J (cF d st l)):b6 C n (.jump L l) d st (fV L J R):=⟨λak=>kG.2 (mj.2 (by rw[←q4 ak];exact h))⟩
theorem ia{L cL:Nat}{l:List aS}{J:List aa->Prop}(aI:cL≠L)(h:b6 C n (.jump cL l) d st R):b6 C n (.jump cL l) d st (fV L J R):=⟨λak=>kG.2 ((Y4 aI).2 (kG.1 (h.run ak)))⟩
theorem gK{L:Nat}{v:aS}{J:List aa->Prop}(h:b6 C n (.ret v) d st R):b6 C n (.ret v) d st (fV L J R):=⟨λak=>uE.2 (acg.2 (uE.1 (h.run ak)))⟩
end
theorem wp_ret{C:b2->FuncId->List aa->Option aa}{n:Nat}{d:Nat}{st:List aa}{x:aS}{v:aa}{Q:aa->Prop}(h:x.aP d st=v)(ae:v.plain=true)(aH:Q v):b6 C n (.ret x) d st λo=>∃v,o=.val v/\v.plain=true/\Q v:=⟨λak=>uE.2 ⟨v,by rw[←aS.rl ak,h],ae,aH⟩⟩
theorem sX{p q:Prop}[Decidable p][Decidable q](h:p↔q):[aa.bool (decide p)]=[aa.bool (decide q)]:=by rw[decide_eq_decide.2 h]
theorem xi{q:Prop}[Decidable q](h:q):[aa.bool true]=[aa.bool (decide q)]:=by rw[decide_eq_true h]
theorem EZ{q:Prop}[Decidable q](h:¬q):[aa.bool false]=[aa.bool (decide q)]:=by rw[decide_eq_false h]
def amT:Tree->Tree
 |.join _ b _=>b
 |t=>t
theorem nN{C:mR}{n k:Nat}{R:Out->Prop}{d:Nat}{st:List aa}{g:FuncId}{args:List aa}{es:List aS}{t:Tree}{Q:aa->Prop}(h:ks C k g args Q)(e:cF d st es=args)(gJ:∀v,Q v->b6 (C k) n t (d+1) (v::st) R):b6 (C k) n (.call g es t) d st R:=⟨λak=>kN h (by rw[←q4 ak];exact e) λv ai=>by have:=(gJ v ai).run (by simp[ak]);rwa[List.reverse_cons]at this⟩
theorem dr{C:mR}{n k:Nat}{R:Out->Prop}{d:Nat}{st:List aa}{g:FuncId}{args:List aa}{es:List aS}{t:Tree}{w:aa}(h:ks C k g args λv=>v=w)(e:cF d st es=args)(gJ:b6 (C k) n t (d+1) (w::st) R):b6 (C k) n (.call g es t) d st R:=nN h e λv ai=>by rw[ai];exact gJ
theorem aga{C:mR}{n k:Nat}{R:Out->Prop}{d:Nat}{st:List aa}{f:aR}{g:FuncId}{caps args:List aa}{es:List aS}{t:Tree}{Q:aa->Prop}(aQ:f.aP d st=.fn g caps)(h:ks C k g args Q)(e:cF d st es++caps=args)(gJ:∀v,Q v->b6 (C k) n t (d+1) (v::st) R):b6 (C k) n (.kL f es t) d st R:=⟨λak=>AD (by rw[←aR.rl ak];exact aQ) (Q:=Q) (by rw[←q4 ak,e];exact h) λv ai=>by have:=(gJ v ai).run (by simp[ak]);rwa[List.reverse_cons]at this⟩
theorem XL{C:mR}{n k:Nat}{R:Out->Prop}{d:Nat}{st:List aa}{f:aR}{g:FuncId}{caps args:List aa}{es:List aS}{t:Tree}{w:aa}(aQ:f.aP d st=.fn g caps)(h:ks C k g args λv=>v=w)(e:cF d st es++caps=args)(gJ:b6 (C k) n t (d+1) (w::st) R):b6 (C k) n (.kL f es t) d st R:=aga aQ h e λv ai=>by rw[ai];exact gJ
theorem ez{C:b2->FuncId->List aa->Option aa}{n:Nat}{R:Out->Prop}{d:Nat}{st:List aa}{L:Nat}{b k:Tree}(J:List aa->Prop)(h:b6 C n b d st (fV L J R))(aq:∀af,J af->b6 C n k (d+af.length) (dz af st) R):b6 C n (.join L b k) d st R:=⟨λak=>hY J (h.run ak) λaf ai=>by have:=(aq af ai).run (by rw[DK,ak]);rwa[DL]at this⟩
theorem wp_loop{C:b2->FuncId->List aa->Option aa}{n:Nat}{R:Out->Prop}{d:Nat}{st:List aa}{L:Nat}{init:List aS}{b:Tree}(I:Nat->List aa->Prop)(N:Nat)(gq:N<n)(aT:I N (cF d st init))(ao:∀j af,I j af->b6 C n b (d+af.length) (dz af st) (fV L (λcB=>∃j5,j5<j/\I j5 cB) R)):b6 C n (.loop L init b) d st R:=⟨λak=>o7 I N gq (by rw[←q4 ak];exact aT) λj af ai=>by have:=(ao j af ai).run (by rw[DK,ak]);rwa[DL]at this⟩
end
section
open Go Go.RowKit
def ov(x:aa)(l:List a7):Prop:=(x=.bC/\l=[])\/∃off,x=.sl none 5 off l.length (uM l)
theorem VV{l:List a7}(h:∀p∈l,dI p.k6 p.g):bG (uM l)=true:=by
 induction l with
 |nil=>rfl
 |cons p l az=>
  have:uM (p::l)=p.cells++uM l:=by simp[uM]
  rw[this];simp[a7.cells,(h p (by simp)).plain,az λx aj=>h x (by simp[aj])]
theorem ov.plain{x:aa}{l:List a7}(h:ov x l)(ak:∀p∈l,dI p.k6 p.g):x.plain=true/\x.one=true:=by
 rcases h with⟨rfl,_⟩|⟨off,rfl⟩
 ·simp
 ·simp[VV ak]
theorem ov.len{x:aa}{l:List a7}(h:ov x l):ht Tryz.prog 47 x=some (ax l.length):=by
 obtain⟨e,he⟩:=agk;rcases h with⟨rfl,rfl⟩|⟨off,rfl⟩<;>simp[ht,he]
theorem BA{x:aa}{l:List a7}(h:ov x l){n:Nat}(aI:n<l.length):kp 5 x (ax n)=some (.agg (l.getD n default).cells):=by
 rcases h with⟨rfl,rfl⟩|⟨off,rfl⟩
 ·simp at aI
 ·exact agn aI
theorem GR{l:List aX}(h:∀r∈l,dI r.sp r.st):bG (dJ l)=true:=by
 induction l with
 |nil=>rfl
 |cons r l az=>simp[aX.cells,(h r (by simp)).plain,az λx aj=>h x (by simp[aj])]
theorem mQ.Jg{x:aa}{l:List aX}(h:mQ x l)(ak:∀r∈l,dI r.sp r.st):x.plain=true/\x.one=true:=by
 rcases h with⟨rfl,_⟩|⟨off,rfl⟩
 ·simp
 ·simp[GR ak]
theorem pH{l:List aX}{i:Nat}(h:i<l.length):l.getD i default∈l:=by simp[List.getD_eq_getElem?_getD,h]
theorem Ll{l:List a7}{i:Nat}(h:i<l.length):l.getD i default∈l:=by simp[List.getD_eq_getElem?_getD,h]
theorem zI{l:List Int}{i:Nat}(h:i<l.length):l.getD i 0∈l:=by simp[List.getD_eq_getElem?_getD,h]
section
variable{C:b2->FuncId->List aa->Option aa}{n:Nat}{R:Out->Prop}{d:Nat}{st:List aa}{t:Tree}
theorem kg{x:aS}{p:Prop}[inst:Decidable p](aj:x.aP d st=.bool (decide p))(k:b6 C n t (d+1) (.bool (decide (¬p))::st) R):b6 C n (.av (.un .not x) t) d st R:=by
 refine wI aj ?_;rwa[←decide_not]
theorem wj{x:aS}{v:aa}{l:List a7}(aj:x.aP d st=v)(h:ov v l)(k:b6 C n t (d+1) (ax l.length::st) R):b6 C n (.av (.len 47 x) t) d st R:=wp _ (by rw[←h.len,←aj];rfl) k
end
structure iq(b3:aa)(l:List aX):Prop where
 gS:mQ b3 l
 rd:∀r∈l,dI r.sp r.st
 len:l.length<=20
 ma:∀r∈l,r.st.length<=20
theorem iq.plain{b3:aa}{l:List aX}(h:iq b3 l):b3.plain=true/\b3.one=true:=h.gS.Jg h.rd
structure lk(p:a7):Prop where
 c5:dI p.k6 p.g
 len:p.g.length<=20
theorem Hand.raw{slip:Int}{b3:aa}{l:List aX}(h:Hand slip b3 l):iq b3 l:=⟨h.gS,λr ad=>(h.ok r ad).c5,by have:=h.fI;omega,λr ad=>by have:=(h.ok r ad).ei;omega⟩
theorem a7.ok.raw{p:a7}(h:p.ok):lk p:=⟨h.c5,by have:=h.pR;omega⟩
theorem Ki(k:Nat){x y:aa}{l:List Int}(aj:dI x l)(aF:dI y l)(ak:l.length<4000):dT (k+1) 16 [x,y] λv=>v=.bool true:=by
 refine gj (t:=t16) (by kernel_rfl) (fn:=Tryz.f16) (by kernel_rfl) (by simp[dd,flagsOf,aj.plain,aF.plain]) ?_;try refine eK (by(try simp only[List.length_cons,List.length_nil,Nat.reduceAdd,Nat.zero_add]);rfl) (by(try simp only[dz]);rfl) ?_
 refine ib rfl aj ?_;refine ib rfl aF ?_;refine sM rfl rfl ?_;rw[decide_eq_true rfl];refine ez (λaf=>af=[.bool true]) ?_ ?_
 ·refine wp_loop (λj af=>∃i:Nat,af=[.bool true,ax i]/\i+j=l.length) l.length (by omega) ⟨0,rfl,by omega⟩ ?_;rintro j af ⟨i,rfl,hi⟩;try refine eK (by(try simp only[List.length_cons,List.length_nil,Nat.reduceAdd,Nat.zero_add]);rfl) (by(try simp only[dz]);rfl) ?_
  refine ez (λaf=>af=[.bool (decide ((i:Int)<l.length))]) ?_ ?_
  ·refine El rfl ?_;refine ib rfl aj ?_;refine hZ rfl rfl ?_;exact cw rfl
  rintro af rfl;try refine eK (by(try simp only[List.length_cons,List.length_nil,Nat.reduceAdd,Nat.zero_add]);rfl) (by(try simp only[dz]);rfl) ?_
  refine cK rfl (λh=>?_) (λh=>?_)
  ·have au:=tc aj (n:=i) (by omega);have hb:=tc aF (n:=i) (by omega);refine wp _ au ?_;refine wp _ hb ?_;refine sM rfl rfl ?_;rw[decide_eq_true rfl];refine ie rfl rfl (by omega) ?_;exact cw ⟨j-1,by omega,i+1,rfl,by omega⟩
  ·refine ia (by decide) ?_;exact cw rfl
 rintro af rfl;exact wp_ret rfl rfl rfl
structure Bh(a b:List aX):Prop where
 len:a.length=b.length
 st:∀i,i<a.length->(a.getD i default).st=(b.getD i default).st
 l8:∀i,i<a.length->(a.getD i default).lines=(b.getD i default).lines
 wd:∀i,i<a.length->(a.getD i default).width=(b.getD i default).width
theorem Bh.symm{a b:List aX}(h:Bh a b):Bh b a:=⟨h.len.symm,λi hi=>(h.st i (by rw[h.len];exact hi)).symm,λi hi=>(h.l8 i (by rw[h.len];exact hi)).symm,λi hi=>(h.wd i (by rw[h.len];exact hi)).symm⟩
end
end Go.Proofs.YtlminnpaeaganaaGreat
