/- Part of the proof of RuleBeside. No condition. -/
import Derived.Test.YtlminnpaeaganaaGreatMBesideAW
import Derived.Test.YtlminnpaeaganaaGreatMBesideAX
import Derived.Test.YtlminnpaeaganaaGreatMBesideAY
namespace Go.Proofs.YtlminnpaeaganaaGreat
set_option maxRecDepth 100000
set_option linter.all false
section
open Go Go.RowKit
theorem Tr{slip:Int}{b3:aa}{l:List aX}{ns:List Int}{p:a7}(h:Hand slip b3 l)(ae:p.ok)(aI:∀n∈ns,0<=n/\n<(l.length:Int))(ak:ns.length<4000):gn slip l ns [p]=0:=by
 have U:=Sz 0 (slip:=slip) (ns:=ns) (ps:=[p]) h.raw (rh ns) ak (J1 (p:=p)) (by simpa using ae.raw) (by simp);have ab:=Jm 0 h (rh ns) aI ak (ps:=[p]) (by simpa using ae) (by simp);rw[show aa.sl none 5 0 [p].length (uM [p])=.sl none 5 0 1 p.cells by simp[uM]]at ab;have key:∀{g:FuncId}{args:List aa}{Q:aa->Prop}{u:aa},dT 4 g args Q->dT 4 g args (λv=>v=u)->Q u:=λ{g args Q u} a b=>by
  obtain⟨v,ai,aH⟩:=a gP;obtain⟨w,hw,e⟩:=b gP;rw[ai]at hw;injection hw with hw;rw[←e,←hw];exact aH
 obtain⟨a,b,e,_⟩:=key U ab;simp only[aa.bD.injEq,List.cons.injEq,aa.int.injEq]at e;exact e.2.1.2.symm
theorem P4(k:Nat){slip:Int}{b3:aa}{l:List aX}(h:Hand slip b3 l){p:a7}(ae:p.ok):dT (k+5) 15 [.agg [ax slip,b3],.agg p.cells] λv=>∃y,v=.bD [y,ax 0]/\dI y (hy slip l p l.length):=by
 have e:=Tr (ns:=[]) h ae (by simp) (by simp);refine(Qz k (slip:=slip) h.raw ae.raw).mono λv ⟨y,U,ab⟩=>⟨y,by rw[U,e],?_⟩;unfold qs at ab;rwa[if_pos e]at ab
def Xl(slip:Int)(l:List aX)(n:Nat)(p:a7):Int:=if kn slip (l.getD n default) p then(if(hy slip l p l.length).length=1 then 1 else 3)else 2
theorem P3{slip:Int}{l:List aX}{p:a7}{n N:Nat}(h:n<N):(n:Int)∈hy slip l p N↔kn slip (l.getD n default) p=true:=by
 simp only[hy,oe,List.mem_map,List.mem_filter,List.mem_range];constructor
 ·rintro⟨m,⟨_,hm⟩,e⟩;have e:m=n:=by omega
  rw[←e];exact hm
 ·intro bc;exact⟨n,⟨h,bc⟩,rfl⟩
end
section
open Go Go.RowKit
theorem sM{slip x:Int}{a b:a7}{l:List aX}:x∈rM slip a b l↔∃r∈l,∃s∈kl slip r a,∃t∈kl slip r b,t.1<=s.1+a.g.length/\s.1<=t.1+b.g.length/\x=(t.1:Int)-s.1:=by
 simp only[rM,rW,rX,rR,List.mem_flatMap];constructor
 ·rintro⟨r,ad,s,ao,t,a1,h⟩;split at h
  ·rename_i c;exact⟨r,ad,s,ao,t,a1,c.1,c.2,by simpa using h⟩
  ·simp at h
 ·rintro⟨r,ad,s,ao,t,a1,dS,c2,rfl⟩;exact⟨r,ad,s,ao,t,a1,by rw[if_pos ⟨dS,c2⟩];simp⟩
def ng(slip:Int)(l:List aX)(a b:a7):List Int:=agM (rZ (rM slip a b l))
theorem zu{slip x:Int}{a b:a7}{l:List aX}:x∈ng slip l a b↔x∈rM slip a b l:=Hi
theorem D9{slip:Int}{a b:a7}{l:List aX}:ng slip l b a=((ng slip l a b).map λx=>-x).reverse:=by
 refine DD (BQ _) ?_ λx=>?_
 ·rw[List.pairwise_reverse,List.pairwise_map];exact(BQ _).imp λh=>by omega
 ·rw[List.mem_reverse,List.mem_map,zu];constructor
  ·intro h;obtain⟨r,ad,s,ao,t,a1,dS,c2,rfl⟩:=sM.1 h;exact⟨(s.1:Int)-t.1,zu.2 (sM.2 ⟨r,ad,t,a1,s,ao,c2,dS,rfl⟩),by omega⟩
  ·rintro⟨y,aF,rfl⟩;obtain⟨r,ad,s,ao,t,a1,dS,c2,rfl⟩:=sM.1 (zu.1 aF);exact sM.2 ⟨r,ad,t,a1,s,ao,c2,dS,by omega⟩
theorem Ei{slip:Int}{a b:a7}{l:List aX}:(ng slip l b a).length=(ng slip l a b).length:=by rw[D9,List.length_reverse,List.length_map]
theorem Po{slip:Int}{a b:a7}{l:List aX}{i:Nat}(h:i<(ng slip l a b).length):(ng slip l b a).getD ((ng slip l b a).length-1-i) 0=- (ng slip l a b).getD i 0:=by
 rw[Ei,D9];generalize ng slip l a b=A at *;have e:A.length-1-(A.length-1-i)=i:=by omega
 have U:A.length-1-i<A.length:=by omega
 simp[List.getD_eq_getElem?_getD,List.getElem?_reverse,h,U,e]
theorem PS{slip:Int}{a b:a7}{l:List aX}{i:Nat}(h:i<(ng slip l a b).length)(aT:0<i):(ng slip l a b).getD (i-1) 0<(ng slip l a b).getD i 0:=by
 have:=List.pairwise_iff_getElem.1 (BQ (rM slip a b l)) (i-1) i (by unfold ng at h;omega) h (by omega);have U:i-1<(ng slip l a b).length:=by omega
 simp only[List.getD_eq_getElem?_getD,List.getElem?_eq_getElem h,List.getElem?_eq_getElem U,Option.getD_some];exact this
theorem PT{slip:Int}{a b:a7}{l:List aX}{i:Nat}(h:i<(ng slip l a b).length):-(b.g.length:Int)<=(ng slip l a b).getD i 0/\(ng slip l a b).getD i 0<=a.g.length:=by
 have hm:(ng slip l a b).getD i 0∈ng slip l a b:=by
  rw[List.getD_eq_getElem?_getD,List.getElem?_eq_getElem h,Option.getD_some];exact List.getElem_mem h
 obtain⟨r,ad,s,ao,t,a1,dS,c2,e⟩:=sM.1 (zu.1 hm);omega
theorem OW{slip:Int}{p:a7}{l:List aX}:(0:Int)∈ng slip l p p↔0<(hy slip l p l.length).length:=by
 rw[zu,sM];constructor
 ·rintro⟨r,ad,s,ao,_⟩;obtain⟨n,aI,rfl⟩:=List.mem_iff_getElem.1 ad;refine List.length_pos_of_mem ((P3 (slip:=slip) (p:=p) aI).2 ?_);rw[List.getD_eq_getElem?_getD,List.getElem?_eq_getElem aI,Option.getD_some];exact decide_eq_true (List.length_pos_of_mem ao)
 ·intro h;obtain⟨x,aj⟩:=List.exists_mem_of_length_pos h;simp only[hy,oe,List.mem_map,List.mem_filter,List.mem_range]at aj;obtain⟨n,⟨aI,au⟩,_⟩:=aj;obtain⟨s,ao⟩:=List.exists_mem_of_length_pos (of_decide_eq_true au);refine⟨_,De aI,s,ao,s,ao,by omega,by omega,by omega⟩
theorem SB{slip:Int}{b3:aa}{l:List aX}{a b:a7}(h:Hand slip b3 l)(au:a.ok)(hb:b.ok):gn slip l [] [a,b]=0:=by
 have U:=Sz 0 (slip:=slip) (ns:=[]) (ps:=[a,b]) h.raw (rh []) (by simp) JO (HW au.raw hb.raw) (by simp);have ab:=Jm 0 h (rh []) (by simp) (by simp) (ps:=[a,b]) (by simpa using⟨au,hb⟩) (by simp);rw[show aa.sl none 5 0 [a,b].length (uM [a,b])=.sl none 5 0 2 (a.cells++b.cells)by simp[uM]]at ab;have key:∀{g:FuncId}{args:List aa}{Q:aa->Prop}{u:aa},dT 4 g args Q->dT 4 g args (λv=>v=u)->Q u:=λ{g args Q u} a b=>by
  obtain⟨v,ai,aH⟩:=a gP;obtain⟨w,hw,e⟩:=b gP;rw[ai]at hw;injection hw with hw;rw[←e,←hw];exact aH
 obtain⟨a,b,e,_⟩:=key U ab;simp only[aa.bD.injEq,List.cons.injEq,aa.int.injEq]at e;exact e.2.1.2.symm
theorem CZ(k:Nat){slip:Int}{b3:aa}{l:List aX}(h:Hand slip b3 l){a b:a7}(au:a.ok)(hb:b.ok):dT (k+5) 37 [.agg [ax slip,b3],.agg a.cells,.agg b.cells] λv=>∃y,v=.bD [y,ax 0]/\dI y (ng slip l a b)/\(ng slip l a b).length<=25:=by
 have e:=SB h au hb;have ak:=Pp (slip:=slip) h.raw au.raw hb.raw;refine(SF k (slip:=slip) h.raw au.raw hb.raw).mono λv ⟨y,U,ab⟩=>?_;unfold sW at ab ak;rw[if_pos e]at ab ak;exact⟨y,by rw[U,e],ab,ak⟩
section
variable{C:b2->FuncId->List aa->Option aa}{n:Nat}{R:Out->Prop}{d:Nat}{st:List aa}{t:Tree}
theorem Dc{x:aS}{a:Int}(aj:x.aP d st=ax a)(U:-9223372036854775808<a)(ab:a<=9223372036854775807)(k:b6 C n t (d+1) (ax (-a)::st) R):b6 C n (.av (.un .neg x) t) d st R:=wp _ (by
 simp only[Prim.fZ,aj,rH];rw[wrap64 (by omega) (by omega),Int.zero_sub]) k
end
theorem Ur{q:aa}(tG:wY q=true)(xI:q.plain=true):dT 20 9 [q] λv=>v=.bool true:=by
 refine gj (t:=t9) (by kernel_rfl) (fn:=Tryz.f9) (by kernel_rfl) (by simp[dd,flagsOf,xI]) ?_;refine wp q (by simp[Prim.fZ,dz,ag,aS.aP,aR.aP,nth,EX,tG]) ?_;refine nN (agi 14 2 (by omega) (by omega)) rfl ?_;rintro v ⟨slip,b3,l,rfl,cc,vM,F4,gk,bQ,fU⟩;have e4:Hand slip b3 l:=⟨cc,vM,F4,gk,by omega,fU⟩;refine eU (by simp only[ag,aD,aM,aS.aP,aR.aP,cF,nth,cM,List.getD_cons_succ,List.getD_cons_zero,aX.cells,a7.cells];rfl) rfl ?_;refine nN (af9 13 e4) rfl ?_;rintro v ⟨p,rfl,ae⟩;try refine eK (by(try simp only[List.length_cons,List.length_nil,Nat.reduceAdd,Nat.zero_add]);rfl) (by(try simp only[dz]);rfl) ?_
 refine nN (af9 13 e4) rfl ?_;rintro v ⟨r,rfl,ad⟩;refine eU (by simp only[ag,aD,aM,aS.aP,aR.aP,cF,nth,cM,List.getD_cons_succ,List.getD_cons_zero,aX.cells,a7.cells];rfl) rfl ?_;refine eU (by simp only[ag,aD,aM,aS.aP,aR.aP,cF,nth,cM,List.getD_cons_succ,List.getD_cons_zero,aX.cells,a7.cells];rfl) rfl ?_;refine nN (CZ _ e4 ae ad) rfl ?_;rintro v ⟨x,rfl,aj,amc⟩;refine pe (by simp only[ag,aD,aM,aS.aP,aR.aP,cF,nth,cM,List.getD_cons_succ,List.getD_cons_zero,aX.cells,a7.cells,ll];rfl) ?_;refine pe (by simp only[ag,aD,aM,aS.aP,aR.aP,cF,nth,cM,List.getD_cons_succ,List.getD_cons_zero,aX.cells,a7.cells,ll];rfl) ?_;refine nN (CZ _ e4 ad ae) rfl ?_;rintro v ⟨y,rfl,aF,ahj⟩;refine pe (by simp only[ag,aD,aM,aS.aP,aR.aP,cF,nth,cM,List.getD_cons_succ,List.getD_cons_zero,aX.cells,a7.cells,ll];rfl) ?_;refine pe (by simp only[ag,aD,aM,aS.aP,aR.aP,cF,nth,cM,List.getD_cons_succ,List.getD_cons_zero,aX.cells,a7.cells,ll];rfl) ?_;refine nN (CZ _ e4 ae ae) rfl ?_;rintro v ⟨z,rfl,bO,rI⟩;refine pe (by simp only[ag,aD,aM,aS.aP,aR.aP,cF,nth,cM,List.getD_cons_succ,List.getD_cons_zero,aX.cells,a7.cells,ll];rfl) ?_;refine pe (by simp only[ag,aD,aM,aS.aP,aR.aP,cF,nth,cM,List.getD_cons_succ,List.getD_cons_zero,aX.cells,a7.cells,ll];rfl) ?_;refine nN (P4 _ e4 ae) rfl ?_;rintro v ⟨u,rfl,hu⟩;have FI:=aoJ slip l p l.length;have aT:=OW (slip:=slip) (p:=p) (l:=l);have hlen:=Ei (slip:=slip) (a:=p) (b:=r) (l:=l);have s7:=λi=>Po (slip:=slip) (a:=p) (b:=r) (l:=l) (i:=i);have Uy:=λi=>PS (slip:=slip) (a:=p) (b:=r) (l:=l) (i:=i);have c1:=λi=>PT (slip:=slip) (a:=p) (b:=r) (l:=l) (i:=i);have cD:=ae.raw.c5;have Xj:=ad.raw.c5;have Xn:=ae.pR;have rg:=ad.pR;generalize ng slip l p r=A at *;generalize ng slip l r p=B at *;generalize ng slip l p p=D at *;generalize hy slip l p l.length=L at *;refine pe (by simp only[ag,aD,aM,aS.aP,aR.aP,cF,nth,cM,List.getD_cons_succ,List.getD_cons_zero,aX.cells,a7.cells,ll];rfl) ?_;refine pe (by simp only[ag,aD,aM,aS.aP,aR.aP,cF,nth,cM,List.getD_cons_succ,List.getD_cons_zero,aX.cells,a7.cells,ll];rfl) ?_;refine ez (λaf=>af=[.bool false]) ?_ ?_
 ·refine hJ rfl rfl ?_;refine pW rfl (by omega) ?_;refine hJ rfl rfl ?_;refine pW rfl (by omega) ?_;refine hJ rfl rfl ?_;refine pW rfl (by omega) ?_;refine hJ rfl rfl ?_;refine pW rfl (by omega) ?_;refine ib rfl (by assumption) ?_;refine ib rfl (by assumption) ?_;refine hJ rfl rfl ?_;refine pW rfl (by omega) ?_;refine nN (S8 _ bO (by omega) 0) rfl ?_;rintro v ⟨i0,rfl,jX⟩;refine Jl rfl rfl ?_;refine ib rfl (by assumption) ?_;refine pf rfl rfl ?_;refine aoK rfl rfl ?_;refine cw ?_;show[aa.bool (decide ((0:Int)<=i0) != decide ((0:Int)<(L.length:Int)))]=_;by_cases c:0<L.length
  ·rw[decide_eq_true (jX.2 (aT.2 c)),decide_eq_true (show(0:Int)<(L.length:Int)by omega)];rfl
  ·rw[decide_eq_false (λq=>c (aT.1 (jX.1 q))),decide_eq_false (show ¬(0:Int)<(L.length:Int)by omega)];rfl
 rintro af rfl;refine qV rfl ?_;refine ez (λaf=>af=[]) ?_ ?_
 ·refine wp_loop (λj af=>∃i:Nat,af=[ax i]/\i+j=A.length) A.length (by omega) ⟨0,rfl,by omega⟩ ?_;rintro j af ⟨i,rfl,hi⟩;refine ib rfl (by assumption) ?_;refine hZ rfl rfl ?_;refine cK rfl (λU=>?_) (λU=>?_)
  ·have aU:i<A.length:=by omega
   have g1:=s7 i aU;have g2:=Uy i aU;have g3:=c1 i aU;refine ez (λaf=>af=[.bool false]) ?_ ?_
   ·refine ib rfl (by assumption) ?_;refine AT rfl rfl (by omega) ?_;refine ac6 rfl rfl (by omega) ?_;refine uG rfl (by assumption) rfl (by omega) ?_;refine uG rfl (by assumption) rfl (by omega) ?_;refine Dc rfl (by omega) (by omega) ?_;refine hJ rfl rfl ?_;refine pW rfl (by omega) ?_;refine pf rfl rfl ?_;refine cK rfl (λab=>?_) (λab=>?_)
    ·have g4:=g2 (by omega);refine uG rfl (by assumption) rfl (by omega) ?_;refine AT rfl rfl (by omega) ?_;refine uG rfl (by assumption) rfl (by omega) ?_;refine A6 rfl rfl ?_;refine pW rfl (by omega) ?_;refine uG rfl (by assumption) rfl (by omega) ?_;refine ib rfl (by assumption) ?_;refine Dc rfl (by omega) (by omega) ?_;refine hZ rfl rfl ?_;refine pW rfl (by omega) ?_;refine uG rfl (by assumption) rfl (by omega) ?_;refine ib rfl (by assumption) ?_;refine pf rfl rfl ?_;exact cw (show[aa.bool (decide ((p.g.length:Int)<A.getD i 0))]=[aa.bool false]by rw[decide_eq_false (by omega)])
    ·refine uG rfl (by assumption) rfl (by omega) ?_;refine ib rfl (by assumption) ?_;refine Dc rfl (by omega) (by omega) ?_;refine hZ rfl rfl ?_;refine pW rfl (by omega) ?_;refine uG rfl (by assumption) rfl (by omega) ?_;refine ib rfl (by assumption) ?_;refine pf rfl rfl ?_;exact cw (show[aa.bool (decide ((p.g.length:Int)<A.getD i 0))]=[aa.bool false]by rw[decide_eq_false (by omega)])
   rintro af rfl;refine qV rfl ?_;refine ie rfl rfl (by omega) ?_;exact cw ⟨j-1,by omega,i+1,rfl,by omega⟩
  ·refine ia (by decide) ?_;exact cw rfl
 rintro af rfl;try refine eK (by(try simp only[List.length_cons,List.length_nil,Nat.reduceAdd,Nat.zero_add]);rfl) (by(try simp only[dz]);rfl) ?_
 refine dr (w:=.bool true) (λω=>⟨_,Qu ω,rfl⟩) rfl ?_;exact wp_ret rfl rfl rfl
theorem S9:∀bz,qu Tryz.prog 6 Tryz.f9.params.toList bz->∀ω,E Tryz.prog 20 ω 9 bz=some (.bool true):=by
 intro bz h ω;rw[show Tryz.f9.params.toList=[22]by kernel_rfl]at h;obtain⟨d,_,rfl,aV,h⟩:=D2 h;have aT:=ace h;subst aT;obtain⟨U,ab,_⟩:=XJ aV;obtain⟨v,ai,rfl⟩:=Ur U ab ω;exact ai
end
section
open Go
theorem ruleBesideProved:Rows.RuleBesideSaid:=NR S9
#print axioms ruleBesideProved
end
end Go.Proofs.YtlminnpaeaganaaGreat
