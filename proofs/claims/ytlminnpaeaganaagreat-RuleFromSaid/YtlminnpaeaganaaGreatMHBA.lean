/- Part of the proof of RuleH. No condition. -/
import Derived.Test.YtlminnpaeaganaaGreatMHAZ
namespace Go.Proofs.YtlminnpaeaganaaGreat
set_option maxRecDepth 100000
set_option linter.all false
section
open Go Go.RowKit
theorem Ek{slip:Int}{b3:aa}{l:List aX}{ns:List Int}{p:a7}(ad:iq b3 l)(ae:lk p)(h:gn slip l ns [p]=0):Hand slip b3 l/\p.ok:=by
 obtain⟨al,_,bI⟩:=adI h;exact⟨aeL ad al,aeM ae.c5 (Rt bI p (by simp))⟩
def qs(slip:Int)(l:List aX)(ns:List Int)(p:a7):List Int:=if gn slip l ns [p]=0 then hy slip l p l.length else[]
def qt(slip:Int)(l:List aX)(n:Int)(p:a7):Int:=if gn slip l [n] [p]=0 then(if n∈hy slip l p l.length then(if(hy slip l p l.length).length=1 then 1 else 3)else 2)else 0
theorem aaA(slip:Int)(l:List aX)(p:a7)(n:Nat):hy slip l p (n+1)=hy slip l p n++(if kn slip (l.getD n default) p then[(n:Int)]else[]):=by
 simp only[hy,oe,List.range_succ,List.filter_append,List.map_append];congr 1;cases h:kn slip (l.getD n default) p<;>simp only[List.filter,h]<;>rfl
theorem adH(k:Nat){slip:Int}{b3:aa}{l:List aX}(h:iq b3 l){p:a7}(ae:lk p):dT (k+5) 15 [.agg [ax slip,b3],.agg p.cells] λv=>∃y,v=.bD [y,ax (gn slip l [] [p])]/\dI y (qs slip l [] p):=by
 refine gj (t:=t15) (by kernel_rfl) (fn:=Tryz.f15) (by kernel_rfl) (by simp[dd,flagsOf,h.plain,a7.cells,ae.c5.plain]) ?_;refine eU (by simp only[ag,aD,aM,aS.aP,aR.aP,cF,nth,cM,List.getD_cons_succ,List.getD_cons_zero,aX.cells,a7.cells];rfl) rfl ?_;refine eU (by simp only[ag,aD,aM,aS.aP,aR.aP,cF,nth,cM,List.getD_cons_succ,List.getD_cons_zero,aX.cells,a7.cells];rfl) rfl ?_;refine nN (Sz k (slip:=slip) (x:=.bC) (ns:=[]) (y:=.sl none 5 0 1 p.cells) (ps:=[p]) h EY (by simp) tb (by simpa using ae) (by simp)) rfl ?_;rintro v ⟨a,b,rfl,bL,cD⟩;refine pe (by simp only[ag,aD,aM,aS.aP,aR.aP,cF,nth,cM,List.getD_cons_succ,List.getD_cons_zero,aX.cells,a7.cells,ll];rfl) ?_;refine pe (by simp only[ag,aD,aM,aS.aP,aR.aP,cF,nth,cM,List.getD_cons_succ,List.getD_cons_zero,aX.cells,a7.cells,ll];rfl) ?_;refine eU (by simp only[ag,aD,aM,aS.aP,aR.aP,cF,nth,cM,List.getD_cons_succ,List.getD_cons_zero,aX.cells,a7.cells];rfl) rfl ?_;refine hJ rfl rfl ?_;refine cK rfl (λhe=>?_) (λhe=>?_)
 ·exact wp_ret (v:=.bD [.bC,ax (gn slip l [] [p])]) rfl rfl ⟨.bC,rfl,by unfold qs;rw[if_neg he];exact EY⟩
 replace he:=Decidable.not_not.1 he;obtain⟨rfl,rfl⟩:=bL he;obtain⟨e4,tK⟩:=Ek h ae he;refine dr (Sl (k+3) e4 tK) rfl ?_;have aH:=Qf (oe slip l p l.length);have xv:=aH.plain;exact wp_ret (v:=.bD [lS (oe slip l p l.length),ax 0]) rfl (by simp[xv]) ⟨_,by rw[he],by unfold qs;rw[if_pos he];exact aH⟩
theorem SA(k:Nat){slip:Int}{b3:aa}{l:List aX}(e4:Hand slip b3 l){p:a7}(ae:p.ok):dT (k+4) 65 [.agg [ax slip,b3],.agg p.cells] λv=>v=m9 (hy slip l p l.length):=by
 refine gj (t:=t65) (by kernel_rfl) (fn:=Tryz.f65) (by kernel_rfl) (by simp[dd,flagsOf,e4.plain,a7.cells,ae.c5.plain]) ?_;have cc:=e4.cc;have s1:=e4.s1;have fI:=e4.fI;have F4:=e4.gS;refine eU (by simp only[ag,aD,aM,aS.aP,aR.aP,cF,nth,cM,List.getD_cons_succ,List.getD_cons_zero,aX.cells,a7.cells];rfl) rfl ?_;refine eU (by simp only[ag,aD,aM,aS.aP,aR.aP,cF,nth,cM,List.getD_cons_succ,List.getD_cons_zero,aX.cells,a7.cells];rfl) rfl ?_;refine ez (λaf=>af=[.agg ((hy slip l p l.length).map ax)]) ?_ ?_
 ·refine wp_loop (λj af=>∃i:Nat,af=[.agg ((hy slip l p i).map ax),ax i]/\i+j=l.length) l.length (by omega) ⟨0,rfl,by omega⟩ ?_;rintro j af ⟨i,rfl,hi⟩;have hlen:=Ei slip l p i;refine k9 rfl (by assumption) ?_;refine hZ rfl rfl ?_;refine cK rfl (λab=>?_) (λab=>?_)
  ·have aU:i<l.length:=by omega
   have ad:=e4.get aU;have du:=m6 F4 aU;have Cg:=aaA slip l p i;have Kj:kn slip (l.getD i default) p=decide (0<(kl slip (l.getD i default) p).length):=rfl;generalize l.getD i default=r at ad du Cg Kj;refine wp _ du ?_;refine dr (agd (k+2) ae) rfl ?_;refine nN (aeN k cc s1 ad ae) rfl ?_;intro x aj;have hB:=Y3 slip ad p;refine aaB rfl aj ?_;refine pf rfl rfl ?_;generalize hy slip l p i=P at *;refine ez (λaf=>af=[.agg ((hy slip l p (i+1)).map ax)]) ?_ ?_
   ·refine cK rfl (λal=>?_) (λal=>?_)
    ·have e:kn slip r p=true:=by rw[Kj,decide_eq_true_eq];omega
     rw[if_pos e]at Cg;refine p5 (by simp only[ag,aD,aM,aS.aP,aR.aP,cF,nth,cM,List.getD_cons_succ,List.getD_cons_zero,aX.cells,a7.cells];rfl) rfl ?_;refine Pk rfl rfl (by decide) (by first|omega|(simp;omega)) ?_;refine cw ?_;rw[Cg];simp[cF,aS.aP,aR.aP,nth,ag]
    ·have e:¬kn slip r p=true:=by rw[Kj,decide_eq_true_eq];omega
     rw[if_neg e,List.append_nil]at Cg;refine cw ?_;rw[Cg];rfl
   rintro af rfl;refine ie rfl rfl (by omega) ?_;exact cw ⟨j-1,by omega,i+1,rfl,by omega⟩
  ·refine ia (by decide) ?_;have e:i=l.length:=by omega
   rw[e];exact cw rfl
 rintro af rfl;refine Qv rfl ?_;have aH:=(rh (hy slip l p l.length)).plain;exact wp_ret (v:=m9 (hy slip l p l.length)) rfl (by simp[aH]) rfl
theorem acd(k:Nat){slip:Int}{b3:aa}{l:List aX}(h:iq b3 l){p:a7}(ae:lk p):dT (k+5) 26 [.agg [ax slip,b3],.agg p.cells] λv=>∃y,v=.bD [y,ax (gn slip l [] [p])]/\dI y (qs slip l [] p):=by
 refine gj (t:=t26) (by kernel_rfl) (fn:=Tryz.f26) (by kernel_rfl) (by simp[dd,flagsOf,h.plain,a7.cells,ae.c5.plain]) ?_;refine eU (by simp only[ag,aD,aM,aS.aP,aR.aP,cF,nth,cM,List.getD_cons_succ,List.getD_cons_zero,aX.cells,a7.cells];rfl) rfl ?_;refine eU (by simp only[ag,aD,aM,aS.aP,aR.aP,cF,nth,cM,List.getD_cons_succ,List.getD_cons_zero,aX.cells,a7.cells];rfl) rfl ?_;refine dr (SB k (slip:=slip) (x:=.bC) (ns:=[]) (y:=.sl none 5 0 1 p.cells) (ps:=[p]) h EY (by simp) tb (by simpa using ae) (by simp)) rfl ?_;refine hJ rfl rfl ?_;refine cK rfl (λhe=>?_) (λhe=>?_)
 ·exact wp_ret (v:=.bD [.bC,ax (gn slip l [] [p])]) rfl rfl ⟨.bC,rfl,by unfold qs;rw[if_neg he];exact EY⟩
 replace he:=Decidable.not_not.1 he;obtain⟨e4,tK⟩:=Ek h ae he;refine dr (SA k e4 tK) rfl ?_;have aH:=rh (hy slip l p l.length);have xv:=aH.plain;exact wp_ret (v:=.bD [m9 (hy slip l p l.length),ax 0]) rfl (by simp[xv]) ⟨_,by rw[he],by unfold qs;rw[if_pos he];exact aH⟩
theorem adJ(k:Nat){x:aa}{L:List Int}(aj:dI x L)(ak:L.length<4000)(n:Int):dT (k+1) 108 [x,ax n] λv=>∃i:Int,v=ax i/\(0<=i↔n∈L):=by
 refine gj (t:=t108) (by kernel_rfl) (fn:=Tryz.f108) (by kernel_rfl) (by simp[dd,flagsOf,aj.plain]) ?_;refine ib rfl (by assumption) ?_;refine ez (λaf=>af=[]/\n∉L) ?_ ?_
 ·refine wp_loop (λj af=>∃i:Nat,af=[ax i]/\i+j=L.length/\∀k,k<i->L.getD k 0≠n) L.length (by omega) ⟨0,rfl,by omega,λk aq=>by omega⟩ ?_;rintro j af ⟨i,rfl,hi,hb⟩;refine hZ rfl rfl ?_;refine cK rfl (λU=>?_) (λU=>?_)
  ·have aU:i<L.length:=by omega
   have du:=tc aj aU;have hm:L.getD i 0∈L:=by simp[List.getD_eq_getElem?_getD,aU]
   have dB:L.getD i 0≠n->∀k,k<i+1->L.getD k 0≠n:=λh k aq=>by
    by_cases e:k=i
    ·subst e;exact h
    ·exact hb k (by omega)
   generalize L.getD i 0=a at du hm dB;refine wp _ du ?_;refine sM rfl rfl ?_;refine cK rfl (λab=>?_) (λab=>?_)
   ·subst ab;refine gK ?_;refine gK ?_;exact wp_ret (v:=ax i) rfl rfl ⟨i,rfl,by simp[hm]⟩
   ·refine ie rfl rfl (by omega) ?_;exact cw ⟨j-1,by omega,i+1,rfl,by omega,dB λe=>ab e.symm⟩
  ·refine ia (by decide) ?_;refine cw ⟨rfl,λhm=>?_⟩;obtain⟨k,aq,e⟩:=List.getElem_of_mem hm;exact hb k (by omega) (by simpa[List.getD_eq_getElem?_getD,aq]using e)
 rintro af ⟨rfl,aI⟩;exact wp_ret (v:=ax (-1)) rfl rfl ⟨-1,rfl,by simp[aI]⟩
theorem aeO(k:Nat){x:aa}{L:List Int}(aj:dI x L)(ak:L.length<4000)(n:Int):dT (k+2) 66 [x,ax n] λv=>v=.bool (decide (n∈L)):=by
 refine gj (t:=t66) (by kernel_rfl) (fn:=Tryz.f66) (by kernel_rfl) (by simp[dd,flagsOf,aj.plain]) ?_;refine nN (adJ k aj ak n) rfl ?_;rintro v ⟨i,rfl,hi⟩;refine wp (.bool (decide (n∈L))) (by
  rw[show decide (n∈L)=decide (0<=i)from decide_eq_decide.2 hi.symm];simp[Prim.fZ,aS.aP,aR.aP,nth,ag,aM,dz]) ?_
 exact wp_ret rfl rfl rfl
theorem aeP(k:Nat){x:aa}{L:List Int}(aj:dI x L)(ak:L.length<4000)(n:Int):dT (k+1) 67 [x,ax n] λv=>v=.bool (decide (n∈L)):=by
 refine gj (t:=t67) (by kernel_rfl) (fn:=Tryz.f67) (by kernel_rfl) (by simp[dd,flagsOf,aj.plain]) ?_;try refine eK (by(try simp only[List.length_cons,List.length_nil,Nat.reduceAdd,Nat.zero_add]);rfl) (by(try simp only[dz]);rfl) ?_
 refine ez (λaf=>af=[]/\n∉L) ?_ ?_
 ·refine wp_loop (λj af=>∃i:Nat,af=[ax i]/\i+j=L.length/\∀k,k<i->L.getD k 0≠n) L.length (by omega) ⟨0,rfl,by omega,λk aq=>by omega⟩ ?_;rintro j af ⟨i,rfl,hi,hb⟩;refine ib rfl (by assumption) ?_;refine hZ rfl rfl ?_;refine cK rfl (λU=>?_) (λU=>?_)
  ·have aU:i<L.length:=by omega
   have du:=tc aj aU;have hm:L.getD i 0∈L:=by simp[List.getD_eq_getElem?_getD,aU]
   have dB:L.getD i 0≠n->∀k,k<i+1->L.getD k 0≠n:=λh k aq=>by
    by_cases e:k=i
    ·subst e;exact h
    ·exact hb k (by omega)
   generalize L.getD i 0=a at du hm dB;refine wp _ du ?_;refine sM rfl rfl ?_;refine cK rfl (λab=>?_) (λab=>?_)
   ·subst ab;refine gK ?_;refine gK ?_;refine wp_ret (v:=.bool true) rfl rfl ?_;rw[decide_eq_true hm]
   ·refine ie rfl rfl (by omega) ?_;exact cw ⟨j-1,by omega,i+1,rfl,by omega,dB ab⟩
  ·refine ia (by decide) ?_;refine cw ⟨rfl,λhm=>?_⟩;obtain⟨k,aq,e⟩:=List.getElem_of_mem hm;exact hb k (by omega) (by simpa[List.getD_eq_getElem?_getD,aq]using e)
 rintro af ⟨rfl,aI⟩;refine wp_ret (v:=.bool false) rfl rfl ?_;rw[decide_eq_false aI]
theorem aga(k:Nat){slip n:Int}{b3:aa}{l:List aX}(h:iq b3 l){p:a7}(ae:lk p):dT (k+5) 27 [.agg [ax slip,b3],ax n,.agg p.cells] λv=>v=.bD [ax (qt slip l n p),ax (gn slip l [n] [p])]:=by
 refine gj (t:=t27) (by kernel_rfl) (fn:=Tryz.f27) (by kernel_rfl) (by simp[dd,flagsOf,h.plain,a7.cells,ae.c5.plain]) ?_;refine eU (by simp only[ag,aD,aM,aS.aP,aR.aP,cF,nth,cM,List.getD_cons_succ,List.getD_cons_zero,aX.cells,a7.cells];rfl) rfl ?_;refine eU (by simp only[ag,aD,aM,aS.aP,aR.aP,cF,nth,cM,List.getD_cons_succ,List.getD_cons_zero,aX.cells,a7.cells];rfl) rfl ?_;refine p5 (by simp only[ag,aD,aM,aS.aP,aR.aP,cF,nth,cM,List.getD_cons_succ,List.getD_cons_zero,aX.cells,a7.cells];rfl) rfl ?_;refine nN (Sz k (slip:=slip) (x:=.sl none 1 0 1 [ax n]) (ns:=[n]) (y:=.sl none 5 0 1 p.cells) (ps:=[p]) h (.inr ⟨0,rfl⟩) (by simp) tb (by simpa using ae) (by simp)) rfl ?_;rintro v ⟨a,b,rfl,bL,cD⟩;refine pe (by simp only[ag,aD,aM,aS.aP,aR.aP,cF,nth,cM,List.getD_cons_succ,List.getD_cons_zero,aX.cells,a7.cells,ll];rfl) ?_;refine pe (by simp only[ag,aD,aM,aS.aP,aR.aP,cF,nth,cM,List.getD_cons_succ,List.getD_cons_zero,aX.cells,a7.cells,ll];rfl) ?_;refine eU (by simp only[ag,aD,aM,aS.aP,aR.aP,cF,nth,cM,List.getD_cons_succ,List.getD_cons_zero,aX.cells,a7.cells];rfl) rfl ?_;refine hJ rfl rfl ?_;refine cK rfl (λhe=>?_) (λhe=>?_)
 ·exact wp_ret (v:=.bD [ax 0,ax (gn slip l [n] [p])]) rfl rfl (by unfold qt;rw[if_neg he])
 replace he:=Decidable.not_not.1 he;obtain⟨rfl,rfl⟩:=bL he;obtain⟨e4,tK⟩:=Ek h ae he;have fI:=e4.fI;have ai:qt slip l n p=if n∈hy slip l p l.length then(if(hy slip l p l.length).length=1 then 1 else 3)else 2:=by unfold qt;rw[if_pos he]
 rw[ai,he];refine dr (Sl (k+3) e4 tK) rfl ?_;have aH:=Qf (oe slip l p l.length);have hlen:=Ei slip l p l.length;have aH:dI (lS (oe slip l p l.length)) (hy slip l p l.length):=aH;generalize hy slip l p l.length=L at *;generalize lS (oe slip l p l.length)=x at *;refine dr (aeO (k+2) aH (by omega) n) rfl ?_;refine kg rfl ?_;refine cK rfl (λU=>?_) (λU=>?_)
 ·rw[if_neg (by simpa using U)];exact wp_ret rfl rfl rfl
 rw[if_pos (by simpa using U)];refine ib rfl (by assumption) ?_;refine sM rfl rfl ?_;refine cK rfl (λab=>?_) (λab=>?_)
 ·rw[if_pos (by omega)];exact wp_ret rfl rfl rfl
 rw[if_neg (by omega)];exact wp_ret rfl rfl rfl
theorem aeK(k:Nat){slip n:Int}{b3:aa}{l:List aX}(h:iq b3 l){p:a7}(ae:lk p):dT (k+5) 28 [.agg [ax slip,b3],ax n,.agg p.cells] λv=>v=.bD [ax (qt slip l n p),ax (gn slip l [n] [p])]:=by
 refine gj (t:=t28) (by kernel_rfl) (fn:=Tryz.f28) (by kernel_rfl) (by simp[dd,flagsOf,h.plain,a7.cells,ae.c5.plain]) ?_;refine eU (by simp only[ag,aD,aM,aS.aP,aR.aP,cF,nth,cM,List.getD_cons_succ,List.getD_cons_zero,aX.cells,a7.cells];rfl) rfl ?_;refine eU (by simp only[ag,aD,aM,aS.aP,aR.aP,cF,nth,cM,List.getD_cons_succ,List.getD_cons_zero,aX.cells,a7.cells];rfl) rfl ?_;refine p5 (by simp only[ag,aD,aM,aS.aP,aR.aP,cF,nth,cM,List.getD_cons_succ,List.getD_cons_zero,aX.cells,a7.cells];rfl) rfl ?_;refine dr (SB k (slip:=slip) (x:=.sl none 1 0 1 [ax n]) (ns:=[n]) (y:=.sl none 5 0 1 p.cells) (ps:=[p]) h (.inr ⟨0,rfl⟩) (by simp) tb (by simpa using ae) (by simp)) rfl ?_;refine hJ rfl rfl ?_;refine cK rfl (λhe=>?_) (λhe=>?_)
 ·exact wp_ret (v:=.bD [ax 0,ax (gn slip l [n] [p])]) rfl rfl (by unfold qt;rw[if_neg he])
 replace he:=Decidable.not_not.1 he;obtain⟨e4,tK⟩:=Ek h ae he;have fI:=e4.fI;have ai:qt slip l n p=if n∈hy slip l p l.length then(if(hy slip l p l.length).length=1 then 1 else 3)else 2:=by unfold qt;rw[if_pos he]
 rw[ai,he];refine dr (SA k e4 tK) rfl ?_;have aH:=rh (hy slip l p l.length);have hlen:=Ei slip l p l.length;generalize hy slip l p l.length=L at *;generalize m9 L=x at *;refine dr (aeP (k+3) aH (by omega) n) rfl ?_;refine kg rfl ?_;refine cK rfl (λU=>?_) (λU=>?_)
 ·rw[if_neg (by simpa using U)];exact wp_ret rfl rfl rfl
 rw[if_pos (by simpa using U)];refine ib rfl (by assumption) ?_;refine sM rfl rfl ?_;refine cK rfl (λab=>?_) (λab=>?_)
 ·rw[if_pos (by omega)];exact wp_ret rfl rfl rfl
 rw[if_neg (by omega)];exact wp_ret rfl rfl rfl
end
end Go.Proofs.YtlminnpaeaganaaGreat
