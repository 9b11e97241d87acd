/- Part of the proof of RuleCover. No condition. -/
import Derived.Test.YtlminnpaeaganaaGreatMCoverAX
import Derived.Test.YtlminnpaeaganaaGreatMCoverAY
import Derived.Test.YtlminnpaeaganaaGreatMCoverAZ
namespace Go.Proofs.YtlminnpaeaganaaGreat
set_option maxRecDepth 100000
set_option linter.all false
section
open Go Go.RowKit
section
variable{C:b2->FuncId->List aa->Option aa}{n:Nat}{R:Out->Prop}{d:Nat}{st:List aa}{t:Tree}
theorem Y9{T:TypeId}{x y:aS}{a:Int}{g:Nat}(aj:x.aP d st=ax a)(aF:y.aP d st=ax g)(k:b6 C n t (d+1) (ax (a.fdiv (2^min g 64))::st) R):b6 C n (.av (.bin .shr T x y) t) d st R:=wp _ (by simp[Prim.fZ,aj,aF,eB,IntKind.bits]) k
theorem agb{T:TypeId}{x y:aS}{a:Int}{g:Nat}(aj:x.aP d st=ax a)(aF:y.aP d st=ax g)(k:b6 C n t (d+1) (ax (IntKind.i64.wrap (a*2^min g 64))::st) R):b6 C n (.av (.bin .shl T x y) t) d st R:=wp _ (by simp[Prim.fZ,aj,aF,eB,IntKind.bits]) k
theorem Za{T:TypeId}{x y:aS}{a b:Int}(aj:x.aP d st=ax a)(aF:y.aP d st=ax b)(k:b6 C n t (d+1) (ax (bits .and .i64 a b)::st) R):b6 C n (.av (.bin .and T x y) t) d st R:=wp _ (by simp[Prim.fZ,aj,aF,eB]) k
end
theorem Tv:∀l:List a7,(uM l).length=l.length*5
 |[]=>rfl
 |a::l=>by
  have:(uM (a::l)).length=5+(uM l).length:=by simp only[uM,List.flatMap_cons,List.length_append];rfl
  rw[this,Tv l,List.length_cons];omega
def Uq(ps:List a7):aa:=match ps with
 |[]=>.bC
 |a::l=>.sl none 5 0 (l.length+1) (uM (a::l))
theorem amW(ps:List a7):ov (Uq ps) ps:=by
 cases ps with
 |nil=>exact .inl ⟨rfl,rfl⟩
 |cons a l=>exact .inr ⟨0,rfl⟩
section
variable{C:b2->FuncId->List aa->Option aa}{n:Nat}{R:Out->Prop}{d:Nat}{st:List aa}{t:Tree}
theorem ae5{c:aR}{y:aS}{ps:List a7}{p:a7}(ah:c.aP d st=.agg (uM ps))(aF:y.aP d st=.sl none 5 0 1 p.cells)(ak:ps.length<1000)(k:b6 C n t (d+1) (.agg (uM (ps++[p]))::st) R):b6 C n (.av (.push 5 56 c y) t) d st R:=wp _ (by
 have e:=Tv ps;have aO:uM (ps++[p])=uM ps++p.cells:=by simp[uM]
 rw[aO];simp only[Prim.fZ,ah,aF,uW,wO];rw[if_pos (.inl trivial)];dsimp only;rw[e,if_pos ⟨rfl,by omega,by omega⟩]) k
theorem agc{c:aR}{ps:List a7}(ah:c.aP d st=.agg (uM ps))(k:b6 C n t (d+1) (Uq ps::st) R):b6 C n (.av (.bK 5 .cZ c) t) d st R:=wp _ (by
 cases ps with
 |nil=>simp only[Prim.fZ,ah];rfl
 |cons a l=>
  have e:=Tv (a::l);obtain⟨q,Q,aO⟩:∃q Q,uM (a::l)=q::Q:=⟨_,_,rfl⟩;simp only[Uq];rw[aO]at e ah⊢;simp only[Prim.fZ,ah,iU,isNil,e,List.length_cons,Nat.mul_div_cancel _ (show 0<5 by decide)]) k
end
theorem aaw:∀s:Nat,s<16->∀g:Nat,g<4->decide (bits .and .i64 (Int.fdiv (s:Int) (2^min g 64)) 1=1)=s.testBit g:=of_decide_eq_true (by kernel_rfl)
theorem aio:∀n:Nat,n<5->IntKind.i64.wrap (1*2^min n 64)=((2^n:Nat):Int)/\2^n<=16:=of_decide_eq_true (by kernel_rfl)
theorem aiv:∀n:Nat,n<5->∀s:Nat,s<2^n->pR s n=D1 s:=of_decide_eq_true (by kernel_rfl)
theorem ana(k:Nat){s g:Nat}(ao:s<16)(aN:g<4):dT (k+1) 71 [ax g,uc [ax s]] λv=>v=.bool (s.testBit g):=by
 refine gj (t:=t71) (by kernel_rfl) (fn:=Tryz.f71) (by kernel_rfl) rfl ?_;refine wp (.agg [ax s]) (by simp[Prim.fZ,A5,uc,ag,aS.aP,aR.aP,nth,dz]) ?_;refine Y9 rfl rfl ?_;refine Za (b:=1) rfl rfl ?_;refine sM rfl rfl ?_;rw[aaw s ao g aN];exact wp_ret rfl rfl rfl
theorem agd:∀s:Nat,s<32->∀g:Nat,g<5->decide ((g:Int)∈D1 s)=s.testBit g:=of_decide_eq_true (by kernel_rfl)
theorem amX{l:List a7}{i:Nat}(h:i<l.length):l.take (i+1)=l.take i++[l.getD i default]:=by
 rw[List.take_add_one];simp[List.getD_eq_getElem?_getD,h]
theorem anb(M:List Nat)(s:Nat){q:Nat}(h:q<M.length):(M.take (q+1)).any s.testBit=((M.take q).any s.testBit||s.testBit (M.getD q 0)):=by
 rw[takeN h,List.any_append];simp
theorem anc(ps:List a7)(B:a7->Bool){q:Nat}(h:q<ps.length):(ps.take (q+1)).all B=((ps.take q).all B&&B (ps.getD q default)):=by
 rw[amX h,List.all_append];simp
def Ei(M:List Nat):List Int:=M.map λ(i:Nat)=>(i:Int)
theorem aax{M:List Nat}{i:Nat}(h:i<M.length):(Ei M).getD i 0=(M.getD i 0:Nat):=by simp[Ei,List.getD_eq_getElem?_getD,h]
theorem amY(k:Nat){x:aa}{M:List Nat}(aj:dI x (Ei M))(e3:∀m∈M,m<4)(ak:M.length<4000){s:Nat}(ao:s<16):dT (k+2) 109 [x,.fn 71 [uc [ax s]]] λv=>∃i:Int,v=ax i/\(0<=i↔M.any s.testBit=true):=by
 have n9:(Ei M).length=M.length:=by simp[Ei]
 refine gj (t:=t109) (by kernel_rfl) (fn:=Tryz.f109) (by kernel_rfl) (by simp[dd,flagsOf,aj.plain,uc]) ?_;refine ib rfl aj ?_;rw[n9];refine ez (λaf=>af=[]/\M.any s.testBit=false) ?_ ?_
 ·refine wp_loop (λj af=>∃i:Nat,af=[ax i]/\i+j=M.length/\∀k,k<i->s.testBit (M.getD k 0)=false) M.length (by omega) ⟨0,rfl,by omega,λk aq=>by omega⟩ ?_;rintro j af ⟨i,rfl,hi,hb⟩;refine hZ rfl rfl ?_;refine cK rfl (λU=>?_) (λU=>?_)
  ·have aU:i<M.length:=by omega
   have du:=tc aj (show i<(Ei M).length by omega);rw[aax aU]at du;have hm:=SF aU;have ahk:=e3 _ hm;have dB:s.testBit (M.getD i 0)=false->∀k,k<i+1->s.testBit (M.getD k 0)=false:=λh k aq=>by
    by_cases e:k=i
    ·subst e;exact h
    ·exact hb k (by omega)
   generalize M.getD i 0=a at du hm ahk dB;refine wp _ du ?_;refine XL (g:=71) (caps:=[uc [ax s]]) rfl (ana k ao ahk) rfl ?_;refine wq rfl (λab=>?_) (λab=>?_)
   ·refine gK ?_;refine gK ?_;exact wp_ret (v:=ax i) rfl rfl ⟨i,rfl,by simp only[Int.natCast_nonneg,true_iff,List.any_eq_true];exact⟨a,hm,ab⟩⟩
   ·refine ie rfl rfl (by omega) ?_;exact cw ⟨j-1,by omega,i+1,rfl,by omega,dB ab⟩
  ·refine ia (by decide) ?_;refine cw ⟨rfl,List.any_eq_false.2 λm hm=>?_⟩;obtain⟨k,aq,e⟩:=List.getElem_of_mem hm;have:=hb k (by omega);simp only[List.getD_eq_getElem?_getD,List.getElem?_eq_getElem aq,Option.getD_some,e]at this;simp[this]
 rintro af ⟨rfl,aI⟩;exact wp_ret (v:=ax (-1)) (Q:=λv=>∃i:Int,v=ax i/\(0<=i↔M.any s.testBit=true)) rfl rfl ⟨-1,rfl,by simp[aI]⟩
theorem ane(k:Nat){x:aa}{M:List Nat}(aj:dI x (Ei M))(e3:∀m∈M,m<4)(ak:M.length<4000){s:Nat}(ao:s<16):dT (k+3) 70 [x,.fn 71 [uc [ax s]]] λv=>v=.bool (M.any s.testBit):=by
 refine gj (t:=t70) (by kernel_rfl) (fn:=Tryz.f70) (by kernel_rfl) (by simp[dd,flagsOf,aj.plain,uc]) ?_;refine nN (amY k aj e3 ak ao) rfl ?_;rintro v ⟨i,rfl,hi⟩;refine Jl rfl rfl ?_;have e:decide (0<=i)=M.any s.testBit:=by
  by_cases h:M.any s.testBit=true
  ·rw[h,decide_eq_true (hi.2 h)]
  ·rw[Bool.not_eq_true]at h;rw[h,decide_eq_false λbc=>by rw[hi.1 bc]at h;cases h]
 rw[e];exact wp_ret rfl rfl rfl
def GC(slip:Int)(l:List aX)(s:Nat)(p:a7):Bool:=(oe slip l p l.length).any s.testBit
def Il(slip:Int)(l:List aX)(ps:List a7)(s:Nat):Bool:=ps.all (GC slip l s)
theorem aaF{slip:Int}{l:List aX}{p:a7}{m:Nat}(h:m∈oe slip l p l.length):m<l.length:=List.mem_range.1 (List.mem_filter.1 h).1
theorem aay{slip:Int}{l:List aX}{p:a7}:(oe slip l p l.length).length<=l.length:=by
 have:=List.length_filter_le (λi=>kn slip (l.getD i default) p) (List.range l.length);simpa[oe]using this
theorem aiw{slip:Int}{l:List aX}{ps:List a7}{s:Nat}(h:∀k,k<ps.length->GC slip l s (ps.getD k default)=true):Il slip l ps s=true:=by
 refine List.all_eq_true.2 λp ae=>?_;obtain⟨k,aq,e⟩:=List.getElem_of_mem ae;have:=h k aq;simpa only[List.getD_eq_getElem?_getD,List.getElem?_eq_getElem aq,Option.getD_some,e]using this
theorem ags{slip:Int}{l:List aX}{ps:List a7}{s k:Nat}(aq:k<ps.length)(h:GC slip l s (ps.getD k default)=false):Il slip l ps s=false:=by
 refine Bool.eq_false_iff.2 λah=>?_;have:=List.all_eq_true.1 ah (ps.getD k default) (by simp[List.getD_eq_getElem?_getD,aq]);rw[h]at this;cases this
def JO(slip:Int)(l:List aX)(ps:List a7):Option Nat:=(allM l.length).find? (Il slip l ps)
def Kh(slip:Int)(l:List aX)(ps:List a7):aa:=if jA slip l≠0 then .bD [.bC,ax (jA slip l)]else if 5<ps.length then .bD [.bC,ax 6]else if gn slip l [] ps≠0 then .bD [.bC,ax (gn slip l [] ps)]else SG (JO slip l ps)
theorem ae6{ps:List a7}{i:Nat}(h:i<ps.length):ps.getD i default∈ps:=by simp[List.getD_eq_getElem?_getD,h]
theorem anf(k:Nat){slip:Int}{b3 x:aa}{l:List aX}{ps:List a7}(h:iq b3 l)(aF:ov x ps)(ae:∀p∈ps,lk p):dT (k+7) 32 [.agg [ax slip,b3],x] λv=>v=Kh slip l ps:=by
 refine gj (t:=t32) (by kernel_rfl) (fn:=Tryz.f32) (by kernel_rfl) (by simp[dd,flagsOf,h.plain,aF.plain λp hm=>(ae p hm).c5]) ?_;refine eU (by simp only[ag,aD,aM,aS.aP,aR.aP,cF,nth,cM,List.getD_cons_succ,List.getD_cons_zero,aX.cells,a7.cells];rfl) rfl ?_;refine dr (aeZ (k+3) h) rfl ?_;refine hJ rfl rfl ?_;refine cK rfl (λhe=>?_) (λhe=>?_)
 ·refine wp_ret (v:=.bD [.bC,ax (jA slip l)]) rfl rfl ?_;unfold Kh;rw[if_pos he]
 refine wj rfl aF ?_;refine pf rfl rfl ?_;refine cK rfl (λbm=>?_) (λbm=>?_)
 ·refine wp_ret (v:=.bD [.bC,ax 6]) rfl rfl ?_;unfold Kh;rw[if_neg he,if_pos (by omega)]
 refine nN (Sz (k+2) (slip:=slip) (x:=.bC) (ns:=[]) (y:=x) (ps:=ps) h EY (by simp) aF ae (by omega)) rfl ?_;rintro v ⟨a,b,rfl,bL,cD⟩;refine pe (by simp only[ag,aD,aM,aS.aP,aR.aP,cF,nth,cM,List.getD_cons_succ,List.getD_cons_zero,aX.cells,a7.cells,ll];rfl) ?_;refine pe (by simp only[ag,aD,aM,aS.aP,aR.aP,cF,nth,cM,List.getD_cons_succ,List.getD_cons_zero,aX.cells,a7.cells,ll];rfl) ?_;refine eU (by simp only[ag,aD,aM,aS.aP,aR.aP,cF,nth,cM,List.getD_cons_succ,List.getD_cons_zero,aX.cells,a7.cells];rfl) rfl ?_;refine hJ rfl rfl ?_;refine cK rfl (λamt=>?_) (λamt=>?_)
 ·refine wp_ret (v:=.bD [.bC,ax (gn slip l [] ps)]) rfl rfl ?_;unfold Kh;rw[if_neg he,if_neg (by omega),if_pos amt]
 have KW:Kh slip l ps=SG (JO slip l ps):=by unfold Kh;rw[if_neg he,if_neg (by omega),if_neg amt]
 rw[KW];replace amt:=Decidable.not_not.1 amt;obtain⟨rfl,rfl⟩:=bL amt;obtain⟨g1,_,bZ⟩:=adI amt;have e4:=aeL h g1;have fU:∀p∈ps,p.ok:=λp hm=>aeM (ae p hm).c5 (Rt bZ p hm);have fI:=e4.fI;have fY:=e4.fY;unfold JO;rw[ae7 (by omega)];obtain⟨ann,Uf⟩:=aio l.length (by omega);have aco:=aiv l.length (by omega);refine k9 rfl e4.gS ?_;refine agb (a:=1) rfl rfl ?_;rw[ann];have adJ:=λs=>aiw (slip:=slip) (l:=l) (ps:=ps) (s:=s);have aic:=λs k=>ags (slip:=slip) (l:=l) (ps:=ps) (s:=s) (k:=k);generalize Il slip l ps=A at adJ aic;generalize gq:2^l.length=N at Uf aco;refine ez (λaf=>af=[.agg (((List.range N).filter A).map G)]) ?_ ?_
 ·refine wp_loop (λj af=>∃s:Nat,af=[ax s,.agg (((List.range s).filter A).map G)]/\s+j=N) N (by omega) ⟨0,rfl,by omega⟩ ?_;rintro j af ⟨s,rfl,ao⟩;refine hZ rfl rfl ?_;refine cK rfl (λU=>?_) (λU=>?_)
  ·have ak:((List.range s).filter A).length<=s:=by have:=List.length_filter_le A (List.range s);simpa using this
   have vL:=(Hi s).plain.2;have UG:=aeI A s;refine p5 (v:=ax s) rfl rfl ?_;refine wj rfl aF ?_;refine ez (λaf=>af=[]/\A s=true) ?_ ?_
   ·refine wp_loop (λj af=>∃i:Nat,af=[ax i]/\i+j=ps.length/\∀k,k<i->GC slip l s (ps.getD k default)=true) ps.length (by omega) ⟨0,rfl,by omega,λk aq=>by omega⟩ ?_;rintro LK af ⟨i,rfl,hi,hb⟩;refine hZ rfl rfl ?_;refine cK rfl (λab=>?_) (λab=>?_)
    ·have aU:i<ps.length:=by omega
     have du:=BA aF aU;have tK:=fU _ (ae6 aU);have dB:GC slip l s (ps.getD i default)=true->∀k,k<i+1->GC slip l s (ps.getD k default)=true:=λh k aq=>by
      by_cases e:k=i
      ·subst e;exact h
      ·exact hb k (by omega)
     have aQ:=aic s i aU;generalize ps.getD i default=p at du tK dB aQ;refine wp _ du ?_;refine dr (Sl (k+5) e4 tK) rfl ?_;refine dr (ane (k+3) (x:=lS (oe slip l p l.length)) (M:=oe slip l p l.length) (Qf _) (λm hm=>by have:=aaF hm;omega) (by have:=aay (slip:=slip) (l:=l) (p:=p);omega) (s:=s) (by omega)) rfl ?_;refine wI rfl ?_;refine wq rfl (λal=>?_) (λal=>?_)
     ·have e:A s=false:=aQ (by simpa[GC]using al);rw[e,if_neg (by simp),List.append_nil]at UG;refine ie rfl rfl (by omega) ?_;refine ia (by decide) ?_;refine ia (by decide) ?_;refine cw ⟨j-1,by omega,s+1,?_,by omega⟩;rw[UG];rfl
     ·refine ie rfl rfl (by omega) ?_;exact cw ⟨LK-1,by omega,i+1,rfl,by omega,dB (by simpa[GC]using al)⟩
    ·refine ia (by decide) ?_;have e:i=ps.length:=by omega
     subst e;exact cw ⟨rfl,adJ s hb⟩
   rintro af ⟨rfl,aW⟩;rw[aW,if_pos rfl]at UG;refine k9 rfl e4.gS ?_;refine ez (λaf=>af=[.agg ((D1 s).map ax)]) ?_ ?_
   ·refine wp_loop (λj af=>∃i:Nat,af=[.agg ((pR s i).map ax),ax i]/\i+j=l.length) l.length (by omega) ⟨0,rfl,by omega⟩ ?_;rintro LK af ⟨i,rfl,hi⟩;refine hZ rfl rfl ?_;refine cK rfl (λab=>?_) (λab=>?_)
    ·have aiW:=Tw s i;refine Y9 rfl rfl ?_;refine Za (b:=1) rfl rfl ?_;refine sM rfl rfl ?_;rw[aaw s (by omega) i (by omega)];refine ez (λaf=>af=[.agg ((pR s (i+1)).map ax)]) ?_ ?_
     ·simp only[pR];refine wq rfl (λal=>?_) (λal=>?_)
      ·rw[if_pos al];refine p5 (by simp only[ag,aD,aM,aS.aP,aR.aP,cF,nth,cM,List.getD_cons_succ,List.getD_cons_zero,aX.cells,a7.cells];rfl) rfl ?_;refine Pk rfl rfl (by decide) (by first|omega|(simp;omega)) ?_;exact cw rfl
      ·rw[if_neg (by simp[al]),List.append_nil];exact cw rfl
     rintro af rfl;refine ie rfl rfl (by omega) ?_;exact cw ⟨LK-1,by omega,i+1,rfl,by omega⟩
    ·refine ia (by decide) ?_;have e:i=l.length:=by omega
     subst e;rw[aco s (by omega)];exact cw rfl
   rintro af rfl;refine Qv rfl ?_;refine ae8 rfl rfl (by omega) ?_;refine ie rfl rfl (by omega) ?_;refine cw ⟨j-1,by omega,s+1,?_,by omega⟩;rw[UG];rfl
  ·refine ia (by decide) ?_;have e:s=N:=by omega
   subst e;exact cw rfl
 rintro af rfl;refine agu rfl ?_;have Ca:∀s∈(List.range N).filter A,s<32:=λs ao=>by have:=List.mem_range.1 (List.mem_filter.1 ao).1;omega
 have SA:((List.range N).filter A).length<=32:=by have:=List.length_filter_le A (List.range N);simp at this;omega
 generalize(List.range N).filter A=ms at Ca SA;refine dr (ang k (amZ ms) SA Ca) rfl ?_;unfold Qz;by_cases bU:ms=[]
 ·rw[if_pos bU,if_pos bU];refine pe (by simp only[ag,aD,aM,aS.aP,aR.aP,cF,nth,cM,List.getD_cons_succ,List.getD_cons_zero,aX.cells,a7.cells,ll];rfl) ?_;refine pe (by simp only[ag,aD,aM,aS.aP,aR.aP,cF,nth,cM,List.getD_cons_succ,List.getD_cons_zero,aX.cells,a7.cells,ll];rfl) ?_;refine wI rfl ?_;refine El rfl ?_;exact wp_ret rfl rfl rfl
 ·rw[if_neg bU,if_neg bU];refine pe (by simp only[ag,aD,aM,aS.aP,aR.aP,cF,nth,cM,List.getD_cons_succ,List.getD_cons_zero,aX.cells,a7.cells,ll];rfl) ?_;refine pe (by simp only[ag,aD,aM,aS.aP,aR.aP,cF,nth,cM,List.getD_cons_succ,List.getD_cons_zero,aX.cells,a7.cells,ll];rfl) ?_;refine wI rfl ?_;refine qV rfl ?_;exact wp_ret (v:=.bD [G (zH ms),ax 0]) rfl (by simp[(Hi _).plain]) rfl
end
section
open Go Go.RowKit
theorem am7{slip:Int}{b3:aa}{l:List aX}{ns:List Int}{p:a7}(h:Hand slip b3 l)(ae:p.ok)(aI:∀n∈ns,0<=n/\n<(l.length:Int))(ak:ns.length<4000):gn slip l ns [p]=0:=by
 have U:=Sz 0 (slip:=slip) (ns:=ns) (ps:=[p]) h.raw (rh ns) ak (tb (p:=p)) (by simpa using ae.raw) (by simp);have ab:=ans 0 h (rh ns) aI ak (ps:=[p]) (by simpa using ae) (by simp);rw[show aa.sl none 5 0 [p].length (uM [p])=.sl none 5 0 1 p.cells by simp[uM]]at ab;have key:∀{g:FuncId}{args:List aa}{Q:aa->Prop}{u:aa},dT 4 g args Q->dT 4 g args (λv=>v=u)->Q u:=λ{g args Q u} a b=>by
  obtain⟨v,ai,aH⟩:=a gP;obtain⟨w,hw,e⟩:=b gP;rw[ai]at hw;injection hw with hw;rw[←e,←hw];exact aH
 obtain⟨a,b,e,_⟩:=key U ab;simp only[aa.bD.injEq,List.cons.injEq,aa.int.injEq]at e;exact e.2.1.2.symm
theorem am3(k:Nat){slip:Int}{b3:aa}{l:List aX}(h:Hand slip b3 l){p:a7}(ae:p.ok):dT (k+5) 15 [.agg [ax slip,b3],.agg p.cells] λv=>∃y,v=.bD [y,ax 0]/\dI y (hy slip l p l.length):=by
 have e:=am7 (ns:=[]) h ae (by simp) (by simp);refine(adH k (slip:=slip) h.raw ae.raw).mono λv ⟨y,U,ab⟩=>⟨y,by rw[U,e],?_⟩;unfold qs at ab;rwa[if_pos e]at ab
def am1(slip:Int)(l:List aX)(n:Nat)(p:a7):Int:=if kn slip (l.getD n default) p then(if(hy slip l p l.length).length=1 then 1 else 3)else 2
end
section
open Go Go.RowKit
theorem anh:∀n:Nat,n<=4->∀m:Nat,m<=n->dT 19 34 [ax n,ax m] λv=>v=.sl none 1 0 (bM n m).length ((bM n m).map G)
 |0,_,0,_=>λω=>⟨.sl none 1 0 (bM 0 0).length ((bM 0 0).map G),by kernel_rfl,rfl⟩
 |1,_,0,_=>λω=>⟨.sl none 1 0 (bM 1 0).length ((bM 1 0).map G),by kernel_rfl,rfl⟩
 |1,_,1,_=>λω=>⟨.sl none 1 0 (bM 1 1).length ((bM 1 1).map G),by kernel_rfl,rfl⟩
 |2,_,0,_=>λω=>⟨.sl none 1 0 (bM 2 0).length ((bM 2 0).map G),by kernel_rfl,rfl⟩
 |2,_,1,_=>λω=>⟨.sl none 1 0 (bM 2 1).length ((bM 2 1).map G),by kernel_rfl,rfl⟩
 |2,_,2,_=>λω=>⟨.sl none 1 0 (bM 2 2).length ((bM 2 2).map G),by kernel_rfl,rfl⟩
 |3,_,0,_=>λω=>⟨.sl none 1 0 (bM 3 0).length ((bM 3 0).map G),by kernel_rfl,rfl⟩
 |3,_,1,_=>λω=>⟨.sl none 1 0 (bM 3 1).length ((bM 3 1).map G),by kernel_rfl,rfl⟩
 |3,_,2,_=>λω=>⟨.sl none 1 0 (bM 3 2).length ((bM 3 2).map G),by kernel_rfl,rfl⟩
 |3,_,3,_=>λω=>⟨.sl none 1 0 (bM 3 3).length ((bM 3 3).map G),by kernel_rfl,rfl⟩
 |4,_,0,_=>λω=>⟨.sl none 1 0 (bM 4 0).length ((bM 4 0).map G),by kernel_rfl,rfl⟩
 |4,_,1,_=>λω=>⟨.sl none 1 0 (bM 4 1).length ((bM 4 1).map G),by kernel_rfl,rfl⟩
 |4,_,2,_=>λω=>⟨.sl none 1 0 (bM 4 2).length ((bM 4 2).map G),by kernel_rfl,rfl⟩
 |4,_,3,_=>λω=>⟨.sl none 1 0 (bM 4 3).length ((bM 4 3).map G),by kernel_rfl,rfl⟩
 |4,_,4,_=>λω=>⟨.sl none 1 0 (bM 4 4).length ((bM 4 4).map G),by kernel_rfl,rfl⟩
 |n+5,h,_,_=>by omega
def Pm(ys:List aa)(B:List (List Nat)):Prop:=ys.length=B.length/\∀k,k<B.length->dI (ys.getD k .bC) (Ei (B.getD k []))
theorem agw{ys:List aa}{B:List (List Nat)}{y:aa}{K:List Nat}(h:Pm ys B)(aF:dI y (Ei K)):Pm (ys++[y]) (B++[K]):=by
 refine⟨by simp[h.1],λk aq=>?_⟩;by_cases e:k<B.length
 ·have:=h.2 k e;have aO:k<ys.length:=by rw[h.1];exact e
  simpa[List.getD_eq_getElem?_getD,List.getElem?_append_left,e,aO]using this
 ·have aK:k=B.length:=by simp at aq;omega
  subst aK;have aO:B.length=ys.length:=h.1.symm;simp only[List.getD_eq_getElem?_getD,List.getElem?_concat_length,Option.getD_some];rw[aO,List.getElem?_concat_length,Option.getD_some];exact aF
theorem aix{ys:List aa}{B:List (List Nat)}(h:Pm ys B){k:Nat}(aq:k<B.length):∃y,ys[k]?=some y/\dI y (Ei (B.getD k [])):=by
 have e:k<ys.length:=by rw[h.1];exact aq
 refine⟨ys[k],by simp[e],?_⟩;have:=h.2 k aq;simpa[List.getD_eq_getElem?_getD,e]using this
section
variable{C:b2->FuncId->List aa->Option aa}{n:Nat}{R:Out->Prop}{d:Nat}{st:List aa}{t:Tree}
theorem ae9{c:aR}{y:aS}{ys:List aa}{v:aa}(ah:c.aP d st=.agg ys)(aF:y.aP d st=.sl none 1 0 1 [v])(ak:ys.length<1000)(k:b6 C n t (d+1) (.agg (ys++[v])::st) R):b6 C n (.av (.push 1 24 c y) t) d st R:=wp _ (by
 simp[Prim.fZ,ah,aF];omega) k
theorem aaz{c:aR}{i:aS}{ys:List aa}{m:Nat}(ah:c.aP d st=.agg ys)(hi:i.aP d st=ax m)(hm:m<ys.length)(k:b6 C n t (d+1) (ax m::st) R):b6 C n (.av (.kX 1 c i) t) d st R:=wp _ (by simp[Prim.fZ,ah,hi];omega) k
theorem aaA{c i:aR}{ys:List aa}{m:Nat}{y:aa}(ah:c.aP d st=.agg ys)(hi:i.aP d st=ax m)(aF:ys[m]?=some y)(k:b6 C n t (d+1) (.agg [y]::st) R):b6 C n (.av (.get 1 0 1 c i) t) d st R:=wp _ (by
 obtain⟨U,ab⟩:=List.getElem?_eq_some_iff.1 aF;have e:(ys.drop (m*1+0)).take 1=[y]:=by rw[Nat.mul_one,Nat.add_zero,List.drop_eq_getElem_cons U,ab];rfl
 simp only[Prim.fZ,ah,hi,zk,Int.toNat_natCast,e];rfl) k
end
theorem Y5{slip:Int}{b3:aa}{l:List aX}(h:Hand slip b3 l):jA slip l=0:=by
 unfold jA;have:=h.fY;have:=h.fI;have:=h.cc;have:=h.s1;rw[if_pos (by omega),if_neg (by omega),if_neg (by omega)];exact Ij λm hm=>by
  have ar:=h.get hm;generalize l.getD m default=r at ar;unfold gF;have:=ar.fI;have:=ar.ei;have:=ar.hn;have:=ar.k5;have:=ar.w1;have:=ar.w2;rw[if_neg (by omega),if_neg (by omega),if_pos (show p6 r.st 2 20 from ar.st),if_pos (by omega)]
theorem af4{p:a7}(ae:p.ok):hj p=0:=by
 unfold hj;have:=ae.ud;have:=ae.j7;have:=ae.d0;have:=ae.d1;have:=ae.c9;have:=ae.w1;have:=ae.pR;rw[if_neg (by omega),if_pos (show p6 p.g 1 30 from ae.gs),if_pos (by omega)]
theorem Y1:∀{ps:List a7},(∀p∈ps,p.ok)->pI ps=0
 |[],_=>rfl
 |p::ps,h=>by
  have ab:=Y1 (ps:=ps) λq aH=>h q (by simp[aH]);simp[pI,af4 (h p (by simp)),ab]
theorem aiy{slip:Int}{b3:aa}{l:List aX}(h:Hand slip b3 l){ps:List a7}(ae:∀p∈ps,p.ok)(ak:ps.length<=5):Kh slip l ps=SG (JO slip l ps):=by
 have e:gn slip l [] ps=0:=by
  unfold gn;rw[if_neg (by simpa using Y5 h),if_pos (show p6 [] 0 (l.length-1)from λx aj=>by cases aj),Y1 ae]
 unfold Kh;rw[if_neg (by simpa using Y5 h),if_neg (by omega),if_neg (by simpa using e)]
theorem ai9(o:Option Nat):∃y e L,SG o=.bD [y,ax e]/\dI y L/\(e=0\/e=11)/\(∀s,o=some s->e=0/\L=D1 s)/\(o=none->e=11/\L=[]):=by
 cases o with
 |some s=>exact⟨G s,0,D1 s,rfl,Hi s,.inl rfl,⟨λs' h=>by injection h with h;subst h;exact⟨rfl,rfl⟩,λh=>by cases h⟩⟩
 |none=>exact⟨.bC,11,[],rfl,EY,.inr rfl,(λs' h=>(by cases h)),λ_=>⟨rfl,rfl⟩⟩
theorem ano{q:aa}(tG:wY q=true)(xI:q.plain=true):dT 20 7 [q] λv=>v=.bool true:=by
 refine gj (t:=t7) (by kernel_rfl) (fn:=Tryz.f7) (by kernel_rfl) (by simp[dd,flagsOf,xI]) ?_;refine wp q (by simp[Prim.fZ,dz,ag,aS.aP,aR.aP,nth,EX,tG]) ?_;refine nN (agi 14 4 (by omega) (by omega)) rfl ?_;rintro v ⟨slip,b3,l,rfl,cc,vM,F4,gk,bQ,fU⟩;have e4:Hand slip b3 l:=⟨cc,vM,F4,gk,by omega,fU⟩;refine eU (by simp only[ag,aD,aM,aS.aP,aR.aP,cF,nth,cM,List.getD_cons_succ,List.getD_cons_zero,aX.cells,a7.cells];rfl) rfl ?_;refine nN (m8 17 4 (by omega) (by omega)) rfl ?_;rintro v ⟨U4,rfl,nf,Li⟩;obtain⟨n,rfl⟩:=Int.eq_ofNat_of_zero_le nf;refine ez (λaf=>∃ps ys,af=[.agg (uM ps),.agg ys]/\ps.length<=4/\(∀p∈ps,p.ok)/\Pm ys (ps.map λp=>oe slip l p l.length)) ?_ ?_
 ·refine wp_loop (λj af=>∃(ps:List a7)(ys:List aa)(i:Nat),af=[.agg (uM ps),.agg ys,ax i]/\i=j/\ps.length+i<=4/\(∀p∈ps,p.ok)/\Pm ys (ps.map λp=>oe slip l p l.length)) n (by omega) ⟨[],[],n,rfl,rfl,by simp only[List.length_nil];omega,by simp,rfl,λk aq=>by simp at aq⟩ ?_;rintro j af ⟨ps,ys,i,rfl,rfl,cD,tK,tw⟩;have ahj:ys.length=ps.length:=by have:=tw.1;simpa using this
  refine pf rfl rfl ?_;refine cK rfl (λU=>?_) (λU=>?_)
  ·refine nN (af9 13 e4) rfl ?_;rintro v ⟨p,rfl,ae⟩;refine eU (cs:=[p.k6,ax p.up,ax p.aP,ax p.wd,.bool p.fr]) rfl rfl ?_;refine nN (am3 14 e4 ae) rfl ?_;rintro v ⟨y,rfl,aF⟩;refine pe (by simp only[ag,aD,aM,aS.aP,aR.aP,cF,nth,cM,List.getD_cons_succ,List.getD_cons_zero,aX.cells,a7.cells,ll];rfl) ?_;refine pe (by simp only[ag,aD,aM,aS.aP,aR.aP,cF,nth,cM,List.getD_cons_succ,List.getD_cons_zero,aX.cells,a7.cells,ll];rfl) ?_;refine hJ rfl rfl ?_;refine pW rfl (by omega) ?_;refine ae5 (p:=p) rfl rfl (by omega) ?_;refine p5 (v:=y) rfl aF.plain.2 ?_;refine ae9 (v:=y) rfl rfl (by omega) ?_;refine AT rfl rfl (by omega) ?_;refine cw ⟨i-1,by omega,ps++[p],ys++[y],i-1,rfl,rfl,by simp;omega,λr ad=>?_,?_⟩
   ·rcases List.mem_append.1 ad with ad|ad
    ·exact tK r ad
    ·simp only[List.mem_singleton]at ad;rw[ad];exact ae
   ·rw[List.map_append];exact agw tw aF
  ·refine ia (by decide) ?_;exact cw ⟨ps,ys,rfl,by omega,tK,tw⟩
 rintro af ⟨ps,ys,rfl,cD,tK,tw⟩;have ahj:ys.length=ps.length:=by have:=tw.1;simpa using this
 have fI:=e4.fI;refine agc rfl ?_;refine dr (anf 12 e4.raw (amW ps) (λp hm=>(tK p hm).raw)) rfl ?_;rw[aiy e4 tK (by omega)];obtain⟨y,e,L,hw,anp,he,oE,aaH⟩:=ai9 (JO slip l ps);rw[hw];have Pq:∀m k,m<=l.length->_->_->_->_->_:=λm k=>agx (n:=l.length) (m:=m) (i:=k) (A:=Il slip l ps);have dX:(∀t∈allM l.length,Il slip l ps t=false)->_:=Tr;rw[show(allM l.length).find? (Il slip l ps)=JO slip l ps from rfl]at dX;simp only[show(allM l.length).find? (Il slip l ps)=JO slip l ps from rfl]at Pq;have adK:∀s,Il slip l ps s=ps.all (GC slip l s):=λs=>rfl;generalize JO slip l ps=o at oE aaH Pq dX;generalize Il slip l ps=A at adK Pq dX;refine pe (by simp only[ag,aD,aM,aS.aP,aR.aP,cF,nth,cM,List.getD_cons_succ,List.getD_cons_zero,aX.cells,a7.cells,ll];rfl) ?_;refine pe (by simp only[ag,aD,aM,aS.aP,aR.aP,cF,nth,cM,List.getD_cons_succ,List.getD_cons_zero,aX.cells,a7.cells,ll];rfl) ?_;refine ez (λaf=>af=[]/\∀t∈allM l.length,A t=false) ?_ ?_
 ·refine wp_loop (λj af=>∃m:Nat,af=[ax m]/\m+j=l.length+1/\∀t∈(List.range m).flatMap (bM l.length),A t=false) (l.length+1) (by omega) ⟨0,rfl,by omega,λt a1=>by simp at a1⟩ ?_;rintro j af ⟨m,rfl,hm,zv⟩;try refine eK (by(try simp only[List.length_cons,List.length_nil,Nat.reduceAdd,Nat.zero_add]);rfl) (by(try simp only[dz]);rfl) ?_
  refine k9 rfl F4 ?_;refine A6 rfl rfl ?_;refine cK rfl (λU=>?_) (λU=>?_)
  ·have SH:m<=l.length:=by omega
   obtain⟨hA,oT⟩:=ag2 l.length (by omega) m (by omega);have aca:=λk=>Pq m k SH zv;refine k9 rfl F4 ?_;refine dr (anh l.length (by omega) m SH) rfl ?_;have Uy:IK (.sl none 1 0 (bM l.length m).length ((bM l.length m).map G)) (bM l.length m):=.inr ⟨0,rfl⟩;have aaI:∀t∈(List.range (m+1)).flatMap (bM l.length),t∈(List.range m).flatMap (bM l.length)\/t∈bM l.length m:=λt a1=>by
    rw[List.range_succ,List.flatMap_append]at a1;simpa using a1
   generalize bM l.length m=M at hA oT aca Uy aaI;refine ez (λaf=>af=[]/\∀t∈M,A t=false) ?_ ?_
   ·refine wp_loop (λj af=>∃i:Nat,af=[ax i]/\i+j=M.length/\∀t∈M.take i,A t=false) M.length (by omega) ⟨0,rfl,by omega,λt a1=>by simp at a1⟩ ?_;rintro LK af ⟨i,rfl,hi,BW⟩;try refine eK (by(try simp only[List.length_cons,List.length_nil,Nat.reduceAdd,Nat.zero_add]);rfl) (by(try simp only[dz]);rfl) ?_
    refine Qt rfl Uy ?_;refine hZ rfl rfl ?_;refine cK rfl (λab=>?_) (λab=>?_)
    ·have aU:i<M.length:=by omega
     have Vk:=Ur Uy aU;obtain⟨acb,hB,Ua⟩:=oT _ (SF aU);have adM:=aca i aU BW;have bh:A (M.getD i 0)=false->∀t∈M.take (i+1),A t=false:=λaT t a1=>by
      rw[takeN aU]at a1;rcases List.mem_append.1 a1 with bc|bc
      ·exact BW t bc
      ·simp only[List.mem_singleton]at bc;rw[bc];exact aT
     generalize M.getD i 0=s at Vk acb hB Ua adM bh;refine ez (λaf=>af=[.bool (A s)]) ?_ ?_
     ·refine wp_loop (λj af=>∃q:Nat,af=[.bool ((ps.take q).all (GC slip l s)),ax q]/\q+j=ps.length) ps.length (by omega) ⟨0,rfl,by omega⟩ ?_;rintro amA af ⟨q,rfl,aH⟩;try refine eK (by(try simp only[List.length_cons,List.length_nil,Nat.reduceAdd,Nat.zero_add]);rfl) (by(try simp only[dz]);rfl) ?_
      refine wp (ax ys.length) (by simp[Prim.fZ,aR.aP,nth,dz]) ?_;rw[ahj];refine hZ rfl rfl ?_;refine cK rfl (λal=>?_) (λal=>?_)
      ·have xv:q<ps.length:=by omega
       obtain⟨anJ,adN,oN⟩:=aix tw (k:=q) (by simpa using xv);have lh:=anc ps (GC slip l s) xv;have dH:(ps.map λp=>oe slip l p l.length).getD q []=oe slip l (ps.getD q default) l.length:=by simp[List.getD_eq_getElem?_getD,xv]
       rw[dH]at oN;have acd:∀n∈oe slip l (ps.getD q default) l.length,n<4:=λn aI=>by have:=aaF aI;omega
       have anq:=aay (slip:=slip) (l:=l) (p:=ps.getD q default);have hex:GC slip l s (ps.getD q default)=(oe slip l (ps.getD q default) l.length).any s.testBit:=rfl;rw[hex]at lh;clear hex dH;generalize oe slip l (ps.getD q default) l.length=K at oN acd anq lh;have n9:(Ei K).length=K.length:=by simp[Ei]
       refine ez (λaf=>af=[.bool (K.any s.testBit)]) ?_ ?_
       ·refine wp_loop (λj af=>∃c:Nat,af=[.bool ((K.take c).any s.testBit),ax c]/\c+j=K.length) K.length (by omega) ⟨0,rfl,by omega⟩ ?_;rintro anA af ⟨c,rfl,ah⟩;try refine eK (by(try simp only[List.length_cons,List.length_nil,Nat.reduceAdd,Nat.zero_add]);rfl) (by(try simp only[dz]);rfl) ?_
        refine aaz rfl rfl (by omega) ?_;refine aaA rfl rfl adN ?_;refine ib rfl oN ?_;rw[n9];refine hZ rfl rfl ?_;refine cK rfl (λaJ=>?_) (λaJ=>?_)
        ·have iu:c<K.length:=by omega
         have zw:=tc oN (show c<(Ei K).length by omega);rw[aax iu]at zw;have ahk:=acd _ (SF iu);have acf:=anb K s iu;generalize K.getD c 0=a at zw ahk acf;refine ez (λaf=>af=[.bool ((K.take (c+1)).any s.testBit)]) ?_ ?_
         ·rw[acf];refine wq rfl (λbI=>?_) (λbI=>?_)
          ·rw[bI,Bool.true_or];try refine eK (by(try simp only[List.length_cons,List.length_nil,Nat.reduceAdd,Nat.zero_add]);rfl) (by(try simp only[dz]);rfl) ?_
           exact cw rfl
          ·rw[bI,Bool.false_or];refine wp _ Vk ?_;refine aaz rfl rfl (by omega) ?_;refine aaA rfl rfl adN ?_;refine wp _ zw ?_;refine nN (Pp 18 (Hi s) (by have:=Po s;omega) (a:Int)) rfl ?_;rintro v ⟨z,rfl,bO⟩;refine Jl rfl rfl ?_;rw[decide_eq_decide.2 bO,agd s acb a (by omega)];try refine eK (by(try simp only[List.length_cons,List.length_nil,Nat.reduceAdd,Nat.zero_add]);rfl) (by(try simp only[dz]);rfl) ?_
           exact cw rfl
         rintro af rfl;refine ie rfl rfl (by omega) ?_;exact cw ⟨anA-1,by omega,c+1,rfl,by omega⟩
        ·refine ia (by decide) ?_;have e:c=K.length:=by omega
         subst e;rw[List.take_length];exact cw rfl
       rintro af rfl;refine ez (λaf=>af=[.bool ((ps.take (q+1)).all (GC slip l s))]) ?_ ?_
       ·rw[lh];try refine eK (by(try simp only[List.length_cons,List.length_nil,Nat.reduceAdd,Nat.zero_add]);rfl) (by(try simp only[dz]);rfl) ?_
        refine wq rfl (λbI=>?_) (λbI=>?_)
        ·rw[bI,Bool.true_and];try refine eK (by(try simp only[List.length_cons,List.length_nil,Nat.reduceAdd,Nat.zero_add]);rfl) (by(try simp only[dz]);rfl) ?_
         exact cw rfl
        ·rw[bI,Bool.false_and];try refine eK (by(try simp only[List.length_cons,List.length_nil,Nat.reduceAdd,Nat.zero_add]);rfl) (by(try simp only[dz]);rfl) ?_
         exact cw rfl
       rintro af rfl;refine ie rfl rfl (by omega) ?_;exact cw ⟨amA-1,by omega,q+1,rfl,by omega⟩
      ·refine ia (by decide) ?_;have e:q=ps.length:=by omega
       subst e;rw[List.take_length,←adK];exact cw rfl
     rintro af rfl;try refine eK (by(try simp only[List.length_cons,List.length_nil,Nat.reduceAdd,Nat.zero_add]);rfl) (by(try simp only[dz]);rfl) ?_
     refine wq rfl (λal=>?_) (λal=>?_)
     ·obtain⟨rfl,rfl⟩:=oE s (adM al);refine ez (λaf=>af=[.bool true]) ?_ ?_
      ·refine sM rfl rfl ?_;refine D4 rfl (by omega) ?_;refine wp _ Vk ?_;refine dr (Ki 18 anp (Hi s) (by have:=Po s;omega)) rfl ?_;refine El rfl ?_;refine dr (w:=.bool true) (λω=>⟨_,Qu ω,rfl⟩) rfl ?_;try refine eK (by(try simp only[List.length_cons,List.length_nil,Nat.reduceAdd,Nat.zero_add]);rfl) (by(try simp only[dz]);rfl) ?_
       exact cw rfl
      rintro af rfl;refine gK ?_;refine gK ?_;refine gK ?_;refine gK ?_;exact wp_ret rfl rfl rfl
     ·refine ie rfl rfl (by omega) ?_;exact cw ⟨LK-1,by omega,i+1,rfl,by omega,bh al⟩
    ·refine ia (by decide) ?_;rw[List.take_of_length_le (by omega)]at BW;exact cw ⟨rfl,BW⟩
   rintro af ⟨rfl,e3⟩;refine ie rfl rfl (by omega) ?_;refine cw ⟨j-1,by omega,m+1,rfl,by omega,λt a1=>?_⟩;rcases aaI t a1 with bc|bc
   ·exact zv t bc
   ·exact e3 t bc
  ·refine ia (by decide) ?_;have e:m=l.length+1:=by omega
   subst e;exact cw ⟨rfl,zv⟩
 rintro af ⟨rfl,aI⟩;obtain⟨rfl,rfl⟩:=aaH (dX aI);refine ez (λaf=>af=[.bool true]) ?_ ?_
 ·refine sM rfl rfl ?_;refine D4 rfl (by omega) ?_;refine ib rfl (by assumption) ?_;refine sM rfl rfl ?_;refine El rfl ?_;refine dr (w:=.bool true) (λω=>⟨_,Qu ω,rfl⟩) rfl ?_;try refine eK (by(try simp only[List.length_cons,List.length_nil,Nat.reduceAdd,Nat.zero_add]);rfl) (by(try simp only[dz]);rfl) ?_
  exact cw rfl
 rintro af rfl;try refine eK (by(try simp only[List.length_cons,List.length_nil,Nat.reduceAdd,Nat.zero_add]);rfl) (by(try simp only[dz]);rfl) ?_
 exact wp_ret rfl rfl rfl
theorem ani:∀bz,qu Tryz.prog 6 Tryz.f7.params.toList bz->∀ω,E Tryz.prog 20 ω 7 bz=some (.bool true):=by
 intro bz h ω;rw[show Tryz.f7.params.toList=[22]by kernel_rfl]at h;obtain⟨d,_,rfl,aV,h⟩:=D2 h;have aT:=ace h;subst aT;obtain⟨U,ab,_⟩:=XJ aV;obtain⟨v,ai,rfl⟩:=ano U ab ω;exact ai
end
section
open Go
theorem ruleCoverProved:Rows.RuleCoverSaid:=aeH ani
#print axioms ruleCoverProved
end
end Go.Proofs.YtlminnpaeaganaaGreat
