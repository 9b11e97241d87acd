/- Part of the proof of RuleCovers. No condition. -/
import Derived.Test.YtlminnpaeaganaaGreatMCoversAW
import Derived.Test.YtlminnpaeaganaaGreatMCoversAX
import Derived.Test.YtlminnpaeaganaaGreatMCoversAZ
namespace Go.Proofs.YtlminnpaeaganaaGreat
set_option maxRecDepth 100000
set_option linter.all false
section
open Go Go.RowKit
theorem takeN{l:List Nat}{i:Nat}(h:i<l.length):l.take (i+1)=l.take i++[l.getD i 0]:=by
 rw[List.take_add_one];simp[List.getD_eq_getElem?_getD,h]
theorem SF{l:List Nat}{i:Nat}(h:i<l.length):l.getD i 0∈l:=by simp[List.getD_eq_getElem?_getD,h]
theorem am9(k:Nat){x:aa}{ms:List Nat}(aj:IK x ms)(aT:0<ms.length)(ak:ms.length<=32)(ao:∀s∈ms,s<32):dT (k+5) 110 [x,.fn 111 []] λv=>v=G (zH ms):=by
 refine gj (t:=t110) (by kernel_rfl) (fn:=Tryz.f110) (by kernel_rfl) (by simp[dd,flagsOf,aj.plain]) ?_;have lR:∀i,i<=ms.length->∀s∈ms.take i,s<32:=λi _ s hm=>ao s (List.mem_of_mem_take hm);try refine eK (by(try simp only[List.length_cons,List.length_nil,Nat.reduceAdd,Nat.zero_add]);rfl) (by(try simp only[dz]);rfl) ?_
 refine Qt rfl aj ?_;refine hZ rfl rfl ?_;refine ez (λaf=>af=[]) ?_ ?_
 ·refine pW rfl (by omega) ?_;exact cw rfl
 rintro af rfl;try refine eK (by(try simp only[List.length_cons,List.length_nil,Nat.reduceAdd,Nat.zero_add]);rfl) (by(try simp only[dz]);rfl) ?_
 refine wp _ (Ur aj (n:=0) aT) ?_;refine ez (λaf=>af=[G (zH ms)]) ?_ ?_
 ·refine wp_loop (λj af=>∃i:Nat,af=[G (zH (ms.take (i+1))),ax ((i+1:Nat):Int)]/\i+1+j=ms.length) (ms.length-1) (by omega) ⟨0,by rw[takeN aT];rfl,by omega⟩ ?_;rintro j af ⟨i,rfl,hi⟩;try refine eK (by(try simp only[List.length_cons,List.length_nil,Nat.reduceAdd,Nat.zero_add]);rfl) (by(try simp only[dz]);rfl) ?_
  refine Qt rfl aj ?_;refine hZ rfl rfl ?_;refine cK rfl (λh=>?_) (λh=>?_)
  ·have aU:i+1<ms.length:=by omega
   have du:=Ur aj aU;have au:=ao _ (SF aU);have Tx:zH (ms.take (i+1+1))=if Ce (ms.getD (i+1) 0)<Ce (zH (ms.take (i+1)))then ms.getD (i+1) 0 else zH (ms.take (i+1)):=by rw[takeN aU,ae4 (by intro h;have:=congrArg List.length h;rw[List.length_take,List.length_nil]at this;omega)]
   have hm:zH (ms.take (i+1))<32:=by
    have bU:ms.take (i+1)≠[]:=by intro h;have:=congrArg List.length h;rw[List.length_take,List.length_nil]at this;omega
    have lh:=lR (i+1) (by omega);generalize ms.take (i+1)=L at bU lh;cases L with
    |nil=>exact absurd rfl bU
    |cons a l=>exact lh _ (Qx l a).1
   generalize zH (ms.take (i+1))=m at Tx hm;generalize ms.getD (i+1) 0=a at du au Tx;refine wp _ du ?_;refine XL (g:=111) (caps:=[]) rfl (am8 k (Hi a) (Hi m) (by have:=Po a;omega) (by have:=Po m;omega)) rfl ?_;refine hZ rfl rfl ?_;rw[aim a au m hm];refine ez (λaf=>af=[G (zH (ms.take (i+1+1)))]) ?_ ?_
   ·rw[Tx];refine cK rfl (λal=>?_) (λal=>?_)
    ·rw[if_pos al];refine wp _ du ?_;exact cw rfl
    ·rw[if_neg al];exact cw rfl
   rintro af rfl;refine ie rfl rfl (by omega) ?_;exact cw ⟨j-1,by omega,i+1,rfl,by omega⟩
  ·refine ia (by decide) ?_;have e:ms.take (i+1)=ms:=List.take_of_length_le (by omega);rw[e];exact cw rfl
 rintro af rfl;exact wp_ret rfl (Hi _).plain.1 rfl
def Qz(ms:List Nat):aa:=if ms=[]then .bD [.bC,.bool false]else .bD [G (zH ms),.bool true]
theorem ang(k:Nat){x:aa}{ms:List Nat}(aj:IK x ms)(ak:ms.length<=32)(ao:∀s∈ms,s<32):dT (k+6) 72 [x] λv=>v=Qz ms:=by
 refine gj (t:=t72) (by kernel_rfl) (fn:=Tryz.f72) (by kernel_rfl) (by simp[dd,flagsOf,aj.plain]) ?_;try refine eK (by(try simp only[List.length_cons,List.length_nil,Nat.reduceAdd,Nat.zero_add]);rfl) (by(try simp only[dz]);rfl) ?_
 refine Qt rfl aj ?_;refine sM rfl rfl ?_;refine cK rfl (λh=>?_) (λh=>?_)
 ·refine wp_ret (v:=.bD [.bC,.bool false]) rfl rfl ?_;rw[Qz,if_pos (List.length_eq_zero_iff.1 (by omega))]
 ·refine dr (am9 k aj (by omega) ak ao) rfl ?_;refine wp_ret (v:=.bD [G (zH ms),.bool true]) rfl (by simp[(Hi _).plain]) ?_;rw[Qz,if_neg (λe=>h (by rw[e];rfl))]
def SG:Option Nat->aa
 |some s=>.bD [G s,ax 0]
 |none=>.bD [.bC,ax 11]
def anyS(slip:Int)(r:aX)(p:a7)(s:Nat):Bool:=anl slip r p (VU p.g.length s)
theorem aeI(A:Nat->Bool)(s:Nat):(List.range (s+1)).filter A=(List.range s).filter A++if A s then[s]else[]:=by
 rw[List.range_succ,List.filter_append];congr 1;by_cases h:A s=true
 ·simp[h]
 ·simp[h]
theorem Y8(f:Nat->List Nat)(m:Nat):∀d,∃X,(List.range (m+1+d)).flatMap f=(List.range m).flatMap f++(f m++X)
 |0=>⟨[],by simp[List.range_succ]⟩
 |d+1=>by
  obtain⟨X,fz⟩:=Y8 f m d;refine⟨X++f (m+1+d),?_⟩;rw[show m+1+(d+1)=m+1+d+1 by omega,List.range_succ,List.flatMap_append,fz];simp
theorem Tr{L:List Nat}{A:Nat->Bool}(h:∀t∈L,A t=false):L.find? A=none:=List.find?_eq_none.2 λt a1 aW=>by rw[h t a1]at aW;cases aW
theorem agx{n m i:Nat}{A:Nat->Bool}(hm:m<=n)(U:∀t∈(List.range m).flatMap (bM n),A t=false)(hi:i<(bM n m).length)(ab:∀t∈(bM n m).take i,A t=false)(aW:A ((bM n m).getD i 0)=true):(allM n).find? A=some ((bM n m).getD i 0):=by
 obtain⟨X,fz⟩:=Y8 (bM n) m (n-m);unfold allM;rw[show n+1=m+1+(n-m)by omega,fz,List.find?_append,Tr U,Option.none_or,List.find?_append];have e:bM n m=(bM n m).take i++(bM n m).getD i 0::(bM n m).drop (i+1):=by
  have al:=List.take_append_drop i (bM n m);rw[List.drop_eq_getElem_cons hi]at al;rw[←al];simp[List.getD_eq_getElem?_getD,hi]
 have aO:(bM n m).find? A=some ((bM n m).getD i 0):=by
  generalize(bM n m).getD i 0=s at aW e;rw[e,List.find?_append,Tr ab,Option.none_or,List.find?_cons_of_pos aW]
 rw[aO];rfl
end
section
open Go Go.RowKit
section
variable{C:b2->FuncId->List aa->Option aa}{n:Nat}{R:Out->Prop}{d:Nat}{st:List aa}{t:Tree}
theorem Y9{T:TypeId}{x y:aS}{a:Int}{g:Nat}(aj:x.aP d st=ax a)(aF:y.aP d st=ax g)(k:b6 C n t (d+1) (ax (a.fdiv (2^min g 64))::st) R):b6 C n (.av (.bin .shr T x y) t) d st R:=wp _ (by simp[Prim.fZ,aj,aF,eB,IntKind.bits]) k
theorem agb{T:TypeId}{x y:aS}{a:Int}{g:Nat}(aj:x.aP d st=ax a)(aF:y.aP d st=ax g)(k:b6 C n t (d+1) (ax (IntKind.i64.wrap (a*2^min g 64))::st) R):b6 C n (.av (.bin .shl T x y) t) d st R:=wp _ (by simp[Prim.fZ,aj,aF,eB,IntKind.bits]) k
theorem Za{T:TypeId}{x y:aS}{a b:Int}(aj:x.aP d st=ax a)(aF:y.aP d st=ax b)(k:b6 C n t (d+1) (ax (bits .and .i64 a b)::st) R):b6 C n (.av (.bin .and T x y) t) d st R:=wp _ (by simp[Prim.fZ,aj,aF,eB]) k
end
theorem Tv:∀l:List a7,(uM l).length=l.length*5
 |[]=>rfl
 |a::l=>by
  have:(uM (a::l)).length=5+(uM l).length:=by simp only[uM,List.flatMap_cons,List.length_append];rfl
  rw[this,Tv l,List.length_cons];omega
def Uq(ps:List a7):aa:=match ps with
 |[]=>.bC
 |a::l=>.sl none 5 0 (l.length+1) (uM (a::l))
theorem amW(ps:List a7):ov (Uq ps) ps:=by
 cases ps with
 |nil=>exact .inl ⟨rfl,rfl⟩
 |cons a l=>exact .inr ⟨0,rfl⟩
section
variable{C:b2->FuncId->List aa->Option aa}{n:Nat}{R:Out->Prop}{d:Nat}{st:List aa}{t:Tree}
theorem ae5{c:aR}{y:aS}{ps:List a7}{p:a7}(ah:c.aP d st=.agg (uM ps))(aF:y.aP d st=.sl none 5 0 1 p.cells)(ak:ps.length<1000)(k:b6 C n t (d+1) (.agg (uM (ps++[p]))::st) R):b6 C n (.av (.push 5 56 c y) t) d st R:=wp _ (by
 have e:=Tv ps;have aO:uM (ps++[p])=uM ps++p.cells:=by simp[uM]
 rw[aO];simp only[Prim.fZ,ah,aF,uW,wO];rw[if_pos (.inl trivial)];dsimp only;rw[e,if_pos ⟨rfl,by omega,by omega⟩]) k
theorem agc{c:aR}{ps:List a7}(ah:c.aP d st=.agg (uM ps))(k:b6 C n t (d+1) (Uq ps::st) R):b6 C n (.av (.bK 5 .cZ c) t) d st R:=wp _ (by
 cases ps with
 |nil=>simp only[Prim.fZ,ah];rfl
 |cons a l=>
  have e:=Tv (a::l);obtain⟨q,Q,aO⟩:∃q Q,uM (a::l)=q::Q:=⟨_,_,rfl⟩;simp only[Uq];rw[aO]at e ah⊢;simp only[Prim.fZ,ah,iU,isNil,e,List.length_cons,Nat.mul_div_cancel _ (show 0<5 by decide)]) k
end
theorem aaw:∀s:Nat,s<16->∀g:Nat,g<4->decide (bits .and .i64 (Int.fdiv (s:Int) (2^min g 64)) 1=1)=s.testBit g:=of_decide_eq_true (by kernel_rfl)
theorem aio:∀n:Nat,n<5->IntKind.i64.wrap (1*2^min n 64)=((2^n:Nat):Int)/\2^n<=16:=of_decide_eq_true (by kernel_rfl)
theorem aiv:∀n:Nat,n<5->∀s:Nat,s<2^n->pR s n=D1 s:=of_decide_eq_true (by kernel_rfl)
theorem ana(k:Nat){s g:Nat}(ao:s<16)(aN:g<4):dT (k+1) 71 [ax g,uc [ax s]] λv=>v=.bool (s.testBit g):=by
 refine gj (t:=t71) (by kernel_rfl) (fn:=Tryz.f71) (by kernel_rfl) rfl ?_;refine wp (.agg [ax s]) (by simp[Prim.fZ,A5,uc,ag,aS.aP,aR.aP,nth,dz]) ?_;refine Y9 rfl rfl ?_;refine Za (b:=1) rfl rfl ?_;refine sM rfl rfl ?_;rw[aaw s ao g aN];exact wp_ret rfl rfl rfl
theorem agd:∀s:Nat,s<32->∀g:Nat,g<5->decide ((g:Int)∈D1 s)=s.testBit g:=of_decide_eq_true (by kernel_rfl)
theorem amX{l:List a7}{i:Nat}(h:i<l.length):l.take (i+1)=l.take i++[l.getD i default]:=by
 rw[List.take_add_one];simp[List.getD_eq_getElem?_getD,h]
theorem anb(M:List Nat)(s:Nat){q:Nat}(h:q<M.length):(M.take (q+1)).any s.testBit=((M.take q).any s.testBit||s.testBit (M.getD q 0)):=by
 rw[takeN h,List.any_append];simp
theorem anc(ps:List a7)(B:a7->Bool){q:Nat}(h:q<ps.length):(ps.take (q+1)).all B=((ps.take q).all B&&B (ps.getD q default)):=by
 rw[amX h,List.all_append];simp
def Ei(M:List Nat):List Int:=M.map λ(i:Nat)=>(i:Int)
theorem aax{M:List Nat}{i:Nat}(h:i<M.length):(Ei M).getD i 0=(M.getD i 0:Nat):=by simp[Ei,List.getD_eq_getElem?_getD,h]
theorem amY(k:Nat){x:aa}{M:List Nat}(aj:dI x (Ei M))(e3:∀m∈M,m<4)(ak:M.length<4000){s:Nat}(ao:s<16):dT (k+2) 109 [x,.fn 71 [uc [ax s]]] λv=>∃i:Int,v=ax i/\(0<=i↔M.any s.testBit=true):=by
 have n9:(Ei M).length=M.length:=by simp[Ei]
 refine gj (t:=t109) (by kernel_rfl) (fn:=Tryz.f109) (by kernel_rfl) (by simp[dd,flagsOf,aj.plain,uc]) ?_;refine ib rfl aj ?_;rw[n9];refine ez (λaf=>af=[]/\M.any s.testBit=false) ?_ ?_
 ·refine wp_loop (λj af=>∃i:Nat,af=[ax i]/\i+j=M.length/\∀k,k<i->s.testBit (M.getD k 0)=false) M.length (by omega) ⟨0,rfl,by omega,λk aq=>by omega⟩ ?_;rintro j af ⟨i,rfl,hi,hb⟩;refine hZ rfl rfl ?_;refine cK rfl (λU=>?_) (λU=>?_)
  ·have aU:i<M.length:=by omega
   have du:=tc aj (show i<(Ei M).length by omega);rw[aax aU]at du;have hm:=SF aU;have ahk:=e3 _ hm;have dB:s.testBit (M.getD i 0)=false->∀k,k<i+1->s.testBit (M.getD k 0)=false:=λh k aq=>by
    by_cases e:k=i
    ·subst e;exact h
    ·exact hb k (by omega)
   generalize M.getD i 0=a at du hm ahk dB;refine wp _ du ?_;refine XL (g:=71) (caps:=[uc [ax s]]) rfl (ana k ao ahk) rfl ?_;refine wq rfl (λab=>?_) (λab=>?_)
   ·refine gK ?_;refine gK ?_;exact wp_ret (v:=ax i) rfl rfl ⟨i,rfl,by simp only[Int.natCast_nonneg,true_iff,List.any_eq_true];exact⟨a,hm,ab⟩⟩
   ·refine ie rfl rfl (by omega) ?_;exact cw ⟨j-1,by omega,i+1,rfl,by omega,dB ab⟩
  ·refine ia (by decide) ?_;refine cw ⟨rfl,List.any_eq_false.2 λm hm=>?_⟩;obtain⟨k,aq,e⟩:=List.getElem_of_mem hm;have:=hb k (by omega);simp only[List.getD_eq_getElem?_getD,List.getElem?_eq_getElem aq,Option.getD_some,e]at this;simp[this]
 rintro af ⟨rfl,aI⟩;exact wp_ret (v:=ax (-1)) (Q:=λv=>∃i:Int,v=ax i/\(0<=i↔M.any s.testBit=true)) rfl rfl ⟨-1,rfl,by simp[aI]⟩
theorem ane(k:Nat){x:aa}{M:List Nat}(aj:dI x (Ei M))(e3:∀m∈M,m<4)(ak:M.length<4000){s:Nat}(ao:s<16):dT (k+3) 70 [x,.fn 71 [uc [ax s]]] λv=>v=.bool (M.any s.testBit):=by
 refine gj (t:=t70) (by kernel_rfl) (fn:=Tryz.f70) (by kernel_rfl) (by simp[dd,flagsOf,aj.plain,uc]) ?_;refine nN (amY k aj e3 ak ao) rfl ?_;rintro v ⟨i,rfl,hi⟩;refine Jl rfl rfl ?_;have e:decide (0<=i)=M.any s.testBit:=by
  by_cases h:M.any s.testBit=true
  ·rw[h,decide_eq_true (hi.2 h)]
  ·rw[Bool.not_eq_true]at h;rw[h,decide_eq_false λbc=>by rw[hi.1 bc]at h;cases h]
 rw[e];exact wp_ret rfl rfl rfl
def GC(slip:Int)(l:List aX)(s:Nat)(p:a7):Bool:=(oe slip l p l.length).any s.testBit
def Il(slip:Int)(l:List aX)(ps:List a7)(s:Nat):Bool:=ps.all (GC slip l s)
theorem aaF{slip:Int}{l:List aX}{p:a7}{m:Nat}(h:m∈oe slip l p l.length):m<l.length:=List.mem_range.1 (List.mem_filter.1 h).1
theorem aay{slip:Int}{l:List aX}{p:a7}:(oe slip l p l.length).length<=l.length:=by
 have:=List.length_filter_le (λi=>kn slip (l.getD i default) p) (List.range l.length);simpa[oe]using this
theorem aiw{slip:Int}{l:List aX}{ps:List a7}{s:Nat}(h:∀k,k<ps.length->GC slip l s (ps.getD k default)=true):Il slip l ps s=true:=by
 refine List.all_eq_true.2 λp ae=>?_;obtain⟨k,aq,e⟩:=List.getElem_of_mem ae;have:=h k aq;simpa only[List.getD_eq_getElem?_getD,List.getElem?_eq_getElem aq,Option.getD_some,e]using this
theorem ags{slip:Int}{l:List aX}{ps:List a7}{s k:Nat}(aq:k<ps.length)(h:GC slip l s (ps.getD k default)=false):Il slip l ps s=false:=by
 refine Bool.eq_false_iff.2 λah=>?_;have:=List.all_eq_true.1 ah (ps.getD k default) (by simp[List.getD_eq_getElem?_getD,aq]);rw[h]at this;cases this
def JO(slip:Int)(l:List aX)(ps:List a7):Option Nat:=(allM l.length).find? (Il slip l ps)
def Kh(slip:Int)(l:List aX)(ps:List a7):aa:=if jA slip l≠0 then .bD [.bC,ax (jA slip l)]else if 5<ps.length then .bD [.bC,ax 6]else if gn slip l [] ps≠0 then .bD [.bC,ax (gn slip l [] ps)]else SG (JO slip l ps)
theorem ae6{ps:List a7}{i:Nat}(h:i<ps.length):ps.getD i default∈ps:=by simp[List.getD_eq_getElem?_getD,h]
theorem anf(k:Nat){slip:Int}{b3 x:aa}{l:List aX}{ps:List a7}(h:iq b3 l)(aF:ov x ps)(ae:∀p∈ps,lk p):dT (k+7) 32 [.agg [ax slip,b3],x] λv=>v=Kh slip l ps:=by
 refine gj (t:=t32) (by kernel_rfl) (fn:=Tryz.f32) (by kernel_rfl) (by simp[dd,flagsOf,h.plain,aF.plain λp hm=>(ae p hm).c5]) ?_;refine eU (by simp only[ag,aD,aM,aS.aP,aR.aP,cF,nth,cM,List.getD_cons_succ,List.getD_cons_zero,aX.cells,a7.cells];rfl) rfl ?_;refine dr (aeZ (k+3) h) rfl ?_;refine hJ rfl rfl ?_;refine cK rfl (λhe=>?_) (λhe=>?_)
 ·refine wp_ret (v:=.bD [.bC,ax (jA slip l)]) rfl rfl ?_;unfold Kh;rw[if_pos he]
 refine wj rfl aF ?_;refine pf rfl rfl ?_;refine cK rfl (λbm=>?_) (λbm=>?_)
 ·refine wp_ret (v:=.bD [.bC,ax 6]) rfl rfl ?_;unfold Kh;rw[if_neg he,if_pos (by omega)]
 refine nN (Sz (k+2) (slip:=slip) (x:=.bC) (ns:=[]) (y:=x) (ps:=ps) h EY (by simp) aF ae (by omega)) rfl ?_;rintro v ⟨a,b,rfl,bL,cD⟩;refine pe (by simp only[ag,aD,aM,aS.aP,aR.aP,cF,nth,cM,List.getD_cons_succ,List.getD_cons_zero,aX.cells,a7.cells,ll];rfl) ?_;refine pe (by simp only[ag,aD,aM,aS.aP,aR.aP,cF,nth,cM,List.getD_cons_succ,List.getD_cons_zero,aX.cells,a7.cells,ll];rfl) ?_;refine eU (by simp only[ag,aD,aM,aS.aP,aR.aP,cF,nth,cM,List.getD_cons_succ,List.getD_cons_zero,aX.cells,a7.cells];rfl) rfl ?_;refine hJ rfl rfl ?_;refine cK rfl (λamt=>?_) (λamt=>?_)
 ·refine wp_ret (v:=.bD [.bC,ax (gn slip l [] ps)]) rfl rfl ?_;unfold Kh;rw[if_neg he,if_neg (by omega),if_pos amt]
 have KW:Kh slip l ps=SG (JO slip l ps):=by unfold Kh;rw[if_neg he,if_neg (by omega),if_neg amt]
 rw[KW];replace amt:=Decidable.not_not.1 amt;obtain⟨rfl,rfl⟩:=bL amt;obtain⟨g1,_,bZ⟩:=adI amt;have e4:=aeL h g1;have fU:∀p∈ps,p.ok:=λp hm=>aeM (ae p hm).c5 (Rt bZ p hm);have fI:=e4.fI;have fY:=e4.fY;unfold JO;rw[ae7 (by omega)];obtain⟨ann,Uf⟩:=aio l.length (by omega);have aco:=aiv l.length (by omega);refine k9 rfl e4.gS ?_;refine agb (a:=1) rfl rfl ?_;rw[ann];have adJ:=λs=>aiw (slip:=slip) (l:=l) (ps:=ps) (s:=s);have aic:=λs k=>ags (slip:=slip) (l:=l) (ps:=ps) (s:=s) (k:=k);generalize Il slip l ps=A at adJ aic;generalize gq:2^l.length=N at Uf aco;refine ez (λaf=>af=[.agg (((List.range N).filter A).map G)]) ?_ ?_
 ·refine wp_loop (λj af=>∃s:Nat,af=[ax s,.agg (((List.range s).filter A).map G)]/\s+j=N) N (by omega) ⟨0,rfl,by omega⟩ ?_;rintro j af ⟨s,rfl,ao⟩;refine hZ rfl rfl ?_;refine cK rfl (λU=>?_) (λU=>?_)
  ·have ak:((List.range s).filter A).length<=s:=by have:=List.length_filter_le A (List.range s);simpa using this
   have vL:=(Hi s).plain.2;have UG:=aeI A s;refine p5 (v:=ax s) rfl rfl ?_;refine wj rfl aF ?_;refine ez (λaf=>af=[]/\A s=true) ?_ ?_
   ·refine wp_loop (λj af=>∃i:Nat,af=[ax i]/\i+j=ps.length/\∀k,k<i->GC slip l s (ps.getD k default)=true) ps.length (by omega) ⟨0,rfl,by omega,λk aq=>by omega⟩ ?_;rintro LK af ⟨i,rfl,hi,hb⟩;refine hZ rfl rfl ?_;refine cK rfl (λab=>?_) (λab=>?_)
    ·have aU:i<ps.length:=by omega
     have du:=BA aF aU;have tK:=fU _ (ae6 aU);have dB:GC slip l s (ps.getD i default)=true->∀k,k<i+1->GC slip l s (ps.getD k default)=true:=λh k aq=>by
      by_cases e:k=i
      ·subst e;exact h
      ·exact hb k (by omega)
     have aQ:=aic s i aU;generalize ps.getD i default=p at du tK dB aQ;refine wp _ du ?_;refine dr (Sl (k+5) e4 tK) rfl ?_;refine dr (ane (k+3) (x:=lS (oe slip l p l.length)) (M:=oe slip l p l.length) (Qf _) (λm hm=>by have:=aaF hm;omega) (by have:=aay (slip:=slip) (l:=l) (p:=p);omega) (s:=s) (by omega)) rfl ?_;refine wI rfl ?_;refine wq rfl (λal=>?_) (λal=>?_)
     ·have e:A s=false:=aQ (by simpa[GC]using al);rw[e,if_neg (by simp),List.append_nil]at UG;refine ie rfl rfl (by omega) ?_;refine ia (by decide) ?_;refine ia (by decide) ?_;refine cw ⟨j-1,by omega,s+1,?_,by omega⟩;rw[UG];rfl
     ·refine ie rfl rfl (by omega) ?_;exact cw ⟨LK-1,by omega,i+1,rfl,by omega,dB (by simpa[GC]using al)⟩
    ·refine ia (by decide) ?_;have e:i=ps.length:=by omega
     subst e;exact cw ⟨rfl,adJ s hb⟩
   rintro af ⟨rfl,aW⟩;rw[aW,if_pos rfl]at UG;refine k9 rfl e4.gS ?_;refine ez (λaf=>af=[.agg ((D1 s).map ax)]) ?_ ?_
   ·refine wp_loop (λj af=>∃i:Nat,af=[.agg ((pR s i).map ax),ax i]/\i+j=l.length) l.length (by omega) ⟨0,rfl,by omega⟩ ?_;rintro LK af ⟨i,rfl,hi⟩;refine hZ rfl rfl ?_;refine cK rfl (λab=>?_) (λab=>?_)
    ·have aiW:=Tw s i;refine Y9 rfl rfl ?_;refine Za (b:=1) rfl rfl ?_;refine sM rfl rfl ?_;rw[aaw s (by omega) i (by omega)];refine ez (λaf=>af=[.agg ((pR s (i+1)).map ax)]) ?_ ?_
     ·simp only[pR];refine wq rfl (λal=>?_) (λal=>?_)
      ·rw[if_pos al];refine p5 (by simp only[ag,aD,aM,aS.aP,aR.aP,cF,nth,cM,List.getD_cons_succ,List.getD_cons_zero,aX.cells,a7.cells];rfl) rfl ?_;refine Pk rfl rfl (by decide) (by first|omega|(simp;omega)) ?_;exact cw rfl
      ·rw[if_neg (by simp[al]),List.append_nil];exact cw rfl
     rintro af rfl;refine ie rfl rfl (by omega) ?_;exact cw ⟨LK-1,by omega,i+1,rfl,by omega⟩
    ·refine ia (by decide) ?_;have e:i=l.length:=by omega
     subst e;rw[aco s (by omega)];exact cw rfl
   rintro af rfl;refine Qv rfl ?_;refine ae8 rfl rfl (by omega) ?_;refine ie rfl rfl (by omega) ?_;refine cw ⟨j-1,by omega,s+1,?_,by omega⟩;rw[UG];rfl
  ·refine ia (by decide) ?_;have e:s=N:=by omega
   subst e;exact cw rfl
 rintro af rfl;refine agu rfl ?_;have Ca:∀s∈(List.range N).filter A,s<32:=λs ao=>by have:=List.mem_range.1 (List.mem_filter.1 ao).1;omega
 have SA:((List.range N).filter A).length<=32:=by have:=List.length_filter_le A (List.range N);simp at this;omega
 generalize(List.range N).filter A=ms at Ca SA;refine dr (ang k (amZ ms) SA Ca) rfl ?_;unfold Qz;by_cases bU:ms=[]
 ·rw[if_pos bU,if_pos bU];refine pe (by simp only[ag,aD,aM,aS.aP,aR.aP,cF,nth,cM,List.getD_cons_succ,List.getD_cons_zero,aX.cells,a7.cells,ll];rfl) ?_;refine pe (by simp only[ag,aD,aM,aS.aP,aR.aP,cF,nth,cM,List.getD_cons_succ,List.getD_cons_zero,aX.cells,a7.cells,ll];rfl) ?_;refine wI rfl ?_;refine El rfl ?_;exact wp_ret rfl rfl rfl
 ·rw[if_neg bU,if_neg bU];refine pe (by simp only[ag,aD,aM,aS.aP,aR.aP,cF,nth,cM,List.getD_cons_succ,List.getD_cons_zero,aX.cells,a7.cells,ll];rfl) ?_;refine pe (by simp only[ag,aD,aM,aS.aP,aR.aP,cF,nth,cM,List.getD_cons_succ,List.getD_cons_zero,aX.cells,a7.cells,ll];rfl) ?_;refine wI rfl ?_;refine qV rfl ?_;exact wp_ret (v:=.bD [G (zH ms),ax 0]) rfl (by simp[(Hi _).plain]) rfl
end
section
open Go Go.RowKit
theorem apg{slip:Int}{b3 x:aa}{l:List aX}{ps:List a7}(h:iq b3 l)(aF:ov x ps)(ae:∀p∈ps,lk p):dT 19 33 [.agg [ax slip,b3],x] λv=>v=Kh slip l ps:=by
 refine gj (t:=t33) (by kernel_rfl) (fn:=Tryz.f33) (by kernel_rfl) (by simp[dd,flagsOf,h.plain,aF.plain λp hm=>(ae p hm).c5]) ?_;refine eU (by simp only[ag,aD,aM,aS.aP,aR.aP,cF,nth,cM,List.getD_cons_succ,List.getD_cons_zero,aX.cells,a7.cells];rfl) rfl ?_;refine dr (ae0 15 h) rfl ?_;refine hJ rfl rfl ?_;refine cK rfl (λhe=>?_) (λhe=>?_)
 ·refine wp_ret (v:=.bD [.bC,ax (jA slip l)]) rfl rfl ?_;unfold Kh;rw[if_pos he]
 refine wj rfl aF ?_;refine pf rfl rfl ?_;refine cK rfl (λbm=>?_) (λbm=>?_)
 ·refine wp_ret (v:=.bD [.bC,ax 6]) rfl rfl ?_;unfold Kh;rw[if_neg he,if_pos (by omega)]
 refine dr (SB 14 (slip:=slip) (x:=.bC) (ns:=[]) (y:=x) (ps:=ps) h EY (by simp) aF ae (by omega)) rfl ?_;refine hJ rfl rfl ?_;refine cK rfl (λamt=>?_) (λamt=>?_)
 ·refine wp_ret (v:=.bD [.bC,ax (gn slip l [] ps)]) rfl rfl ?_;unfold Kh;rw[if_neg he,if_neg (by omega),if_pos amt]
 have KW:Kh slip l ps=SG (JO slip l ps):=by unfold Kh;rw[if_neg he,if_neg (by omega),if_neg amt]
 rw[KW];replace amt:=Decidable.not_not.1 amt;obtain⟨g1,_,bZ⟩:=adI amt;have e4:=aeL h g1;have fU:∀p∈ps,p.ok:=λp hm=>aeM (ae p hm).c5 (Rt bZ p hm);have fI:=e4.fI;have fY:=e4.fY;unfold JO;have adK:∀s,Il slip l ps s=ps.all (GC slip l s):=λs=>rfl;generalize Il slip l ps=A at adK;refine ez (λaf=>af=[]/\∀t∈allM l.length,A t=false) ?_ ?_
 ·refine wp_loop (λj af=>∃m:Nat,af=[ax m]/\m+j=l.length+1/\∀t∈(List.range m).flatMap (bM l.length),A t=false) (l.length+1) (by omega) ⟨0,rfl,by omega,λt a1=>by simp at a1⟩ ?_;rintro j af ⟨m,rfl,hm,zv⟩;try refine eK (by(try simp only[List.length_cons,List.length_nil,Nat.reduceAdd,Nat.zero_add]);rfl) (by(try simp only[dz]);rfl) ?_
  refine k9 rfl e4.gS ?_;refine A6 rfl rfl ?_;refine cK rfl (λU=>?_) (λU=>?_)
  ·have SH:m<=l.length:=by omega
   obtain⟨hA,oT⟩:=ag2 l.length (by omega) m (by omega);have Pq:=λi=>agx (A:=A) (i:=i) SH zv;refine k9 rfl e4.gS ?_;refine dr (ao0 l.length (by omega) m SH) rfl ?_;have Uy:IK (.sl none 1 0 (bM l.length m).length ((bM l.length m).map G)) (bM l.length m):=.inr ⟨0,rfl⟩;have aaI:∀t∈(List.range (m+1)).flatMap (bM l.length),t∈(List.range m).flatMap (bM l.length)\/t∈bM l.length m:=λt a1=>by
    rw[List.range_succ,List.flatMap_append]at a1;simpa using a1
   generalize bM l.length m=M at hA oT Pq Uy aaI;refine ez (λaf=>af=[]/\∀t∈M,A t=false) ?_ ?_
   ·refine wp_loop (λj af=>∃i:Nat,af=[ax i]/\i+j=M.length/\∀t∈M.take i,A t=false) M.length (by omega) ⟨0,rfl,by omega,λt a1=>by simp at a1⟩ ?_;rintro LK af ⟨i,rfl,hi,BW⟩;try refine eK (by(try simp only[List.length_cons,List.length_nil,Nat.reduceAdd,Nat.zero_add]);rfl) (by(try simp only[dz]);rfl) ?_
    refine Qt rfl Uy ?_;refine hZ rfl rfl ?_;refine cK rfl (λab=>?_) (λab=>?_)
    ·have aU:i<M.length:=by omega
     have Vk:=Ur Uy aU;obtain⟨acb,hB,Ua⟩:=oT _ (SF aU);have adM:=Pq i aU BW;have bh:A (M.getD i 0)=false->∀t∈M.take (i+1),A t=false:=λaT t a1=>by
      rw[takeN aU]at a1;rcases List.mem_append.1 a1 with bc|bc
      ·exact BW t bc
      ·simp only[List.mem_singleton]at bc;rw[bc];exact aT
     generalize M.getD i 0=s at Vk acb hB Ua adM bh;refine ez (λaf=>af=[.bool (A s)]) ?_ ?_
     ·refine wp_loop (λj af=>∃q:Nat,af=[.bool ((ps.take q).all (GC slip l s)),ax q]/\q+j=ps.length) ps.length (by omega) ⟨0,rfl,by omega⟩ ?_;rintro amA af ⟨q,rfl,aH⟩;try refine eK (by(try simp only[List.length_cons,List.length_nil,Nat.reduceAdd,Nat.zero_add]);rfl) (by(try simp only[dz]);rfl) ?_
      refine wj rfl aF ?_;refine hZ rfl rfl ?_;refine cK rfl (λal=>?_) (λal=>?_)
      ·have xv:q<ps.length:=by omega
       have du:=BA aF xv;have tK:=fU _ (ae6 xv);have lh:=anc ps (GC slip l s) xv;generalize ps.getD q default=p at du tK lh;refine wp _ du ?_;refine dr (ao1 14 e4 tK) rfl ?_;have dg:dI (m9 (hy slip l p l.length)) (Ei (oe slip l p l.length)):=rh _;have acd:∀n∈oe slip l p l.length,n<4:=λn aI=>by have:=aaF aI;omega
       have anq:=aay (slip:=slip) (l:=l) (p:=p);have hex:GC slip l s p=(oe slip l p l.length).any s.testBit:=rfl;generalize m9 (hy slip l p l.length)=y at dg;generalize oe slip l p l.length=K at dg acd anq hex;have n9:(Ei K).length=K.length:=by simp[Ei]
       refine ez (λaf=>af=[.bool (K.any s.testBit)]) ?_ ?_
       ·refine wp_loop (λj af=>∃c:Nat,af=[.bool ((K.take c).any s.testBit),ax c]/\c+j=K.length) K.length (by omega) ⟨0,rfl,by omega⟩ ?_;rintro anA af ⟨c,rfl,ah⟩;try refine eK (by(try simp only[List.length_cons,List.length_nil,Nat.reduceAdd,Nat.zero_add]);rfl) (by(try simp only[dz]);rfl) ?_
        refine ib rfl dg ?_;rw[n9];refine hZ rfl rfl ?_;refine cK rfl (λaJ=>?_) (λaJ=>?_)
        ·have iu:c<K.length:=by omega
         have zw:=tc dg (show c<(Ei K).length by omega);rw[aax iu]at zw;have ahk:=acd _ (SF iu);have acf:=anb K s iu;generalize K.getD c 0=a at zw ahk acf;refine ez (λaf=>af=[.bool ((K.take (c+1)).any s.testBit)]) ?_ ?_
         ·rw[acf];refine wq rfl (λbI=>?_) (λbI=>?_)
          ·rw[bI,Bool.true_or];try refine eK (by(try simp only[List.length_cons,List.length_nil,Nat.reduceAdd,Nat.zero_add]);rfl) (by(try simp only[dz]);rfl) ?_
           exact cw rfl
          ·rw[bI,Bool.false_or];refine wp _ Vk ?_;refine wp _ zw ?_;refine dr (ao2 17 (Hi s) (by have:=Po s;omega) (a:Int)) rfl ?_;rw[agd s acb a (by omega)];try refine eK (by(try simp only[List.length_cons,List.length_nil,Nat.reduceAdd,Nat.zero_add]);rfl) (by(try simp only[dz]);rfl) ?_
           exact cw rfl
         rintro af rfl;refine ie rfl rfl (by omega) ?_;exact cw ⟨anA-1,by omega,c+1,rfl,by omega⟩
        ·refine ia (by decide) ?_;have e:c=K.length:=by omega
         subst e;rw[List.take_length];exact cw rfl
       rintro af rfl;rw[←hex];refine ez (λaf=>af=[.bool ((ps.take (q+1)).all (GC slip l s))]) ?_ ?_
       ·rw[lh];try refine eK (by(try simp only[List.length_cons,List.length_nil,Nat.reduceAdd,Nat.zero_add]);rfl) (by(try simp only[dz]);rfl) ?_
        refine wq rfl (λbI=>?_) (λbI=>?_)
        ·rw[bI,Bool.true_and];try refine eK (by(try simp only[List.length_cons,List.length_nil,Nat.reduceAdd,Nat.zero_add]);rfl) (by(try simp only[dz]);rfl) ?_
         exact cw rfl
        ·rw[bI,Bool.false_and];try refine eK (by(try simp only[List.length_cons,List.length_nil,Nat.reduceAdd,Nat.zero_add]);rfl) (by(try simp only[dz]);rfl) ?_
         exact cw rfl
       rintro af rfl;refine ie rfl rfl (by omega) ?_;exact cw ⟨amA-1,by omega,q+1,rfl,by omega⟩
      ·refine ia (by decide) ?_;have e:q=ps.length:=by omega
       subst e;rw[List.take_length,←adK];exact cw rfl
     rintro af rfl;try refine eK (by(try simp only[List.length_cons,List.length_nil,Nat.reduceAdd,Nat.zero_add]);rfl) (by(try simp only[dz]);rfl) ?_
     refine wq rfl (λal=>?_) (λal=>?_)
     ·refine wp _ Vk ?_;refine gK ?_;refine gK ?_;refine gK ?_;refine gK ?_;refine wp_ret (v:=.bD [G s,ax 0]) rfl (by simp[(Hi _).plain]) ?_;rw[adM al];rfl
     ·refine ie rfl rfl (by omega) ?_;exact cw ⟨LK-1,by omega,i+1,rfl,by omega,bh al⟩
    ·refine ia (by decide) ?_;rw[List.take_of_length_le (by omega)]at BW;exact cw ⟨rfl,BW⟩
   rintro af ⟨rfl,e3⟩;refine ie rfl rfl (by omega) ?_;refine cw ⟨j-1,by omega,m+1,rfl,by omega,λt a1=>?_⟩;rcases aaI t a1 with bc|bc
   ·exact zv t bc
   ·exact e3 t bc
  ·refine ia (by decide) ?_;have e:m=l.length+1:=by omega
   subst e;exact cw ⟨rfl,zv⟩
 rintro af ⟨rfl,aI⟩;rw[Tr aI];exact wp_ret (v:=.bD [.bC,ax 11]) rfl rfl rfl
end
section
open Go Go.RowKit
theorem aoB{slip:Int}{r:aX}{p:a7}:kn slip (eV r) (lj p)=kn slip r p:=by
 unfold kn;rw[aos,aop]
end
section
open Go Go.RowKit
section
variable{C:b2->FuncId->List aa->Option aa}{n:Nat}{R:Out->Prop}{d:Nat}{st:List aa}{t:Tree}
theorem aeH{c:aR}{ps:List a7}(ah:c.aP d st=.agg (uM ps))(k:b6 C n t (d+1) (.sl none 5 0 ps.length (uM ps)::st) R):b6 C n (.av (.bK 5 .real c) t) d st R:=wp _ (by
 have e:=Tv ps;simp only[Prim.fZ,ah,iU,isNil,e,Nat.mul_div_cancel _ (show 0<5 by decide)]) k
theorem anM{c:aR}{ps:List a7}(ah:c.aP d st=.agg (uM ps))(k:b6 C n t (d+1) (ax ps.length::st) R):b6 C n (.av (.oG 5 c) t) d st R:=wp _ (by
 have e:=Tv ps;simp only[Prim.fZ,ah,Bg,e,Nat.mul_div_cancel _ (show 0<5 by decide)]) k
theorem anS{c:aR}{i:aS}{ps:List a7}{m:Nat}(ah:c.aP d st=.agg (uM ps))(hi:i.aP d st=ax m)(hm:m<ps.length)(k:b6 C n t (d+1) (ax m::st) R):b6 C n (.av (.kX 5 c i) t) d st R:=wp _ (by
 have e:=Tv ps;simp only[Prim.fZ,ah,hi,zj,e,Nat.mul_div_cancel _ (show 0<5 by decide),Int.toNat_natCast];rw[if_pos ⟨by omega,hm⟩]) k
theorem anZ:∀(l:List a7)(m:Nat)(p:a7),m<l.length->fa (uM l) (m*5) p.cells=uM (l.set m p)
 |a::l,0,p,_=>by simp[fa,uM,a7.cells]
 |a::l,m+1,p,h=>by
  have az:=anZ l m p (by simpa using h);have e:uM (a::l)=a.cells++uM l:=by simp[uM]
  have aO:uM ((a::l).set (m+1) p)=a.cells++uM (l.set m p):=by simp[uM]
  have bS:a.cells.length=5:=rfl;rw[aO,←az,e];simp only[fa];rw[show(m+1)*5=a.cells.length+m*5 by rw[bS];omega,List.take_length_add_append,show a.cells.length+m*5+p.cells.length=a.cells.length+(m*5+p.cells.length)by omega,List.drop_length_add_append];simp
theorem anT{c i:aR}{xs:List aS}{ps:List a7}{m:Nat}{p:a7}(ah:c.aP d st=.agg (uM ps))(hi:i.aP d st=ax m)(aj:cF d st xs=p.cells)(hm:m<ps.length)(k:b6 C n t (d+1) (.agg (uM (ps.set m p))::st) R):b6 C n (.av (.put 5 0 c i xs) t) d st R:=wp _ (by
 have e:=Tv ps;have aO:p.cells.length=5:=rfl;simp only[Prim.fZ,ah,hi,aj,vd,Int.toNat_natCast,Nat.add_zero,e,aO];rw[if_pos (by omega),anZ ps m p hm]) k
theorem an3:∀m:Nat,e8 [.bC,ax 0,ax 0,ax 0,.bool false] m=uM (List.replicate m default)
 |0=>rfl
 |m+1=>by
  have e:uM (List.replicate (m+1) default)=a7.cells default++uM (List.replicate m default):=by simp[uM,List.replicate_succ]
  rw[e8,an3 m,e];rfl
theorem aoT{x:aS}{m:Nat}(aj:x.aP d st=ax m)(hm:m<1000000)(k:b6 C n t (d+1) (.agg (uM (List.replicate m default))::st) R):b6 C n (.av (.mk [.bC,ax 0,ax 0,ax 0,.bool false] 56 x) t) d st R:=wp _ (by
 simp only[Prim.fZ,aj,tL,an3,Int.toNat_natCast];rw[if_pos (by omega)]) k
theorem anN{x:aS}{l:List a7}(aj:x.aP d st=.sl none 5 0 l.length (uM l))(k:b6 C n t (d+1) (.agg (uM l)::st) R):b6 C n (.av (.cont true 5 x) t) d st R:=wp _ (by
 simp only[Prim.fZ,aj,po];rw[if_pos ⟨trivial,Tv l⟩]) k
end
theorem aob(k:Nat){x:aa}{ps:List a7}(aj:ov x ps)(ae:∀p∈ps,lk p)(ak:ps.length<4000):dT (k+3) 31 [x] λv=>v=.sl none 5 0 ps.length (uM (ps.map lj)):=by
 refine gj (t:=t31) (by kernel_rfl) (fn:=Tryz.f31) (by kernel_rfl) (by simp[dd,flagsOf,aj.plain λp hm=>(ae p hm).c5]) ?_;refine wj rfl aj ?_;refine aoT rfl (by omega) ?_;refine ez (λaf=>af=[.agg (uM (ps.map lj))]) ?_ ?_
 ·refine wp_loop (λj af=>∃(i:Nat)(M:List a7),af=[ax i,.agg (uM M)]/\i+j=ps.length/\M.length=ps.length/\∀k,k<i->M.getD k default=lj (ps.getD k default)) ps.length (by omega) ⟨0,List.replicate ps.length default,rfl,by omega,by simp,λk aq=>by omega⟩ ?_;rintro j af ⟨i,M,rfl,hi,e3,aq⟩;try refine eK (by(try simp only[List.length_cons,List.length_nil,Nat.reduceAdd,Nat.zero_add]);rfl) (by(try simp only[dz]);rfl) ?_
  refine wj rfl aj ?_;refine hZ rfl rfl ?_;refine cK rfl (λbc=>?_) (λbc=>?_)
  ·have aU:i<ps.length:=by omega
   have du:=BA aj aU;have ad:=ae _ (ae6 aU);generalize cn:ps.getD i default=r at ad du;refine wp _ du ?_;refine dr (an4 k ad) rfl ?_;refine anS (ps:=M) rfl rfl (by omega) ?_;refine eU (by simp only[ag,aD,aM,aS.aP,aR.aP,cF,nth,cM,List.getD_cons_succ,List.getD_cons_zero,aX.cells,a7.cells];rfl) rfl ?_;refine anT (ps:=M) (p:=lj r) rfl rfl rfl (by omega) ?_;refine ie rfl rfl (by omega) ?_;refine cw ⟨j-1,by omega,i+1,M.set i (lj r),rfl,by omega,by simpa using e3,λk gx=>?_⟩;by_cases e:k=i
   ·subst e;have:k<M.length:=by omega
    rw[cn];simp[List.getD_eq_getElem?_getD,this]
   ·have:=aq k (by omega);simp only[List.getD_eq_getElem?_getD]at this⊢;rw[List.getElem?_set_ne (by omega)];exact this
  ·refine ia (by decide) ?_;have e:M=ps.map lj:=List.ext_getElem (by simpa using e3) λk U ab=>by
    have al:k<ps.length:=by simpa using ab
    have:=aq k (by omega);simpa[List.getD_eq_getElem?_getD,U,al]using this
   rw[e];exact cw rfl
 rintro af rfl;refine aeH (ps:=ps.map lj) rfl ?_;rw[List.length_map];refine wp_ret (v:=.sl none 5 0 ps.length (uM (ps.map lj))) rfl ?_ rfl;have aH:ov (.sl none 5 0 (ps.map lj).length (uM (ps.map lj))) (ps.map lj):=.inr ⟨0,rfl⟩;have:=(aH.plain λp hm=>by obtain⟨q,aH,rfl⟩:=List.mem_map.1 hm;exact(ae q aH).dup.c5).1;rwa[List.length_map]at this
theorem an0(ps:List a7):ov (.sl none 5 0 ps.length (uM (ps.map lj))) (ps.map lj):=.inr ⟨0,by rw[List.length_map]⟩
theorem Y5{ps:List a7}(ae:∀p∈ps,lk p):∀p∈ps.map lj,lk p:=λp hm=>by obtain⟨q,aH,rfl⟩:=List.mem_map.1 hm;exact(ae q aH).dup
theorem aph(k:Nat){x y:aa}{ps:List a7}(aj:ov x ps)(aF:ov y (ps.map lj))(ae:∀p∈ps,lk p)(ak:ps.length<4000):dT (k+2) 69 [x,y] λv=>v=.bool true:=by
 have lZ:=Y5 ae;refine gj (t:=t69) (by kernel_rfl) (fn:=Tryz.f69) (by kernel_rfl) (by simp[dd,flagsOf,aj.plain λp hm=>(ae p hm).c5,aF.plain λp hm=>(lZ p hm).c5]) ?_;refine wj rfl aj ?_;refine wj rfl aF ?_;rw[List.length_map];refine hJ rfl rfl ?_;refine pW rfl (by omega) ?_;refine ez (λaf=>af=[]) ?_ ?_
 ·refine wp_loop (λj af=>∃i:Nat,af=[ax i]/\i+j=ps.length) ps.length (by omega) ⟨0,rfl,by omega⟩ ?_;rintro j af ⟨i,rfl,hi⟩;try refine eK (by(try simp only[List.length_cons,List.length_nil,Nat.reduceAdd,Nat.zero_add]);rfl) (by(try simp only[dz]);rfl) ?_
  refine wj rfl aj ?_;refine hZ rfl rfl ?_;refine cK rfl (λh=>?_) (λh=>?_)
  ·have aU:i<ps.length:=by omega
   have aaH:=BA aj aU;have dV:=BA aF (n:=i) (by rw[List.length_map];exact aU);have e:(ps.map lj).getD i default=lj (ps.getD i default):=by simp[List.getD_eq_getElem?_getD,aU]
   rw[e]at dV;have ad:=ae _ (ae6 aU);generalize ps.getD i default=p at aaH dV ad;refine wp (.agg [p.k6,ax p.up,ax p.aP,ax p.wd,.bool p.fr]) aaH ?_;refine wp (.agg [(lj p).k6,ax p.up,ax p.aP,ax p.wd,.bool p.fr]) dV ?_;refine ez (λaf=>af=[.bool false]) ?_ ?_
   ·refine dr (Ki k ad.c5 ad.dup.c5 (by have:=ad.len;omega)) rfl ?_;refine wI rfl ?_;refine qV rfl ?_;refine hJ rfl rfl ?_;refine pW rfl (by omega) ?_;refine hJ rfl rfl ?_;refine pW rfl (by omega) ?_;refine hJ rfl rfl ?_;refine pW rfl (by omega) ?_;refine aoK rfl rfl ?_;refine cw ?_;show[aa.bool (p.fr != p.fr)]=[.bool false];simp
   rintro af rfl;refine qV rfl ?_;refine ie rfl rfl (by omega) ?_;exact cw ⟨j-1,by omega,i+1,rfl,by omega⟩
  ·refine ia (by decide) ?_;exact cw rfl
 ·rintro af rfl;exact wp_ret rfl rfl rfl
theorem api(k:Nat){slip:Int}{b3 x y:aa}{l:List aX}{ps:List a7}(h:iq b3 l)(aj:ov x ps)(aF:ov y (ps.map lj))(ae:∀p∈ps,lk p)(ak:ps.length<4000):dT (k+3) 29 [.agg [ax slip,b3],.agg [ax slip,.sl none 3 0 l.length (dJ (l.map eV))],x,y] λv=>v=.bool true:=by
 have lZ:=Y5 ae;refine gj (t:=t29) (by kernel_rfl) (fn:=Tryz.f29) (by kernel_rfl) (by simp[dd,flagsOf,h.plain,h.dup.plain,aj.plain λp hm=>(ae p hm).c5,aF.plain λp hm=>(lZ p hm).c5]) ?_;refine eU (by simp only[ag,aD,aM,aS.aP,aR.aP,cF,nth,cM,List.getD_cons_succ,List.getD_cons_zero,aX.cells,a7.cells];rfl) rfl ?_;refine eU (by simp only[ag,aD,aM,aS.aP,aR.aP,cF,nth,cM,List.getD_cons_succ,List.getD_cons_zero,aX.cells,a7.cells];rfl) rfl ?_;refine ez (λaf=>af=[.bool true]) ?_ ?_
 ·refine dr (apj k h h.dup (aoz l)) rfl ?_;refine El rfl ?_;refine dr (aph k aj aF ae ak) rfl ?_;exact cw rfl
 ·rintro af rfl;exact wp_ret rfl rfl rfl
theorem anU:∀ps:List a7,pI (ps.map lj)=pI ps
 |[]=>rfl
 |p::ps=>by simp only[List.map_cons,pI,aoL,anU ps]
theorem aoM{slip:Int}{l:List aX}{p:a7}:oe slip (l.map eV) (lj p) l.length=oe slip l p l.length:=by
 unfold oe;refine List.filter_congr λi hi=>?_;rw[aoA (List.mem_range.1 hi),aoB]
theorem aoN{slip:Int}{l:List aX}{ps:List a7}:Kh slip (l.map eV) (ps.map lj)=Kh slip l ps:=by
 have aK:gn slip (l.map eV) [] (ps.map lj)=gn slip l [] ps:=by rw[aoO];simp only[gn,anU]
 have aO:JO slip (l.map eV) (ps.map lj)=JO slip l ps:=by
  unfold JO;rw[List.length_map];congr 1;funext s;simp only[Il,List.all_map];congr 1;funext p;simp only[Function.comp_apply,GC,List.length_map,aoM]
 unfold Kh;rw[anV,List.length_map,aK,aO]
theorem aoU(slip:Int)(l:List aX)(ps:List a7):∃y e L,Kh slip l ps=.bD [y,ax e]/\dI y L/\L.length<=5:=by
 unfold Kh;split
 ·exact⟨_,_,[],rfl,EY,by simp⟩
 split
 ·exact⟨_,_,[],rfl,EY,by simp⟩
 split
 ·exact⟨_,_,[],rfl,EY,by simp⟩
 ·cases JO slip l ps with
  |some s=>exact⟨_,_,_,rfl,Hi s,Po s⟩
  |none=>exact⟨_,_,[],rfl,EY,by simp⟩
theorem apx{slip:Int}{b3 x q:aa}{l:List aX}{ps:List a7}(ad:mQ b3 l)(mE:∀r∈l,dI r.sp r.st)(aj:ov x ps)(Y1:∀p∈ps,dI p.k6 p.g)(tG:wY q=true)(xI:q.plain=true):dT 20 6 [.agg [ax slip,b3],x,q] λv=>v=.bool true:=by
 refine gj (t:=t6) (by kernel_rfl) (fn:=Tryz.f6) (by kernel_rfl) (by simp[dd,flagsOf,xI,aj.plain Y1,ad.Jg mE]) ?_;refine eU (by simp only[ag,aD,aM,aS.aP,aR.aP,cF,nth,cM,List.getD_cons_succ,List.getD_cons_zero,aX.cells,a7.cells];rfl) rfl ?_;refine nN (apk 18 (slip:=slip) ad mE (y:=x) (ps:=ps) aj Y1) rfl ?_;rintro v ⟨b,rfl,hb⟩;refine wq rfl (λh=>?_) (λh=>?_)
 ·refine dr (w:=.bool true) (λω=>⟨_,Qu ω,rfl⟩) rfl ?_;exact wp_ret rfl rfl rfl
 obtain⟨⟨apl,apm⟩,cD,apn⟩:=hb h;have cn:iq b3 l:=⟨ad,mE,apl,apm⟩;have ub:∀p∈ps,lk p:=λp hm=>⟨Y1 p hm,apn p hm⟩;refine wp q (by simp[Prim.fZ,dz,ag,aS.aP,aR.aP,nth,EX,tG]) ?_;refine nN (apo 13 cn) rfl ?_;rintro v ⟨s2,tb,ei,aaz,ss,rfl,e4,dC,apy,apH⟩;have anr:=e4.raw;refine nN (m8 17 5 (by omega) (by omega)) rfl ?_;rintro v ⟨apL,rfl,nf,Li⟩;obtain⟨n,rfl⟩:=Int.eq_ofNat_of_zero_le nf;refine ez (λaf=>∃os:List a7,af=[.agg (uM os)]/\os.length<=5/\∀p∈os,p.ok) ?_ ?_
 ·refine wp_loop (λj af=>∃(os:List a7)(i:Nat),af=[.agg (uM os),ax i]/\i=j/\os.length+i<=5/\∀p∈os,p.ok) n (by omega) ⟨[],n,rfl,rfl,by simp only[List.length_nil];omega,by simp⟩ ?_;rintro j af ⟨os,i,rfl,rfl,apz,aca⟩;refine pf rfl rfl ?_;refine cK rfl (λU=>?_) (λU=>?_)
  ·refine wp _ (apq 1 (by omega)) ?_;refine nN (af9 13 e4) rfl ?_;rintro v ⟨p,rfl,ae⟩;refine eU (cs:=[p.k6,ax p.up,ax p.aP,ax p.wd,.bool p.fr]) rfl rfl ?_;refine ae5 (p:=p) rfl rfl (by omega) ?_;refine AT rfl rfl (by omega) ?_;refine cw ⟨i-1,by omega,os++[p],i-1,rfl,rfl,by simp;omega,λr ad=>?_⟩;rcases List.mem_append.1 ad with ad|ad
   ·exact aca r ad
   ·simp only[List.mem_singleton]at ad;rw[ad];exact ae
  ·refine ia (by decide) ?_;exact cw ⟨os,rfl,by omega,aca⟩
 rintro af ⟨os,rfl,apz,aca⟩;refine agc rfl ?_;have fe:ov (Uq os) os:=amW os;have Pp:∀p∈os,lk p:=λp hm=>(aca p hm).raw;have apA:=(fe.plain λp hm=>(Pp p hm).c5).2;have apB:=(fe.plain λp hm=>(Pp p hm).c5).1;generalize Uq os=o at fe apA apB;refine dr (aob 16 fe Pp (by omega)) rfl ?_;refine anN (l:=os.map lj) (by rw[List.length_map];rfl) ?_;refine ez (λaf=>af=[.bool (decide (0<os.length)&&decide (0<ps.length))]) ?_ ?_
 ·refine anM (ps:=os.map lj) rfl ?_;rw[List.length_map];refine pf rfl rfl ?_;refine cK rfl (λU=>?_) (λU=>?_)
  ·refine wj rfl aj ?_;refine pf rfl rfl ?_;refine cw ?_;rw[decide_eq_true (show 0<os.length by omega),Bool.true_and];exact sX (by omega)
  ·rw[decide_eq_false (show ¬0<os.length by omega),Bool.false_and];exact cw rfl
 rintro af rfl;refine ez (λaf=>∃ws:List a7,af=[.agg (uM ws)]/\ws.length<=5/\∀p∈ws,lk p) ?_ ?_
 ·refine wq rfl (λU=>?_) (λU=>?_)
  ·simp only[Bool.and_eq_true,decide_eq_true_eq]at U;refine anM (ps:=os.map lj) rfl ?_;rw[List.length_map];refine Ek rfl rfl (by omega) (by omega) ?_;refine nN (m8 17 ((os.length:Int)-1) (by omega) (by omega)) rfl ?_;rintro v ⟨ajj,rfl,ani,xu⟩;obtain⟨m,rfl⟩:=Int.eq_ofNat_of_zero_le ani;have du:=BA aj (n:=0) U.2;have am7:=ub _ (ae6 U.2);generalize ps.getD 0 default=qB at du am7;refine wp (.agg [qB.k6,ax qB.up,ax qB.aP,ax qB.wd,.bool qB.fr]) du ?_;refine dr (an4 17 am7) rfl ?_;refine anS (ps:=os.map lj) rfl rfl (by rw[List.length_map];omega) ?_;refine eU (by simp only[ag,aD,aM,aS.aP,aR.aP,cF,nth,cM,List.getD_cons_succ,List.getD_cons_zero,aX.cells,a7.cells];rfl) rfl ?_;refine anT (ps:=os.map lj) (p:=lj qB) rfl rfl rfl (by rw[List.length_map];omega) ?_;refine cw ⟨(os.map lj).set m (lj qB),rfl,by simp;omega,λp ae=>?_⟩;rcases List.mem_or_eq_of_mem_set ae with ae|rfl
   ·exact Y5 Pp p ae
   ·exact am7.dup
  ·exact cw ⟨os.map lj,rfl,by simp;omega,Y5 Pp⟩
 rintro af ⟨ws,rfl,apI,aoe⟩;refine aeH rfl ?_;have hW:ov (.sl none 5 0 ws.length (uM ws)) ws:=.inr ⟨0,rfl⟩;have apC:=(hW.plain λp hm=>(aoe p hm).c5).2;have apD:=(aj.plain Y1).2;refine p5 (v:=x) rfl apD ?_;generalize aa.sl none 5 0 ws.length (uM ws)=w at hW apC;have ao3:∀i:Nat,i<4->∃s ano li y,∃pi:List a7,kp 2 (.sl none 2 0 4 [ax slip,b3,ax s2,tb,ax s2,aaz,ax s2,tb]) (ax i)=some (.agg [ax s,ano])/\kp 1 (.sl none 1 0 4 [x,o,o,w]) (ax i)=some (.agg [y])/\iq ano li/\ov y pi/\(∀p∈pi,lk p)/\pi.length<=20
  |0,_=>⟨slip,b3,l,x,ps,rfl,rfl,cn,aj,ub,cD⟩
  |1,_=>⟨s2,tb,ei,o,os,rfl,rfl,anr,fe,Pp,by omega⟩
  |2,_=>⟨s2,aaz,ss,o,os,rfl,rfl,apy,fe,Pp,by omega⟩
  |3,_=>⟨s2,tb,ei,w,ws,rfl,rfl,anr,hW,aoe,by omega⟩
 refine ez (λaf=>af=[]) ?_ ?_
 ·refine wp_loop (λj af=>∃i:Nat,af=[ax i]/\i+j=4) 4 (by omega) ⟨0,rfl,by omega⟩ ?_;rintro j af ⟨i,rfl,dL⟩;try refine eK (by(try simp only[List.length_cons,List.length_nil,Nat.reduceAdd,Nat.zero_add]);rfl) (by(try simp only[dz]);rfl) ?_
  refine aoC rfl ?_;refine hZ rfl rfl ?_;refine cK rfl (λU=>?_) (λU=>?_)
  ·obtain⟨s,ano,li,y,pi,eh,r2,adH,anp,adN,apJ⟩:=ao3 i (by omega);have dQ:=adH.dup;obtain⟨z,e,L,KW,aof,apK⟩:=aoU s li pi;refine wp _ eh ?_;refine dr (ao4 16 adH) rfl ?_;refine wp _ r2 ?_;refine dr (aob 16 anp adN (by omega)) rfl ?_;refine anN (l:=pi.map lj) (by rw[List.length_map];rfl) ?_;refine eU (cs:=[ax s,.sl none 3 0 li.length (dJ (li.map eV))]) rfl rfl ?_;refine aeH (ps:=pi.map lj) rfl ?_;rw[List.length_map];refine dr (anf 12 (slip:=s) dQ (an0 pi) (Y5 adN)) rfl ?_;rw[aoN,KW];refine pe (by simp only[ag,aD,aM,aS.aP,aR.aP,cF,nth,cM,List.getD_cons_succ,List.getD_cons_zero,aX.cells,a7.cells,ll];rfl) ?_;refine pe (by simp only[ag,aD,aM,aS.aP,aR.aP,cF,nth,cM,List.getD_cons_succ,List.getD_cons_zero,aX.cells,a7.cells,ll];rfl) ?_;refine wp _ eh ?_;refine wp _ r2 ?_;refine dr (apg (slip:=s) adH anp adN) rfl ?_;rw[KW];refine pe (by simp only[ag,aD,aM,aS.aP,aR.aP,cF,nth,cM,List.getD_cons_succ,List.getD_cons_zero,aX.cells,a7.cells,ll];rfl) ?_;refine pe (by simp only[ag,aD,aM,aS.aP,aR.aP,cF,nth,cM,List.getD_cons_succ,List.getD_cons_zero,aX.cells,a7.cells,ll];rfl) ?_;refine ez (λaf=>af=[.bool false]) ?_ ?_
   ·refine hJ rfl rfl ?_;refine pW rfl (by omega) ?_;refine dr (Ki 18 aof aof (by omega)) rfl ?_;refine wI rfl ?_;refine qV rfl ?_;refine wp _ eh ?_;refine wp _ r2 ?_;refine dr (api 16 (slip:=s) adH anp (an0 pi) adN (by omega)) rfl ?_;refine wI rfl ?_;exact cw rfl
   rintro af rfl;refine qV rfl ?_;refine ie rfl rfl (by omega) ?_;exact cw ⟨j-1,by omega,i+1,rfl,by omega⟩
  ·refine ia (by decide) ?_;exact cw rfl
 rintro af rfl;refine dr (w:=.bool true) (λω=>⟨_,Qu ω,rfl⟩) rfl ?_;exact wp_ret rfl rfl rfl
theorem ao5:Tryz.prog.underlying 47=some (.slice 30):=by kernel_rfl
theorem apr:Tryz.prog.cellsOf 30=5:=by kernel_rfl
theorem aor{k:Nat}{cs:List aa}(h:g3 Tryz.prog (k+3) 30 cs):∃p:a7,cs=p.cells/\dI p.k6 p.g:=by
 obtain⟨ls,rfl,ak,ao⟩:=adP (ts:=[22,3,3,3,4]) (by kernel_rfl) h;obtain⟨a,b,c,d,e,rfl⟩:=ao6 ak;obtain⟨x,st,rfl,hi⟩:=anO (ao 0 22 a rfl rfl);obtain⟨n,rfl⟩:=Pm (ao 1 3 b rfl rfl);obtain⟨m,rfl⟩:=Pm (ao 2 3 c rfl rfl);obtain⟨w,rfl⟩:=Pm (ao 3 3 d rfl rfl);obtain⟨f,rfl⟩:=aoD (ao 4 4 e rfl rfl);exact⟨⟨x,st,n,m,w,f⟩,rfl,hi⟩
theorem aoo{q:aa}(h:l4 Tryz.prog 6 47 q):∃ps,ov q ps/\∀p∈ps,dI p.k6 p.g:=by
 have h:=aoP (by kernel_rfl) h;unfold g3 at h;rw[ao5]at h;simp only at h;rcases h with h|⟨off,ls,h,_,ak⟩
 ·injection h with h;exact⟨[],.inl ⟨h,rfl⟩,by simp⟩
 ·rw[apr]at h ak;have key:∀ls:List (List aa),(∀l∈ls,∃p:a7,l=p.cells/\dI p.k6 p.g)->∃ps:List a7,ls.flatten=uM ps/\ps.length=ls.length/\∀p∈ps,dI p.k6 p.g:=by
   intro ls;induction ls with
   |nil=>intro _;exact⟨[],rfl,rfl,by simp⟩
   |cons a ls az=>
    intro au;obtain⟨r,rfl,ad⟩:=au a (by simp);obtain⟨rs,U,ab,al⟩:=az λl hm=>au l (by simp[hm]);exact⟨r::rs,by simp[U,uM],by simp[ab],by simp;exact⟨ad,al⟩⟩
  obtain⟨ps,U,ab,al⟩:=key ls λl hm=>aor (ak l hm).1;injection h with h;exact⟨ps,.inr ⟨off,by rw[h,U,ab]⟩,al⟩
theorem aps:∀bz,qu Tryz.prog 6 Tryz.f6.params.toList bz->∀ω,E Tryz.prog 20 ω 6 bz=some (.bool true):=by
 intro bz h ω;rw[show Tryz.f6.params.toList=[27,47,22]by kernel_rfl]at h;obtain⟨a,_,rfl,au,h⟩:=D2 h;obtain⟨b,_,rfl,hb,h⟩:=D2 h;obtain⟨d,_,rfl,aV,h⟩:=D2 h;have aT:=ace h;subst aT;obtain⟨slip,b3,l,rfl,ad,mE⟩:=aom au;obtain⟨ps,aj,Y1⟩:=aoo hb;obtain⟨U,ab,_⟩:=XJ aV;obtain⟨v,ai,rfl⟩:=apx ad mE aj Y1 U ab ω;exact ai
end
section
open Go
theorem ruleCoversProved:Rows.RuleCoversSaid:=aok aps
#print axioms ruleCoversProved
end
end Go.Proofs.YtlminnpaeaganaaGreat
