/- Part of the proof of RuleH. No condition. -/
import Derived.Test.YtlminnpaeaganaaGreatMHAX
import Derived.Test.YtlminnpaeaganaaGreatMHAY
import Derived.Test.YtlminnpaeaganaaGreatMHBA
namespace Go.Proofs.YtlminnpaeaganaaGreat
set_option maxRecDepth 100000
set_option linter.all false
section
open Go Go.RowKit
theorem am7{slip:Int}{b3:aa}{l:List aX}{ns:List Int}{p:a7}(h:Hand slip b3 l)(ae:p.ok)(aI:∀n∈ns,0<=n/\n<(l.length:Int))(ak:ns.length<4000):gn slip l ns [p]=0:=by
 have U:=Sz 0 (slip:=slip) (ns:=ns) (ps:=[p]) h.raw (rh ns) ak (tb (p:=p)) (by simpa using ae.raw) (by simp);have ab:=ans 0 h (rh ns) aI ak (ps:=[p]) (by simpa using ae) (by simp);rw[show aa.sl none 5 0 [p].length (uM [p])=.sl none 5 0 1 p.cells by simp[uM]]at ab;have key:∀{g:FuncId}{args:List aa}{Q:aa->Prop}{u:aa},dT 4 g args Q->dT 4 g args (λv=>v=u)->Q u:=λ{g args Q u} a b=>by
  obtain⟨v,ai,aH⟩:=a gP;obtain⟨w,hw,e⟩:=b gP;rw[ai]at hw;injection hw with hw;rw[←e,←hw];exact aH
 obtain⟨a,b,e,_⟩:=key U ab;simp only[aa.bD.injEq,List.cons.injEq,aa.int.injEq]at e;exact e.2.1.2.symm
theorem am3(k:Nat){slip:Int}{b3:aa}{l:List aX}(h:Hand slip b3 l){p:a7}(ae:p.ok):dT (k+5) 15 [.agg [ax slip,b3],.agg p.cells] λv=>∃y,v=.bD [y,ax 0]/\dI y (hy slip l p l.length):=by
 have e:=am7 (ns:=[]) h ae (by simp) (by simp);refine(adH k (slip:=slip) h.raw ae.raw).mono λv ⟨y,U,ab⟩=>⟨y,by rw[U,e],?_⟩;unfold qs at ab;rwa[if_pos e]at ab
def am1(slip:Int)(l:List aX)(n:Nat)(p:a7):Int:=if kn slip (l.getD n default) p then(if(hy slip l p l.length).length=1 then 1 else 3)else 2
theorem am4{slip:Int}{l:List aX}{p:a7}{n N:Nat}(h:n<N):(n:Int)∈hy slip l p N↔kn slip (l.getD n default) p=true:=by
 simp only[hy,oe,List.mem_map,List.mem_filter,List.mem_range];constructor
 ·rintro⟨m,⟨_,hm⟩,e⟩;have e:m=n:=by omega
  rw[←e];exact hm
 ·intro bc;exact⟨n,⟨h,bc⟩,rfl⟩
theorem aoo(k:Nat){slip:Int}{b3:aa}{l:List aX}(h:Hand slip b3 l){p:a7}(ae:p.ok){n:Nat}(aI:n<l.length):dT (k+5) 27 [.agg [ax slip,b3],ax n,.agg p.cells] λv=>v=.bD [ax (am1 slip l n p),ax 0]:=by
 have e:=am7 (ns:=[(n:Int)]) h ae (by simp;omega) (by simp);refine(aga k (slip:=slip) (n:=n) h.raw ae.raw).mono λv U=>?_;have aO:qt slip l n p=am1 slip l n p:=by
  unfold qt am1;rw[if_pos e];by_cases c:kn slip (l.getD n default) p=true
  ·rw[if_pos c,if_pos ((am4 aI).2 c)]
  ·rw[if_neg c,if_neg (λq=>c ((am4 aI).1 q))]
 rw[U,e,aO]
theorem anp{slip:Int}{l:List aX}{p:a7}{m:Nat}:∀d,∃t,hy slip l p (m+d)=hy slip l p m++t
 |0=>⟨[],by simp⟩
 |d+1=>by
  obtain⟨t,a1⟩:=anp (slip:=slip) (l:=l) (p:=p) (m:=m) d;exact⟨_,by rw[←Nat.add_assoc,aaA,a1,List.append_assoc]⟩
theorem aob{slip:Int}{l:List aX}{p:a7}{n N:Nat}(h:n<N)(au:kn slip (l.getD n default) p=true):(hy slip l p n).length<(hy slip l p N).length/\(hy slip l p N).getD (hy slip l p n).length 0=n/\(hy slip l p (n+1)).length=(hy slip l p n).length+1:=by
 obtain⟨t,a1⟩:=anp (slip:=slip) (l:=l) (p:=p) (m:=n+1) (N-(n+1));rw[show n+1+(N-(n+1))=N by omega,aaA,if_pos au]at a1;rw[a1,aaA,if_pos au];simp[List.getD_eq_getElem?_getD]
theorem aoc{slip:Int}{l:List aX}{p:a7}{n:Nat}(au:¬kn slip (l.getD n default) p=true):hy slip l p (n+1)=hy slip l p n:=by rw[aaA,if_neg au,List.append_nil]
theorem an0{slip:Int}{l:List aX}{p:a7}(r:aX):hy slip (l.map eV++[r]) p l.length=hy slip l p l.length:=by
 unfold hy oe;congr 1;refine List.filter_congr λi hi=>?_;have hi:=List.mem_range.1 hi;have e:(l.map eV++[r]).getD i default=eV (l.getD i default):=by simp[List.getD_eq_getElem?_getD,List.getElem?_append_left,hi]
 rw[e];unfold kn;rw[Y1]
theorem aod{x:aa}{A:List Int}(h:dI x A){n:Nat}(aI:n<=A.length):∃y,p1 Tryz.prog 22 x none (some (ax n))=some y/\dI y (A.take n):=by
 have ah:∃e,Tryz.prog.underlying 22=some (.slice e)/\Tryz.prog.cellsOf e=1/\(Tryz.prog.info? e).isSome=true:=by
  have h:(match Tryz.prog.underlying 22 with|some (.slice e)=>decide (Tryz.prog.cellsOf e=1)&&(Tryz.prog.info? e).isSome|_=>false)=true:=by kernel_rfl
  split at h
  ·rename_i e he;simp only[Bool.and_eq_true,decide_eq_true_eq]at h;exact⟨e,he,h⟩
  ·cases h
 obtain⟨e,U,ab,al⟩:=ah;rcases h with⟨rfl,rfl⟩|⟨off,rfl⟩
 ·have:n=0:=by simpa using aI
  subst this;exact⟨.bC,by simp[p1,U,rm,al],.inl ⟨rfl,by simp⟩⟩
 ·by_cases aT:n=0
  ·subst aT;exact⟨.sl none 1 0 0 [],by simp[p1,U,rm,ab,al],.inr ⟨0,by simp⟩⟩
  ·refine⟨.sl none 1 off n ((A.map ax).take n),?_,.inr ⟨off,by simp[List.map_take];omega⟩⟩;have bm:¬0=n:=λe=>aT e.symm;simp[p1,U,rm,ab,al,aI,bm]
theorem aoC{q:aa}(tG:wY q=true)(xI:q.plain=true):dT 20 5 [q] λv=>v=.bool true:=by
 refine gj (t:=t5) (by kernel_rfl) (fn:=Tryz.f5) (by kernel_rfl) (by simp[dd,flagsOf,xI]) ?_;refine wp q (by simp[Prim.fZ,dz,ag,aS.aP,aR.aP,nth,EX,tG]) ?_;refine nN (agi 14 3 (by omega) (by omega)) rfl ?_;rintro v ⟨slip,b3,l,rfl,cc,vM,F4,gk,bQ,fU⟩;have e4:Hand slip b3 l:=⟨cc,vM,F4,gk,by omega,fU⟩;refine eU (by simp only[ag,aD,aM,aS.aP,aR.aP,cF,nth,cM,List.getD_cons_succ,List.getD_cons_zero,aX.cells,a7.cells];rfl) rfl ?_;refine nN (af9 13 e4) rfl ?_;rintro v ⟨p,rfl,ae⟩;refine eU (by simp only[ag,aD,aM,aS.aP,aR.aP,cF,nth,cM,List.getD_cons_succ,List.getD_cons_zero,aX.cells,a7.cells];rfl) rfl ?_;refine nN (am3 _ e4 ae) rfl ?_;rintro v ⟨x,rfl,aj⟩;have amc:=Ei slip l p l.length;refine pe (by simp only[ag,aD,aM,aS.aP,aR.aP,cF,nth,cM,List.getD_cons_succ,List.getD_cons_zero,aX.cells,a7.cells,ll];rfl) ?_;refine pe (by simp only[ag,aD,aM,aS.aP,aR.aP,cF,nth,cM,List.getD_cons_succ,List.getD_cons_zero,aX.cells,a7.cells,ll];rfl) ?_;refine hJ rfl rfl ?_;refine pW rfl (by omega) ?_;refine ez (λaf=>af=[ax (hy slip l p l.length).length]) ?_ ?_
 ·refine wp_loop (λj af=>∃i:Nat,af=[ax i,ax (hy slip l p i).length]/\i+j=l.length) l.length (by omega) ⟨0,rfl,by omega⟩ ?_;rintro j af ⟨i,rfl,hi⟩;have oN:=Ei slip l p i;try refine eK (by(try simp only[List.length_cons,List.length_nil,Nat.reduceAdd,Nat.zero_add]);rfl) (by(try simp only[dz]);rfl) ?_
  refine k9 rfl F4 ?_;refine hZ rfl rfl ?_;refine cK rfl (λU=>?_) (λU=>?_)
  ·have aU:i<l.length:=by omega
   refine nN (anf 14 e4 aU ae) rfl ?_;rintro v ⟨y,rfl,aF⟩;refine pe (by simp only[ag,aD,aM,aS.aP,aR.aP,cF,nth,cM,List.getD_cons_succ,List.getD_cons_zero,aX.cells,a7.cells,ll];rfl) ?_;refine pe (by simp only[ag,aD,aM,aS.aP,aR.aP,cF,nth,cM,List.getD_cons_succ,List.getD_cons_zero,aX.cells,a7.cells,ll];rfl) ?_;refine dr (aoo _ e4 ae aU) rfl ?_;have aN:=aob (slip:=slip) (l:=l) (p:=p) aU;have aoD:=aoc (slip:=slip) (l:=l) (p:=p) (n:=i);have ai:am1 slip l i p=if kn slip (l.getD i default) p then(if(hy slip l p l.length).length=1 then 1 else 3)else 2:=rfl
   have Kj:kn slip (l.getD i default) p=decide (0<(kl slip (l.getD i default) p).length):=rfl;have hB:=Y3 slip (e4.get aU) p;generalize kl slip (l.getD i default) p=Y at *;generalize kn slip (l.getD i default) p=B at *;generalize am1 slip l i p=V at *;generalize hy slip l p l.length=L at *;refine pe (by simp only[ag,aD,aM,aS.aP,aR.aP,cF,nth,cM,List.getD_cons_succ,List.getD_cons_zero,aX.cells,a7.cells,ll];rfl) ?_;refine pe (by simp only[ag,aD,aM,aS.aP,aR.aP,cF,nth,cM,List.getD_cons_succ,List.getD_cons_zero,aX.cells,a7.cells,ll];rfl) ?_;refine ez (λaf=>af=[.bool false]) ?_ ?_
   ·refine hJ rfl rfl ?_;refine pW rfl (by omega) ?_;refine hJ rfl rfl ?_;exact cw rfl
   rintro af rfl;refine qV rfl ?_;refine aaB rfl (by assumption) ?_;refine sM rfl rfl ?_;refine cK rfl (λab=>?_) (λab=>?_)
   ·have am2:¬B=true:=by rw[Kj,decide_eq_true_eq];omega
    rw[if_neg am2]at ai;subst ai;refine hJ rfl rfl ?_;refine pW rfl (by omega) ?_;refine ie rfl rfl (by omega) ?_;exact cw ⟨j-1,by omega,i+1,by rw[aoD am2];rfl,by omega⟩
   ·have am2:B=true:=by rw[Kj,decide_eq_true_eq];omega
    obtain⟨g1,a2,bZ⟩:=aN am2;rw[if_pos am2]at ai;have du:=tc aj g1;rw[a2]at du;refine ez (λaf=>af=[.bool false]) ?_ ?_
    ·refine ib rfl (by assumption) ?_;refine Jl rfl rfl ?_;refine pW rfl (by omega) ?_;refine uG rfl (by assumption) rfl (by omega) ?_;refine hJ rfl rfl ?_;refine pW rfl (by omega) ?_;refine hJ rfl rfl ?_;by_cases c:L.length=1
     ·rw[if_pos c]at ai;subst ai;refine pW rfl (by omega) ?_;refine sM rfl rfl ?_;refine ib rfl (by assumption) ?_;refine sM rfl rfl ?_;refine acm rfl rfl ?_;refine cw ?_;show[aa.bool (_ != decide ((L.length:Int)=1))]=_;rw[decide_eq_true (show(L.length:Int)=1 by omega)];rfl
     ·rw[if_neg c]at ai;subst ai;refine D4 rfl (by omega) ?_;refine hJ rfl rfl ?_;refine pW rfl (by omega) ?_;refine sM rfl rfl ?_;refine ib rfl (by assumption) ?_;refine sM rfl rfl ?_;refine acm rfl rfl ?_;refine cw ?_;show[aa.bool (_ != decide ((L.length:Int)=1))]=_;rw[decide_eq_false (show ¬(L.length:Int)=1 by omega)];rfl
    rintro af rfl;refine qV rfl ?_;refine ie rfl rfl (by omega) ?_;refine ie rfl rfl (by omega) ?_;exact cw ⟨j-1,by omega,i+1,by rw[bZ];rfl,by omega⟩
  ·refine ia (by decide) ?_;have e:i=l.length:=by omega
   rw[e];exact cw rfl
 rintro af rfl;try refine eK (by(try simp only[List.length_cons,List.length_nil,Nat.reduceAdd,Nat.zero_add]);rfl) (by(try simp only[dz]);rfl) ?_
 refine k9 rfl F4 ?_;refine Rw rfl (by omega) ?_;refine ez (λaf=>af=[.agg (dJ (l.map eV))]) ?_ ?_
 ·refine wp_loop (λj af=>∃(i:Nat)(M:List aX),af=[ax i,.agg (dJ M)]/\i+j=l.length/\M.length=l.length/\∀k,k<i->M.getD k default=eV (l.getD k default)) l.length (by omega) ⟨0,List.replicate l.length default,rfl,by omega,by simp,by simp⟩ ?_;rintro j af ⟨i,M,rfl,hi,e3,aq⟩;try refine eK (by(try simp only[List.length_cons,List.length_nil,Nat.reduceAdd,Nat.zero_add]);rfl) (by(try simp only[dz]);rfl) ?_
  refine Ii rfl ?_;refine hZ rfl rfl ?_;refine cK rfl (λbc=>?_) (λbc=>?_)
  ·have aU:i<l.length:=by omega
   have du:=m6 F4 aU;have ad:=e4.get aU;generalize cn:l.getD i default=r at ad du;refine wp _ du ?_;refine dr (aot 17 ad) rfl ?_;refine IL rfl rfl (by omega) ?_;refine eU (by simp only[ag,aD,aM,aS.aP,aR.aP,cF,nth,cM,List.getD_cons_succ,List.getD_cons_zero,aX.cells,a7.cells];rfl) rfl ?_;refine IM (r:=eV r) rfl rfl rfl (by omega) ?_;refine ie rfl rfl (by omega) ?_;refine cw ⟨j-1,by omega,i+1,M.set i (eV r),rfl,by omega,by simpa using e3,λk gx=>?_⟩;by_cases e:k=i
   ·subst e;have:k<M.length:=by omega
    rw[cn];simp[List.getD_eq_getElem?_getD,this]
   ·have:=aq k (by omega);simp only[List.getD_eq_getElem?_getD]at this⊢;rw[List.getElem?_set_ne (by omega)];exact this
  ·refine ia (by decide) ?_;have e:M=l.map eV:=List.ext_getElem (by simpa using e3) λk U ab=>by
    have al:k<l.length:=by simpa using ab
    have:=aq k (by omega);simpa[List.getD_eq_getElem?_getD,U,al]using this
   rw[e];exact cw rfl
 rintro af rfl;try refine eK (by(try simp only[List.length_cons,List.length_nil,Nat.reduceAdd,Nat.zero_add]);rfl) (by(try simp only[dz]);rfl) ?_
 refine nN (agf 15) rfl ?_;rintro v ⟨r,rfl,ad⟩;refine eU (cs:=r.cells) rfl rfl ?_;refine wp _ (ach (l:=l.map eV) (r:=r) (by decide) (by simp;omega)) ?_;refine Qz (l:=l.map eV++[r]) rfl ?_;have aoE:Hand slip (.sl none 3 0 (l.map eV++[r]).length (dJ (l.map eV++[r]))) (l.map eV++[r]):=⟨cc,vM,.inr ⟨0,rfl⟩,by simp,by simp;omega,λq aH=>by
  rcases List.mem_append.1 aH with aH|aH
  ·obtain⟨bR,ir,rfl⟩:=List.mem_map.1 aH;exact aci (fU bR ir)
  ·simp at aH;subst aH;exact ad⟩
 refine nN (am3 14 aoE ae) rfl ?_;rintro v ⟨y,rfl,aF⟩;have aK:hy slip (l.map eV++[r]) p (l.map eV++[r]).length=hy slip l p l.length++(if kn slip ((l.map eV++[r]).getD l.length default) p then[(l.length:Int)]else[]):=by rw[show(l.map eV++[r]).length=l.length+1 by simp,aaA,an0]
 rw[aK]at aF;have hlen:(hy slip l p l.length++(if kn slip ((l.map eV++[r]).getD l.length default) p then[(l.length:Int)]else[])).length<=(hy slip l p l.length).length+1:=by rw[List.length_append];split<;>simp
 have JB:(hy slip l p l.length++(if kn slip ((l.map eV++[r]).getD l.length default) p then[(l.length:Int)]else[])).take (hy slip l p l.length).length=hy slip l p l.length:=List.take_left' rfl;have h3:(hy slip l p l.length).length<=(hy slip l p l.length++(if kn slip ((l.map eV++[r]).getD l.length default) p then[(l.length:Int)]else[])).length:=by rw[List.length_append];omega
 generalize hy slip l p l.length++(if kn slip ((l.map eV++[r]).getD l.length default) p then[(l.length:Int)]else[])=M at *;generalize hy slip l p l.length=L at *;clear aK;refine pe (by simp only[ag,aD,aM,aS.aP,aR.aP,cF,nth,cM,List.getD_cons_succ,List.getD_cons_zero,aX.cells,a7.cells,ll];rfl) ?_;refine pe (by simp only[ag,aD,aM,aS.aP,aR.aP,cF,nth,cM,List.getD_cons_succ,List.getD_cons_zero,aX.cells,a7.cells,ll];rfl) ?_;refine ez (λaf=>af=[.bool true]) ?_ ?_
 ·refine ib rfl (by assumption) ?_;refine sM rfl rfl ?_;refine D4 rfl (by omega) ?_;refine sM rfl rfl ?_;refine D4 rfl (by omega) ?_;refine ib rfl (by assumption) ?_;refine Jl rfl rfl ?_;refine D4 rfl (by omega) ?_;refine ib rfl (by assumption) ?_;refine ie rfl rfl (by omega) ?_;refine A6 rfl rfl ?_;refine D4 rfl (by omega) ?_;obtain⟨z,bO,rI⟩:=aod aF h3;rw[JB]at rI;refine wp _ bO ?_;refine dr (Ki 18 rI aj (by omega)) rfl ?_;refine El rfl ?_;refine dr (w:=.bool true) (λω=>⟨_,Qu ω,rfl⟩) rfl ?_;exact cw rfl
 rintro af rfl;exact wp_ret rfl rfl rfl
theorem aou:∀bz,qu Tryz.prog 6 Tryz.f5.params.toList bz->∀ω,E Tryz.prog 20 ω 5 bz=some (.bool true):=by
 intro bz h ω;rw[show Tryz.f5.params.toList=[22]by kernel_rfl]at h;obtain⟨d,_,rfl,aV,h⟩:=D2 h;have aT:=ace h;subst aT;obtain⟨U,ab,_⟩:=XJ aV;obtain⟨v,ai,rfl⟩:=aoC U ab ω;exact ai
end
end Go.Proofs.YtlminnpaeaganaaGreat
