/- Part of the proof of RuleBeside. No condition. -/
import Derived.Test.YtlminnpaeaganaaGreatMBesideAG
import Derived.Test.YtlminnpaeaganaaGreatMBesideAW
namespace Go.Proofs.YtlminnpaeaganaaGreat
set_option maxRecDepth 100000
set_option linter.all false
section
open Go Go.RowKit
theorem m6{b3:aa}{l:List aX}(h:mQ b3 l){n:Nat}(aI:n<l.length):kp 3 b3 (ax n)=some (.agg (l.getD n default).cells):=by
 have:=agh h (i:=(n:Int)) (k:=.i64) (by omega) (by omega);simpa only[Int.toNat_natCast]using this
theorem tc{x:aa}{l:List Int}(h:dI x l){n:Nat}(aI:n<l.length):kp 1 x (ax n)=some (.agg [ax (l.getD n 0)]):=by
 have:=Fu h (i:=(n:Int)) (k:=.i64) (by omega) (by omega);simpa only[Int.toNat_natCast]using this
def aiq(slip:Int)(ps:List Int)(r:aX):Nat->List Int
 |0=>[]
 |i+1=>aiq slip ps r i++if(blk slip ps (ps.getD i 0) r r.lines.toNat).length=0 then[(i:Int)]else[]
theorem S8(k:Nat){x:aa}{l:List Int}(aj:dI x l)(ak:l.length<4000)(a:Int):dT (k+1) 17 [x,ax a] λv=>∃i,v=ax i/\(0<=i↔a∈l):=by
 refine lO (t:=t17) (by kernel_rfl) (fn:=Tryz.f17) (by kernel_rfl) (by simp[dd,flagsOf,aj.plain]) ?_;simp only[t17,ag,aD,aM];refine hY (λaf=>∃i:Nat,af=[ax i]/\((i<l.length/\a∈l)\/(i=l.length/\a∉l))) ?_ ?_
 ·refine o7 (λj af=>∃i:Nat,af=[ax i]/\i+j=l.length/\a∉l.take i) l.length (by omega) ⟨0,rfl,by omega,by simp⟩ ?_;rintro j af ⟨i,rfl,hi,hb⟩;refine hY (λaf=>(af=[.bool true]/\i<l.length/\l.getD i 0≠a)\/(af=[.bool false]/\((i<l.length/\a∈l)\/(i=l.length/\a∉l)))) ?_ ?_
  ·simp[aj.len];refine gR (λh=>?_) (λh=>?_)<;>simp at h
   ·have aU:i<l.length:=by omega
    refine⟨_,tc aj aU,?_⟩;by_cases e:l.getD i 0=a
    ·have hm:l.getD i 0∈l:=by simp[List.getD_eq_getElem?_getD,aU]
     rw[e]at hm;simp at e;simp[e,aU,hm];omega
    ·simp at e;simp[e,aU];left;simpa[aU]using e
   ·have e:l.take i=l:=List.take_of_length_le (by omega);rw[e]at hb;have:i=l.length:=by omega
    simp[this,hb]
  ·rintro af (⟨rfl,aU,bU⟩|⟨rfl,bq⟩)
   ·simp[wrap64 (n:=(i:Int)+1) (by omega) (by omega)];refine⟨j-1,by omega,i+1,by simp,by omega,?_⟩;rw[List.take_add_one];intro ae;rcases List.mem_append.1 ae with U|U
    ·exact hb U
    ·simp[aU]at U bU;exact bU U.symm
   ·simp[fV];exact⟨i,rfl,bq⟩
 ·rintro af ⟨i,rfl,(⟨aU,hm⟩|⟨he,hm⟩)⟩
  ·have:¬((i:Int)=l.length):=by omega
   simp[aj.len,this,hm]
  ·simp[aj.len,he,hm]
structure vN(l:List Int)(a:Int):Prop where
 len:l.length<=16
 tN:∀p∈l,0<=p/\p<a
 Ch:∀i,i+1<l.length->l.getD i 0<l.getD (i+1) 0
theorem vN.up{l:List Int}{a b:Int}(h:vN l a)(hb:a<=b):vN l b:=⟨h.len,λp ae=>by have:=h.tN p ae;omega,h.Ch⟩
theorem vN.push{l:List Int}{a b:Int}(h:vN l a)(aT:0<=a)(ak:l.length<16)(hb:a<b):vN (l++[a]) b:=by
 refine⟨by simp;omega,λp ae=>?_,λi hi=>?_⟩
 ·rcases List.mem_append.1 ae with bc|bc
  ·have:=h.tN p bc;omega
  ·simp at bc;omega
 ·simp at hi;have g0:∀i,i<l.length->(l++[a]).getD i 0=l.getD i 0:=λi hi=>by simp[List.getD_eq_getElem?_getD,List.getElem?_append_left hi]
  rw[g0 i (by omega)];by_cases bq:i+1<l.length
  ·rw[g0 _ bq];exact h.Ch i bq
  ·have e:i+1=l.length:=by omega
   have aO:(l++[a]).getD (i+1) 0=a:=by simp[e]
   rw[aO];exact(h.tN _ (by have:i<l.length:=(by omega);simp[List.getD_eq_getElem?_getD,this])).2
theorem vN.Vi{l:List Int}{a:Int}(h:vN l a)(au:a<=301):z6 l:=⟨h.len,λp ae=>by have:=h.tN p ae;omega,h.Ch⟩
end
section
open Go Go.RowKit
theorem Qu(ω:b2):E Tryz.prog 19 ω 20 []=some (.bool true):=by kernel_rfl
end
section
open Go Go.RowKit
theorem XJ{q:aa}(h:l4 Tryz.prog 6 22 q):wY q=true/\q.plain=true/\q.one=true:=by
 have au:ik Tryz.prog 22≠some true:=by
  have:(match ik Tryz.prog 22 with|some true=>false|_=>true)=true:=by kernel_rfl
  intro e;rw[e]at this;cases this
 have bc:∃dF,q=dF/\qg Tryz.prog 6 22 [dF]:=by
  unfold l4 at h;split at h
  ·exact absurd (by assumption) au
  ·exact h
 obtain⟨dF,rfl,ah⟩:=bc;have ae:=Ar _ _ _ ah;unfold qg at ah;rw[Kl]at ah;simp only at ah;rcases ah with ah|⟨off,ls,ah,_,ak⟩
 ·injection ah with ah;subst ah;exact⟨rfl,rfl,rfl⟩
 ·injection ah with ah;subst ah;have al:Tryz.prog.cellsOf 3=1:=by kernel_rfl
  have hi:∀l∈ls,∃n,l=[ax n]:=by
   intro l hm;have:=(ak l hm).1;unfold qg at this;rw[JM]at this;obtain⟨n,aI,_⟩:=this;exact⟨n,aI⟩
  refine⟨?_,by simpa[bG]using ae,rfl⟩;rw[al];simp only[wY,Bool.and_eq_true,decide_eq_true_eq,List.all_eq_true];refine⟨?_,λc ah=>?_⟩
  ·rw[MT (n:=1) (λl hm=>by obtain⟨n,rfl⟩:=hi l hm;rfl),Nat.mul_one]
  ·obtain⟨l,hm,iu⟩:=List.mem_flatten.1 ah;obtain⟨n,rfl⟩:=hi l hm;simp at iu;subst iu;rfl
theorem z6.push{l:List Int}{a:Int}(h:z6 l)(ak:l.length<16)(aT:0<=a)(U:a<=300)(Sj:0<l.length->l.getD (l.length-1) 0<a):z6 (l++[a]):=by
 refine⟨by simp;omega,λp ae=>?_,λi hi=>?_⟩
 ·rcases List.mem_append.1 ae with bc|bc
  ·exact h.tN p bc
  ·simp at bc;omega
 ·simp at hi;have g0:∀i,i<l.length->(l++[a]).getD i 0=l.getD i 0:=λi hi=>by simp[List.getD_eq_getElem?_getD,List.getElem?_append_left hi]
  rw[g0 i (by omega)];by_cases bq:i+1<l.length
  ·rw[g0 _ bq];exact h.Ch i bq
  ·have e:i+1=l.length:=by omega
   have aO:(l++[a]).getD (i+1) 0=a:=by simp[e]
   rw[aO,show i=l.length-1 by omega];exact Sj (by omega)
theorem Ru{n:Nat}(aI:n<1000000):tL [ax 0] 8 (ax n)=some (.agg ((List.replicate n (0:Int)).map ax)):=by
 have e:∀n:Nat,e8 [ax 0] n=(List.replicate n (0:Int)).map ax:=by
  intro n;induction n with
  |zero=>rfl
  |succ n az=>simp[e8,az,List.replicate_succ]
 simp only[tL,e,Int.toNat_natCast];rw[if_pos (by omega)]
theorem yG{l:List Int}{i:Nat}{a:Int}(hi:i<l.length):vd 1 0 (.agg (l.map ax)) (ax i) [ax a]=some (.agg ((l.set i a).map ax)):=by
 have e:fa (l.map ax) (i*1+0) [ax a]=(l.set i a).map ax:=by
  rw[List.set_eq_take_append_cons_drop,if_pos hi];simp[fa,List.map_take,List.map_drop]
 simp only[vd,Int.toNat_natCast];rw[if_pos (by simp;omega),e]
end
section
open Go Go.RowKit
theorem kN{C:mR}{n k:Nat}{R:Out->Prop}{ρ:List aa}{g:FuncId}{args:List aa}{es:List aS}{t:Tree}{Q:aa->Prop}(h:ks C k g args Q)(e:ep ρ es=args)(gJ:∀v,Q v->bN Tryz.prog (C k) n t (ρ++[v]) R):bN Tryz.prog (C k) n (.call g es t) ρ R:=gb (by rw[e];exact h) gJ
theorem aaE{α:Type}[Inhabited α]{f:α->List aa}{n:Nat}(aQ:∀a,(f a).length=n):∀(l:List α)(j:Nat),j<l.length->((l.flatMap f).drop (j*n)).take n=f (l.getD j default):=by
 intro l;induction l with
 |nil=>intro j aC;simp at aC
 |cons r l az=>
  intro j aC;cases j with
  |zero=>
   simp only[List.flatMap_cons,Nat.zero_mul,List.drop_zero,List.getD_cons_zero];rw[←aQ r,List.take_left]
  |succ j=>
   rw[List.flatMap_cons,show(j+1)*n=(f r).length+j*n by rw[aQ,Nat.add_mul];omega,List.drop_length_add_append];simpa using az j (by simpa using aC)
structure a7 where
 k6:aa
 g:List Int
 up:Int
 aP:Int
 wd:Int
 fr:Bool
instance:Inhabited a7:=⟨⟨.bC,[],0,0,0,false⟩⟩
def a7.cells(p:a7):List aa:=[p.k6,ax p.up,ax p.aP,ax p.wd,.bool p.fr]
structure a7.ok(p:a7):Prop where
 c5:dI p.k6 p.g
 pR:p.g.length<=5
 gs:∀x∈p.g,1<=x/\x<=30
 ud:0<=p.up
 j7:p.up<=30
 d0:0<=p.aP
 d1:p.aP<=30
 c9:0<=p.wd
 w1:p.wd<=60
theorem a7.ok.get{p:a7}(h:p.ok){i:Nat}(hi:i<p.g.length):1<=p.g.getD i 0/\p.g.getD i 0<=30:=h.gs _ (by simp[List.getD_eq_getElem?_getD,hi])
theorem Uq(k:Nat){p:a7}(h:p.ok):dT (k+2) 99 [.agg p.cells] λv=>v=ax 0:=by
 refine lO (t:=t99) (by kernel_rfl) (fn:=Tryz.f99) (by kernel_rfl) (by simp[dd,flagsOf,a7.cells,h.c5.plain]) ?_;have U:=h.pR;simp[t99,ag,aD,aM,a7.cells,h.c5.len];refine gR (λh=>?_) (λh=>?_)<;>simp at h
 ·omega
 ·rename_i bq;refine hY (λaf=>af=[]) ?_ ?_
  ·refine o7 (λj af=>∃i:Nat,af=[ax i]/\i+j=p.g.length) p.g.length (by omega) ⟨0,rfl,by omega⟩ ?_;rintro j af ⟨i,rfl,hi⟩;simp;refine gR (λh=>?_) (λh=>?_)<;>simp at h
   ·have aU:i<p.g.length:=by omega
    have ao:=bq.get aU;refine⟨_,tc bq.c5 aU,?_⟩;refine gb (agj k _ _ _) ?_;rintro v rfl;simp at ao;simp[ao,wrap64 (n:=(i:Int)+1) (by omega) (by omega)];exact⟨j-1,by omega,i+1,by simp,by omega⟩
   ·simp[fV]
  ·rintro af rfl;simp;refine hY (λaf=>af=[.bool false]) ?_ ?_
   ·have:=bq.ud;have:=bq.j7;have:=bq.d0;have:=bq.d1;have:=bq.c9;have:=bq.w1;refine gb (agj k _ _ _) ?_;rintro v rfl;simp[*];refine gb (agj k _ _ _) ?_;rintro v rfl;simp[*];refine gb (agj k _ _ _) ?_;rintro v rfl;simp[*]
   ·rintro af rfl;simp
def uM(l:List a7):List aa:=l.flatMap a7.cells
theorem N3{l:List a7}(h:∀p∈l,p.ok):bG (uM l)=true:=by
 induction l with
 |nil=>rfl
 |cons p l az=>
  have:uM (p::l)=p.cells++uM l:=by simp[uM]
  rw[this];simp[a7.cells,(h p (by simp)).c5.plain,az λx aj=>h x (by simp[aj])]
theorem agn{l:List a7}{off n:Nat}(aI:n<l.length):kp 5 (.sl none 5 off l.length (uM l)) (ax n)=some (.agg (l.getD n default).cells):=by
 have e:=aaE (f:=a7.cells) (n:=5) (λ_=>rfl) l n aI;simp only[kp,uM,Int.toNat_natCast];rw[if_pos ⟨by omega,by omega,trivial,by rw[e];rfl⟩,e]
theorem Jm(k:Nat){slip:Int}{b3:aa}{l:List aX}(h:Hand slip b3 l){x:aa}{ns:List Int}(aj:dI x ns)(aI:∀n∈ns,0<=n/\n<l.length)(ak:ns.length<4000){ps:List a7}(ae:∀p∈ps,p.ok)(cD:ps.length<4000):dT (k+4) 56 [.agg [ax slip,b3],x,.sl none 5 0 ps.length (uM ps)] λv=>v=.bD [.agg [ax slip,b3],ax 0]:=by
 refine lO (t:=t56) (by kernel_rfl) (fn:=Tryz.f56) (by kernel_rfl) (by simp[dd,flagsOf,h.plain,aj.plain,N3 ae]) ?_;have al:=h.fY;have aJ:=h.fI;simp[t56,ag,aD,aM];refine gb (TM k h) ?_;rintro v rfl;simp[aj.len];refine hY (λaf=>af=[]) ?_ ?_
 ·refine o7 (λj af=>∃i:Nat,af=[ax i]/\i+j=ns.length) ns.length (by omega) ⟨0,rfl,by omega⟩ ?_;rintro j af ⟨i,rfl,hi⟩;simp;refine gR (λh=>?_) (λh=>?_)<;>simp at h
  ·rename_i bq;have aU:i<ns.length:=by omega
   have ao:=aI (ns.getD i 0) (by simp[List.getD_eq_getElem?_getD,aU]);refine⟨_,Fu aj (i:=(i:Int)) (by omega) (by omega),?_⟩;simp[bq.gS.len,wrap64 (n:=(l.length:Int)-1) (by omega) (by omega)];refine gb (agj (k+2) _ _ _) ?_;rintro v rfl;simp[List.getD_eq_getElem?_getD,aU]at ao;have aK:ns[i]<=(l.length:Int)-1:=by omega
   simp[List.getD_eq_getElem?_getD,aU,ao,aK,wrap64 (n:=(i:Int)+1) (by omega) (by omega)];exact⟨j-1,by omega,i+1,by simp,by omega⟩
  ·simp[fV]
 ·rintro af rfl;have WB:ht Tryz.prog 47 (.sl none 5 0 ps.length (uM ps))=some (ax ps.length):=by obtain⟨e,he⟩:=agk;simp[ht,he]
  simp[WB];refine hY (λaf=>af=[]) ?_ ?_
  ·refine o7 (λj af=>∃i:Nat,af=[ax i]/\i+j=ps.length) ps.length (by omega) ⟨0,rfl,by omega⟩ ?_;rintro j af ⟨i,rfl,hi⟩;simp;refine gR (λh=>?_) (λh=>?_)<;>simp at h
   ·have aU:i<ps.length:=by omega
    have ao:=ae (ps.getD i default) (by simp[List.getD_eq_getElem?_getD,aU]);refine⟨_,agn aU,?_⟩;simp[a7.cells];refine kN (Q:=λv=>v=ax 0) (Uq (k+1) ao) (by simp[a7.cells]) ?_;rintro v rfl;simp[wrap64 (n:=(i:Int)+1) (by omega) (by omega)];exact⟨j-1,by omega,i+1,by simp,by omega⟩
   ·simp[fV]
  ·rintro af rfl;simp[h.plain]
def nr(slip a b:Int):Bool:=decide (a-b<=slip)&&decide (b-a<=slip)
def x3(slip a b:Int):Bool:=decide (a-slip<b)
theorem JN{C:mR}[oX C](k:Nat){slip m r:Int}(h:-1000000<=m/\m<=1000000/\0<=slip/\slip<=1000000):ks C (k+1) 122 [ax m,ax r,uc [ax slip]] λv=>v=.bool (x3 slip m r):=by
 refine sU (t:=t122) (by kernel_rfl) (by kernel_rfl) (fn:=Tryz.f122) (by kernel_rfl) rfl ?_;simp[t122,ag,aD,aM,wrap64 (n:=m-slip) (by omega) (by omega),x3]
theorem SD{C:mR}[oX C](k:Nat)(i:Nat):ks C (k+1) 123 [.int .u8 0,ax i] λv=>v=.bool false:=by
 refine sU (t:=t123) (by kernel_rfl) (by kernel_rfl) (fn:=Tryz.f123) (by kernel_rfl) rfl ?_;have gH:bits .and .u8 0 1=0:=by decide
 simp[t123,ag,aD,aM,eB,gH]
def Ci(slip:Int)(r:aX)(p:a7)(line:Nat):Bool:=(List.range p.g.length).all λk=>nr slip (p.g.getD k 0) (dp r (line+k))
def pG(slip:Int)(r:aX)(p:a7)(line:Nat):Bool:=decide (0<line)&&!x3 slip p.up (dp r (line-1))
def sf(slip:Int)(r:aX)(p:a7)(line:Nat):Bool:=decide (((line+p.g.length:Nat):Int)<r.lines-1)&&!x3 slip p.aP (dp r (line+p.g.length))
def sg(slip:Int)(r:aX)(p:a7):Bool:=decide (p.wd=0)||nr slip p.wd r.width
def ln(slip:Int)(r:aX)(p:a7)(line:Nat):Bool:=decide (((line+p.g.length:Nat):Int)<=r.lines-1)&&(Ci slip r p line&&(!(pG slip r p line||sf slip r p line)&&sg slip r p))
theorem SE{C:mR}[oX C](k:Nat){slip:Int}(aT:0<=slip)(U:slip<=3){r:aX}(ad:r.ok){p:a7}(ae:p.ok){line:Nat}(ak:line<100):ks C (k+2) 130 [.agg (GG slip),.agg r.cells,.agg p.cells,ax line,.int .u8 0] λv=>v=.bool (ln slip r p line):=by
 refine sU (t:=t130) (by kernel_rfl) (by kernel_rfl) (fn:=Tryz.f130) (by kernel_rfl) (by simp[dd,flagsOf,a7.cells,ae.c5.plain,aX.cells,ad.c5.plain]) ?_;have g5:=ae.pR;have hn:=ad.hn;have k5:=ad.k5;have w1:=ad.w1;have w2:=ad.w2;have gr:=ae.ud;have p2:=ae.j7;have p3:=ae.d0;have p4:=ae.d1;have CI:=ae.c9;have vH:=ae.w1;have bh:=Jh ad;have Tt:=λ(a b:Int)(h:-1000000<=a/\a<=1000000/\-1000000<=b/\b<=1000000)=>aeR (C:=C) k (slip:=slip) h;have hlen:=ae.c5.len;have du:=λ(i:Nat)(hi:i<p.g.length)=>tc ae.c5 hi;simp[t130,ag,aD,aM,a7.cells,aX.cells,ae.c5.len,wrap64 (n:=(line:Int)+p.g.length) (by omega) (by omega),wrap64 (n:=r.lines-1) (by omega) (by omega)];refine hY (λaf=>af=[.bool (decide (r.lines-1<(line:Int)+p.g.length))]) ?_ ?_
 ·have:¬((line:Int)<0):=by omega
  simp[this,wrap64 (n:=r.lines-1) (by omega) (by omega)]
 rintro af rfl;simp;refine gR (λh=>?_) (λh=>?_)<;>simp at h
 ·have:¬((line:Int)+p.g.length<=r.lines-1):=by omega
  simp[ln,this]
 ·have hle:((line+p.g.length:Nat):Int)<=r.lines-1:=by omega
  simp[ae.c5.len];refine hY (λaf=>af=[]/\Ci slip r p line=true) ?_ ?_
  ·refine o7 (λj af=>∃i:Nat,af=[ax i]/\i+j=p.g.length/\∀k,k<i->nr slip (p.g.getD k 0) (dp r (line+k))=true) p.g.length (by omega) ⟨0,rfl,by omega,by simp⟩ ?_;rintro j af ⟨i,rfl,hi,hb⟩;simp;refine gR (λh=>?_) (λh=>?_)<;>simp at h
   ·have aU:i<p.g.length:=by omega
    have aN:=ae.get aU;have ao:=bh (line+i);refine⟨_,du i aU,?_⟩;refine hY (λaf=>af=[.bool (!nr slip (p.g.getD i 0) (dp r (line+i)))]) ?_ ?_
    ·refine gb (SD (C:=C) (k+0) i) ?_;rintro v rfl;simp only[dk];refine⟨.bool true,by simp,?_⟩;simp only[run_ite,aR.den,List.cons_append,List.nil_append,List.getD_cons_succ,List.getD_cons_zero,hV,Ig,dk];refine⟨ax ((line+i:Nat):Int),by simp[wrap64 (n:=(line:Int)+i) (by omega) (by omega)],?_⟩;refine kN (Q:=λv=>v=ax (dp r (line+i))) (Fw (C:=C) k ad (line+i)) (by simp[aX.cells]) ?_;rintro v rfl;refine AD (g:=121) (caps:=[uc [ax slip]]) (by simp) (Tt (p.g.getD i 0) (dp r (line+i)) (by omega)) ?_;rintro v rfl;simp[nr]
    ·rintro af rfl;simp;refine gR (λbc=>?_) (λbc=>?_)<;>simp at bc
     ·have:Ci slip r p line=false:=by
       refine Bool.eq_false_iff.2 λah=>?_;have:=List.all_eq_true.1 ah i (by simpa using aU);simp[bc]at this
      simp[ln,this]
     ·simp[wrap64 (n:=(i:Int)+1) (by omega) (by omega)];refine⟨j-1,by omega,i+1,by simp,by omega,λk aq=>?_⟩;by_cases e:k=i
      ·subst e;simpa using bc
      ·have:=hb k (by omega);simpa using this
   ·simp[fV];refine List.all_eq_true.2 λk aq=>hb k ?_;simp at aq;omega
  rintro af ⟨rfl,aN⟩;refine hY (λaf=>af=[.bool (pG slip r p line||sf slip r p line)]) ?_ ?_
  ·simp only[dk];refine⟨.bool (decide (0<line)),by simp,?_⟩;simp only[run_ite,aR.den,List.cons_append,List.nil_append,List.getD_cons_succ,List.getD_cons_zero,hV];refine gR (λab=>?_) (λab=>?_)<;>simp only[decide_eq_true_eq,decide_eq_false_iff_not]at ab
   ·simp only[dk];refine⟨ax ((line-1:Nat):Int),by have e:(line:Int)-1=((line-1:Nat):Int):=(by omega);simp[e,wrap64 (n:=((line-1:Nat):Int)) (by omega) (by omega)],?_⟩;refine kN (Q:=λv=>v=ax (dp r (line-1))) (Fw (C:=C) k ad (line-1)) (by simp[aX.cells]) ?_;rintro v rfl;refine AD (g:=122) (caps:=[uc [ax slip]]) (by simp) (JN (C:=C) k (slip:=slip) (m:=p.up) (r:=dp r (line-1)) (by omega)) ?_;rintro v rfl;simp only[dk];refine⟨.bool (!x3 slip p.up (dp r (line-1))),by simp,?_⟩;simp only[run_ite,aR.den,List.cons_append,List.nil_append,List.getD_cons_succ,List.getD_cons_zero,hV];refine gR (λaJ=>?_) (λaJ=>?_)
    ·have hu:pG slip r p line=true:=by simp[pG,ab];simpa using aJ
     simp[hu]
    ·have hu:pG slip r p line=false:=by simp[pG,ab];simpa using aJ
     simp only[dk];refine⟨ax (r.lines-1),by simp[wrap64 (n:=r.lines-1) (by omega) (by omega)],.bool (decide (((line+p.g.length:Nat):Int)<r.lines-1)),by simp,?_⟩;simp only[run_ite,aR.den,List.cons_append,List.nil_append,List.getD_cons_succ,List.getD_cons_zero,hV];refine gR (λal=>?_) (λal=>?_)<;>simp only[decide_eq_true_eq,decide_eq_false_iff_not]at al
     ·refine kN (Q:=λv=>v=ax (dp r (line+p.g.length))) (Fw (C:=C) k ad (line+p.g.length)) (by simp[aX.cells]) ?_;rintro v rfl;refine AD (g:=122) (caps:=[uc [ax slip]]) (by simp) (JN (C:=C) k (slip:=slip) (m:=p.aP) (r:=dp r (line+p.g.length)) (by omega)) ?_;rintro v rfl;have od:(line:Int)+p.g.length<r.lines-1:=by omega
      simp[hu,sf,od]
     ·have od:¬((line:Int)+p.g.length<r.lines-1):=by omega
      simp[hu,sf,od]
   ·have hu:pG slip r p line=false:=by simp[pG,ab]
    simp only[dk];refine⟨ax (r.lines-1),by simp[wrap64 (n:=r.lines-1) (by omega) (by omega)],.bool (decide (((line+p.g.length:Nat):Int)<r.lines-1)),by simp,?_⟩;simp only[run_ite,aR.den,List.cons_append,List.nil_append,List.getD_cons_succ,List.getD_cons_zero,hV];refine gR (λal=>?_) (λal=>?_)<;>simp only[decide_eq_true_eq,decide_eq_false_iff_not]at al
    ·refine kN (Q:=λv=>v=ax (dp r (line+p.g.length))) (Fw (C:=C) k ad (line+p.g.length)) (by simp[aX.cells]) ?_;rintro v rfl;refine AD (g:=122) (caps:=[uc [ax slip]]) (by simp) (JN (C:=C) k (slip:=slip) (m:=p.aP) (r:=dp r (line+p.g.length)) (by omega)) ?_;rintro v rfl;have od:(line:Int)+p.g.length<r.lines-1:=by omega
     simp[hu,sf,od]
    ·have od:¬((line:Int)+p.g.length<r.lines-1):=by omega
     simp[hu,sf,od]
  rintro af rfl;simp only[run_ite,aR.den,List.cons_append,List.nil_append,List.getD_cons_succ,List.getD_cons_zero,hV];refine gR (λab=>?_) (λab=>?_)
  ·simp[ln,aN,ab]
  ·refine hY (λaf=>af=[.bool (sg slip r p)]) ?_ ?_
   ·simp only[dk];refine⟨.bool (decide (p.wd=0)),by simp,?_⟩;simp only[run_ite,aR.den,List.cons_append,List.nil_append,List.getD_cons_succ,List.getD_cons_zero,hV];refine gR (λal=>?_) (λal=>?_)<;>simp only[decide_eq_true_eq,decide_eq_false_iff_not]at al
    ·simp[sg,al]
    ·refine AD (g:=121) (caps:=[uc [ax slip]]) (by simp) (Tt p.wd r.width (by omega)) ?_;rintro v rfl;simp[sg,al,nr]
   ·rintro af rfl;have ha:(pG slip r p line||sf slip r p line)=false:=ab;have Ta:(line:Int)+p.g.length<=r.lines-1:=by omega
    simp;rw[ln,ha,aN];simp[Ta]
end
section
open Go Go.RowKit
theorem Tu:Tryz.prog.underlying 22=some (.slice 3):=by kernel_rfl
theorem aeS{C:mR}[oX C](k:Nat){x:aa}{l:List Int}(aj:dI x l)(ak:l.length<1000000):ks C (k+1) 163 [x] λv=>(v=.bC/\l=[])\/v=.sl none 1 0 l.length (l.map ax):=by
 refine sU (t:=t163) (by kernel_rfl) (by kernel_rfl) (fn:=Tryz.f163) (by kernel_rfl) (by simp[dd,flagsOf,aj.plain]) ?_;rcases aj with⟨rfl,rfl⟩|⟨off,rfl⟩
 ·simp[t163,ag,aD,aM,eB,Tu]
 ·have ae:=uj l;have hb:l.length*8<=140737488355328/\l.length<=9223372036854775807:=by omega
  simp[t163,ag,aD,aM,eB,Tu,iU,isNil,hb,ae]
def half(p:a7):a7:=⟨p.k6,p.g.reverse,p.aP,p.up,p.wd,p.fr⟩
theorem aeT{C:mR}[oX C](k:Nat){p:a7}(ae:p.ok):ks C (k+2) 131 [.agg p.cells] λv=>∃q:aa,v=.agg [q,ax p.aP,ax p.up,ax p.wd,.bool p.fr]/\dI q p.g.reverse:=by
 refine sU (t:=t131) (by kernel_rfl) (by kernel_rfl) (fn:=Tryz.f131) (by kernel_rfl) (by simp[dd,flagsOf,a7.cells,ae.c5.plain]) ?_;have g5:=ae.pR;simp only[t131,ag,aD,aM,dk];refine⟨.agg p.cells,by simp[a7.cells],?_⟩;refine kN (Q:=λv=>(v=.bC/\p.g=[])\/v=.sl none 1 0 p.g.length (p.g.map ax)) (aeS (C:=C) k ae.c5 (by omega)) (by simp[a7.cells]) ?_;intro y aF;simp only[dk];generalize aI:p.g.length=n at *;refine⟨.agg (p.g.map ax),?_,.bool (match y with | .bC=>true|_=>false),?_,ax n,by simp[aI],ax ((n:Int)-1),by simp[wrap64 (n:=(n:Int)-1) (by omega) (by omega)],?_⟩
 ·rcases aF with⟨rfl,h⟩|rfl
  ·simp[po,h]
  ·simp[po,aI]
 ·rcases aF with⟨rfl,h⟩|rfl<;>simp[EI]
 refine hY (λaf=>af=[.agg (p.g.reverse.map ax)]) ?_ ?_
 ·refine o7 (λj af=>∃(i:Nat)(L:List Int),af=[ax i,ax ((n:Int)-1-i),.agg (L.map ax)]/\i+j=n/\L.length=n/\∀k,k<n->L.getD k 0=if k<i\/n<k+1+i then p.g.getD (n-1-k) 0 else p.g.getD k 0) n (by omega) ⟨0,p.g,by simp,by omega,aI,λk aq=>by rw[if_neg (by omega)]⟩ ?_;rintro j af ⟨i,L,rfl,hi,dg,aq⟩;simp only[dk];refine⟨.bool (decide ((i:Int)<(n:Int)-1-i)),by simp,?_⟩;simp only[run_ite,aR.den,List.cons_append,List.nil_append,List.getD_cons_succ,List.getD_cons_zero,hV];refine gR (λh=>?_) (λh=>?_)<;>simp only[decide_eq_true_eq,decide_eq_false_iff_not]at h
  ·have ajs:((n:Int)-1-i)=((n-1-i:Nat):Int):=by omega
   rw[ajs];have CQ:=II (l:=L) (i:=(i:Int)) (by omega) (by omega);have Vj:=II (l:=L) (i:=((n-1-i:Nat):Int)) (by omega) (by omega);rw[Int.toNat_natCast]at CQ Vj;simp only[dk];refine⟨ax ((n-1-i:Nat):Int),wu (l:=L) (by omega) (by omega),.agg [ax (L.getD (n-1-i) 0)],Vj,ax i,wu (l:=L) (by omega) (by omega),.agg [ax (L.getD i 0)],CQ,ax i,wu (l:=L) (by omega) (by omega),.agg ((L.set i (L.getD (n-1-i) 0)).map ax),yG (by omega),ax ((n-1-i:Nat):Int),wu (l:=L.set i (L.getD (n-1-i) 0)) (by omega) (by simp;omega),.agg (((L.set i (L.getD (n-1-i) 0)).set (n-1-i) (L.getD i 0)).map ax),yG (by simp;omega),ax ((i+1:Nat):Int),by simp[wrap64 (n:=(i:Int)+1) (by omega) (by omega)],ax ((n:Int)-1-(i+1:Nat)),?_,?_⟩
   ·have:((n-1-i:Nat):Int)-1=(n:Int)-1-(i+1:Nat):=by omega
    simp only[Prim.run,aS.den,aR.den,List.cons_append,List.nil_append,List.getD_cons_succ,List.getD_cons_zero,Pl,this];rw[wrap64 (by omega) (by omega)]
   ·simp only[kG,mj];refine⟨j-1,by omega,i+1,(L.set i (L.getD (n-1-i) 0)).set (n-1-i) (L.getD i 0),by simp,by omega,by simpa using dg,λk gx=>?_⟩;have U:=aq i (by omega);have ab:=aq (n-1-i) (by omega);rw[if_neg (by omega)]at U ab;by_cases aK:k=n-1-i
    ·rw[if_pos (by omega)];have:n-1-k=i:=by omega
     rw[this,←U];subst aK;simp only[List.getD_eq_getElem?_getD];rw[List.getElem?_set_self (by simp;omega)];rfl
    ·by_cases aO:k=i
     ·rw[if_pos (by omega)];rw[aO,←ab];simp only[List.getD_eq_getElem?_getD];rw[List.getElem?_set_ne (by omega),List.getElem?_set_self (by omega)];rfl
     ·have al:=aq k gx;simp only[List.getD_eq_getElem?_getD]at al⊢;rw[List.getElem?_set_ne (by omega),List.getElem?_set_ne (by omega),al];by_cases c:k<i\/n<k+1+i
      ·rw[if_pos c,if_pos (by omega)]
      ·rw[if_neg c,if_neg (by omega)]
  ·have e:L=p.g.reverse:=List.ext_getElem (by simp[dg,aI]) λk U ab=>by
    have al:=aq k (by omega);have aJ:k<p.g.length:=by omega
    have bm:n-1-k<p.g.length:=by omega
    rw[List.getElem_reverse];simp only[aI];simp only[List.getD_eq_getElem?_getD,List.getElem?_eq_getElem U,List.getElem?_eq_getElem aJ,List.getElem?_eq_getElem bm,Option.getD_some]at al;rw[al];by_cases c:k<i\/n<k+1+i
    ·rw[if_pos c]
    ·have:n-1-k=k:=by omega
     rw[if_neg c];simp only[this]
   simp[fV,e]
 ·rintro af rfl;simp only[dk];rcases aF with⟨rfl,h⟩|rfl
  ·refine⟨.bC,by simp[iU,isNil,h],?_⟩;simp[h,dI,a7.cells]
  ·have cD:=uj p.g.reverse;refine⟨.sl none 1 0 n (p.g.reverse.map ax),by simp[iU,isNil,aI],?_⟩;simp only[uE];refine⟨_,rfl,?_,.sl none 1 0 n (p.g.reverse.map ax),by simp[a7.cells],.inr ⟨0,by simp[aI]⟩⟩;simp at cD;simp[cD,a7.cells]
def gW(l:List (Nat×Bool)):List aa:=l.flatMap λs=>[ax s.1,.bool s.2]
theorem aol(k l:List (Nat×Bool)):gW (k++l)=gW k++gW l:=by simp[gW]
theorem anJ(l:List (Nat×Bool)):(gW l).length=l.length*2:=by
 induction l with
 |nil=>rfl
 |cons s l az=>have:gW (s::l)=[ax s.1,.bool s.2]++gW l:=(by simp[gW]);rw[this,List.length_append,az];simp;omega
theorem Wj(l:List (Nat×Bool)):bG (gW l)=true:=by
 induction l with
 |nil=>rfl
 |cons s l az=>have:gW (s::l)=[ax s.1,.bool s.2]++gW l:=(by simp[gW]);rw[this];simp[az]
def vO(x:aa)(l:List (Nat×Bool)):Prop:=(x=.bC/\l=[])\/∃off,x=.sl none 2 off l.length (gW l)
theorem vO.plain{x:aa}{l:List (Nat×Bool)}(h:vO x l):x.plain=true/\x.one=true:=by
 rcases h with⟨rfl,_⟩|⟨off,rfl⟩
 ·simp
 ·simp[Wj]
def Fx(l:List (Nat×Bool)):aa:=match l with
 |[]=>.bC
 |s::l=>.sl none 2 0 (l.length+1) (gW (s::l))
theorem an5(l:List (Nat×Bool)):vO (Fx l) l:=by
 cases l with
 |nil=>exact .inl ⟨rfl,rfl⟩
 |cons s l=>exact .inr ⟨0,rfl⟩
theorem aou(ρ:List aa)(c:aR)(l:List (Nat×Bool))(h:c.den ρ=.agg (gW l)):Prim.run Tryz.prog ρ (.bK 2 .cZ c)=some (Fx l):=by
 simp only[Prim.run,h];cases l with
 |nil=>rfl
 |cons s l=>
  have U:(gW (s::l)).length/2=l.length+1:=by rw[anJ];simp
  have ab:gW (s::l)=ax s.1::(.bool s.2::gW l):=by simp[gW]
  simp only[iU,isNil];rw[ab]at U⊢;simp only[Fx,U,ab]
theorem aov{l:List (Nat×Bool)}{i:Nat}{t:Bool}(ak:l.length<1000000):uW 2 16 (.agg (gW l)) (.sl none 2 0 1 [ax i,.bool t])=some (.agg (gW (l++[(i,t)]))):=by
 simp[aol,anJ];refine⟨by omega,by simp[gW]⟩
theorem ago:∃e,Tryz.prog.underlying 38=some (.slice e):=by
 have h:(match Tryz.prog.underlying 38 with|some (.slice _)=>true|_=>false)=true:=by kernel_rfl
 split at h
 ·exact⟨_,by assumption⟩
 ·cases h
theorem vO.len{x:aa}{l:List (Nat×Bool)}(h:vO x l):ht Tryz.prog 38 x=some (ax l.length):=by
 obtain⟨e,he⟩:=ago;rcases h with⟨rfl,rfl⟩|⟨off,rfl⟩<;>simp[ht,he]
theorem Ki{x:aa}{l:List (Nat×Bool)}(h:vO x l){n:Nat}(aI:n<l.length):kp 2 x (ax n)=some (.agg [ax (l.getD n default).1,.bool (l.getD n default).2]):=by
 rcases h with⟨rfl,rfl⟩|⟨off,rfl⟩
 ·simp at aI
 ·have e:=aaE (f:=λs:Nat×Bool=>[ax s.1,.bool s.2]) (n:=2) (λ_=>rfl) l n aI;simp only[kp,gW,Int.toNat_natCast];rw[if_pos ⟨by omega,by omega,trivial,by rw[e];rfl⟩,e]
def jz(slip:Int)(r:aX)(p:a7)(t:Bool):Nat->List (Nat×Bool)
 |0=>[]
 |i+1=>jz slip r p t i++if ln slip r p i then[(i,t)]else[]
theorem anW(slip:Int)(r:aX)(p:a7)(t:Bool)(n:Nat):(jz slip r p t n).length<=n:=by
 induction n with
 |zero=>simp[jz]
 |succ n az=>simp only[jz];split<;>simp<;>omega
theorem Y7{slip:Int}{r:aX}{p q:a7}{i:Nat}(U:p.g=q.g)(ab:p.up=q.up)(al:p.aP=q.aP)(aJ:p.wd=q.wd):ln slip r p i=ln slip r q i:=by
 cases p;cases q;simp only at U ab al aJ;subst U ab al aJ;rfl
def kl(slip:Int)(r:aX)(p:a7):List (Nat×Bool):=jz slip r p false r.lines.toNat++if p.fr then jz slip r (half p) true r.lines.toNat else[]
end
section
open Go Go.RowKit
theorem Tw(k:Nat){slip:Int}{b3:aa}{l:List aX}(h:Hand slip b3 l){n:Nat}(aI:n<l.length){p:a7}(ae:p.ok):dT (k+4) 57 [.agg [ax slip,b3],ax n,.agg p.cells] λv=>vO v (kl slip (l.getD n default) p):=by
 refine lO (t:=t57) (by kernel_rfl) (fn:=Tryz.f57) (by kernel_rfl) (by simp[dd,flagsOf,h.plain,a7.cells,ae.c5.plain]) ?_;have ad:=h.get aI;have du:=m6 h.gS aI;have g5:=ae.pR;have F6:=h.cc;have kQ:=h.s1;generalize cn:l.getD n default=r at *;have hn:=ad.hn;have k5:=ad.k5;have gq:(r.lines.toNat:Int)=r.lines:=by omega
 simp only[t57,ag,aD,aM,dk];refine⟨.agg [ax slip,b3],by simp,.agg p.cells,by simp[a7.cells],?_⟩;refine gb (afE (k+2) slip) ?_;rintro v rfl;simp only[dk];refine⟨.agg r.cells,by simpa using du,.agg (GG slip),by simp,?_⟩;refine hY (λaf=>af=[.agg (gW (kl slip r p))]) ?_ ?_
 ·refine hY (λaf=>af=[.bool (!p.fr),.agg (gW (jz slip r p false r.lines.toNat))]) ?_ ?_
  ·refine hY (λaf=>af=[.agg (gW (jz slip r p false r.lines.toNat))]) ?_ ?_
   ·refine o7 (λj af=>∃i:Nat,af=[ax i,.agg (gW (jz slip r p false i))]/\i+j=r.lines.toNat) r.lines.toNat (by omega) ⟨0,rfl,by omega⟩ ?_;rintro j af ⟨i,rfl,hi⟩;simp only[dk];refine⟨.bool (decide ((i:Int)<r.lines)),by simp[aX.cells],?_⟩;simp only[run_ite,aR.den,List.cons_append,List.nil_append,List.getD_cons_succ,List.getD_cons_zero,hV];refine gR (λh=>?_) (λh=>?_)<;>simp only[decide_eq_true_eq,decide_eq_false_iff_not]at h
    ·have hlen:=anW slip r p false i;refine hY (λaf=>af=[.bool false,.agg (gW (jz slip r p false (i+1)))]) ?_ ?_
     ·refine kN (Q:=λv=>v=.bool (ln slip r p i)) (SE (k+1) F6 kQ ad ae (line:=i) (by omega)) (by simp[aX.cells,a7.cells]) ?_;rintro v rfl;simp only[run_ite,aR.den,List.cons_append,List.nil_append,List.getD_cons_succ,List.getD_cons_zero,hV];refine gR (λab=>?_) (λab=>?_)
      ·simp only[dk];refine⟨ax i,by simp,.agg (gW (jz slip r p false i++[(i,false)])),aov (by omega),?_⟩;simp[jz,ab]
      ·simp[jz,ab]
     ·rintro af rfl;simp only[run_ite,aR.den,List.cons_append,List.nil_append,List.getD_cons_succ,List.getD_cons_zero,hV];simp[wrap64 (n:=(i:Int)+1) (by omega) (by omega)];exact⟨j-1,by omega,i+1,by simp,by omega⟩
    ·have e:r.lines.toNat=i:=by omega
     simp[fV,e]
   ·rintro af rfl;simp[a7.cells]
  ·rintro af rfl;simp only[run_ite,aR.den,List.cons_append,List.nil_append,List.getD_cons_succ,List.getD_cons_zero,hV];refine gR (λh=>?_) (λh=>?_)<;>simp only[Bool.not_eq_true',Bool.not_eq_false']at h
   ·simp[kl,h]
   ·simp only[dk];refine⟨ax p.g.length,by simpa[a7.cells]using ae.c5.len,?_⟩;refine hY (λaf=>af=[.int .u8 0]) ?_ ?_
    ·refine o7 (λj af=>∃i:Nat,af=[.int .u8 0,ax i]/\i+j=p.g.length) p.g.length (by omega) ⟨0,rfl,by omega⟩ ?_;rintro j af ⟨i,rfl,hi⟩;simp only[dk];refine⟨.bool (decide ((i:Int)<p.g.length)),by simp,?_⟩;simp only[run_ite,aR.den,List.cons_append,List.nil_append,List.getD_cons_succ,List.getD_cons_zero,hV];refine gR (λh=>?_) (λh=>?_)<;>simp only[decide_eq_true_eq,decide_eq_false_iff_not]at h
     ·refine gb (SD (k+2) i) ?_;rintro v rfl;refine hY (λaf=>af=[.int .u8 0]) ?_ ?_
      ·simp
      ·rintro af rfl;simp[wrap64 (n:=(i:Int)+1) (by omega) (by omega)];exact⟨j-1,by omega,i+1,by simp,by omega⟩
     ·simp[fV]
    ·rintro af rfl;refine kN (Q:=λv=>∃q:aa,v=.agg [q,ax p.aP,ax p.up,ax p.wd,.bool p.fr]/\dI q p.g.reverse) (aeT (k+1) ae) (by simp[a7.cells]) ?_;rintro v ⟨q,rfl,aH⟩;have lZ:(a7.mk q p.g.reverse p.aP p.up p.wd p.fr).ok:=⟨aH,by simpa using ae.pR,λx aj=>ae.gs x (by simpa using aj),ae.d0,ae.d1,ae.ud,ae.j7,ae.c9,ae.w1⟩;have ah:=λi=>Y7 (slip:=slip) (r:=r) (p:=⟨q,p.g.reverse,p.aP,p.up,p.wd,p.fr⟩) (q:=half p) (i:=i) rfl rfl rfl rfl;simp only[dk];refine⟨.agg [q,ax p.aP,ax p.up,ax p.wd,.bool p.fr],by simp,?_⟩;have TX:=anW slip r p false r.lines.toNat;generalize aw:jz slip r p false r.lines.toNat=F at *;refine hY (λaf=>af=[.agg (gW (F++jz slip r (half p) true r.lines.toNat))]) ?_ ?_
     ·refine o7 (λj af=>∃i:Nat,af=[ax i,.agg (gW (F++jz slip r (half p) true i))]/\i+j=r.lines.toNat) r.lines.toNat (by omega) ⟨0,by simp[jz],by omega⟩ ?_;rintro j af ⟨i,rfl,hi⟩;simp only[dk];refine⟨.bool (decide ((i:Int)<r.lines)),by simp[aX.cells],?_⟩;simp only[run_ite,aR.den,List.cons_append,List.nil_append,List.getD_cons_succ,List.getD_cons_zero,hV];refine gR (λh=>?_) (λh=>?_)<;>simp only[decide_eq_true_eq,decide_eq_false_iff_not]at h
      ·have hlen:=anW slip r (half p) true i;refine hY (λaf=>af=[.bool false,.agg (gW (F++jz slip r (half p) true (i+1)))]) ?_ ?_
       ·refine kN (Q:=λv=>v=.bool (ln slip r (half p) i)) ((SE (k+1) F6 kQ ad lZ (line:=i) (by omega)).mono λv e=>by rw[e,ah]) (by simp[aX.cells,a7.cells]) ?_;rintro v rfl;simp only[run_ite,aR.den,List.cons_append,List.nil_append,List.getD_cons_succ,List.getD_cons_zero,hV];refine gR (λab=>?_) (λab=>?_)
        ·simp only[dk];refine⟨ax i,by simp,.agg (gW ((F++jz slip r (half p) true i)++[(i,true)])),aov (by simp;omega),?_⟩;simp[jz,ab]
        ·simp[jz,ab]
       ·rintro af rfl;simp only[run_ite,aR.den,List.cons_append,List.nil_append,List.getD_cons_succ,List.getD_cons_zero,hV];simp[wrap64 (n:=(i:Int)+1) (by omega) (by omega)];exact⟨j-1,by omega,i+1,by simp,by omega⟩
      ·have e:r.lines.toNat=i:=by omega
       simp[fV,e]
     ·rintro af rfl;simp[kl,h,aw]
 ·rintro af rfl;simp only[dk];refine⟨Fx (kl slip r p),aou _ _ _ (by simp),?_⟩;simp only[uE];refine⟨_,rfl,?_,an5 _⟩;exact(an5 _).plain.1
end
section
open Go Go.RowKit
theorem agp{l:List Int}{i:Nat}(h:i<l.length):l.getD i 0∈l:=by simp[List.getD_eq_getElem?_getD,h]
theorem Fy(k:Nat){n slip lo hi:Int}(aT:0<=slip)(U:slip<=3)(ak:lo<=hi)(nf:-1000<=n)(Li:n<=1000):dT (k+4) 97 [pQ,ax n,ax slip,ax lo,ax hi] λv=>∃x,v=ax x/\lo<=x/\x<=hi/\(lo<=n->n<=hi->x-n<=slip/\n-x<=slip):=by
 refine lO (t:=t97) (by kernel_rfl) (fn:=Tryz.f97) (by kernel_rfl) rfl ?_;simp only[t97,ag,aD,aM,dk];refine⟨ax (-slip),by simp[rH,wrap64 (n:=-slip) (by omega) (by omega)],?_⟩;refine gb (td k (-slip) slip (by omega) (by omega) (by omega) (by omega)) ?_;rintro v ⟨y,rfl,vm,xL⟩;simp only[dk];refine⟨ax (n+y),by simp[wrap64 (n:=n+y) (by omega) (by omega)],ax (if lo<n+y then n+y else lo),by simp[u3],ax (if(if lo<n+y then n+y else lo)<hi then(if lo<n+y then n+y else lo)else hi),by simp[s4],?_⟩;simp only[uE];refine⟨_,rfl,by simp,_,rfl,?_⟩;split<;>split<;>omega
structure Uw(slip:Int)(p q:a7):Prop where
 len:q.g.length=p.g.length
 gs:∀i,i<p.g.length->nr slip (q.g.getD i 0) (p.g.getD i 0)=true
 up:q.up-p.up<=slip/\p.up-q.up<=slip
 aP:q.aP-p.aP<=slip/\p.aP-q.aP<=slip
 wd:(p.wd=0/\q.wd=0)\/(0<p.wd/\nr slip q.wd p.wd=true)
 fr:q.fr=p.fr
theorem agq(k:Nat){slip:Int}(aT:0<=slip)(U:slip<=3){p:a7}(ae:p.ok):dT (k+5) 53 [pQ,.agg p.cells,ax slip] λv=>∃q:a7,v=.agg q.cells/\q.ok/\q.k6=.sl none 1 0 q.g.length (q.g.map ax)/\Uw slip p q:=by
 refine lO (t:=t53) (by kernel_rfl) (fn:=Tryz.f53) (by kernel_rfl) (by simp[dd,flagsOf,a7.cells,ae.c5.plain]) ?_;have g5:=ae.pR;have gr:=ae.ud;have p2:=ae.j7;have p3:=ae.d0;have p4:=ae.d1;have CI:=ae.c9;have vH:=ae.w1;have hlen:=ae.c5.len;have aeU:=λ(i:Nat)(hi:i<p.g.length)=>tc ae.c5 hi;simp only[t53,ag,aD,aM,dk];refine⟨.agg p.cells,by simp[a7.cells],ax p.g.length,by simpa[a7.cells]using hlen,_,Ru (n:=p.g.length) (by omega),?_⟩;refine hY (λaf=>af=[.agg (p.g.map ax)]) ?_ ?_
 ·refine o7 (λj af=>∃(i:Nat)(L:List Int),af=[ax i,.agg (L.map ax)]/\i+j=p.g.length/\L.length=p.g.length/\∀k,k<i->L.getD k 0=p.g.getD k 0) p.g.length (by omega) ⟨0,List.replicate p.g.length 0,by simp,by omega,by simp,by simp⟩ ?_;rintro j af ⟨i,L,rfl,hi,dg,aq⟩;simp only[dk];refine⟨ax p.g.length,by simpa[a7.cells]using hlen,.bool (decide ((i:Int)<p.g.length)),by simp,?_⟩;simp only[run_ite,aR.den,List.cons_append,List.nil_append,List.getD_cons_succ,List.getD_cons_zero,hV];refine gR (λh=>?_) (λh=>?_)<;>simp only[decide_eq_true_eq,decide_eq_false_iff_not]at h
  ·have aU:i<p.g.length:=by omega
   simp only[dk];refine⟨.agg [ax (p.g.getD i 0)],by simpa[a7.cells]using aeU i aU,ax i,by simp;omega,.agg ((L.set i (p.g.getD i 0)).map ax),yG (by omega),?_⟩;simp[wrap64 (n:=(i:Int)+1) (by omega) (by omega)];refine⟨j-1,by omega,i+1,L.set i (p.g.getD i 0),by simp,by omega,by simpa using dg,λk gx=>?_⟩;by_cases e:k=i
   ·subst e;have:k<L.length:=by omega
    simp[List.getD_eq_getElem?_getD,this]
   ·have:=aq k (by omega);simp only[List.getD_eq_getElem?_getD]at this⊢;rw[List.getElem?_set_ne (by omega)];exact this
  ·have e:L=p.g:=List.ext_getElem dg λk U ab=>by
    have:=aq k (by omega);simpa[List.getD_eq_getElem?_getD,U,ab]using this
   simp[fV,e]
 rintro af rfl;refine hY (λaf=>∃L:List Int,af=[.agg (L.map ax)]/\L.length=p.g.length/\(∀x∈L,1<=x/\x<=30)/\∀i,i<p.g.length->nr slip (L.getD i 0) (p.g.getD i 0)=true) ?_ ?_
 ·refine o7 (λj af=>∃(i:Nat)(L:List Int),af=[ax i,.agg (L.map ax)]/\i+j=p.g.length/\L.length=p.g.length/\(∀x∈L,1<=x/\x<=30)/\(∀k,k<i->nr slip (L.getD k 0) (p.g.getD k 0)=true)/\∀k,i<=k->k<p.g.length->L.getD k 0=p.g.getD k 0) p.g.length (by omega) ⟨0,p.g,by simp,by omega,rfl,ae.gs,by simp,λk _ _=>rfl⟩ ?_;rintro j af ⟨i,L,rfl,hi,dg,hb,aq,mG⟩;simp only[dk];refine⟨ax L.length,by simp,.bool (decide ((i:Int)<L.length)),by simp,?_⟩;simp only[run_ite,aR.den,List.cons_append,List.nil_append,List.getD_cons_succ,List.getD_cons_zero,hV];refine gR (λh=>?_) (λh=>?_)<;>simp only[decide_eq_true_eq,decide_eq_false_iff_not]at h
  ·have aU:i<L.length:=by omega
   have aN:=hb _ (agp aU);have CQ:=II (l:=L) (i:=(i:Int)) (by omega) (by omega);rw[Int.toNat_natCast]at CQ;simp only[dk];refine⟨ax i,wu (l:=L) (by omega) (by omega),.agg [ax (L.getD i 0)],CQ,?_⟩;refine gb (Fy k (n:=L.getD i 0) aT U (by omega) (by omega) (by omega)) ?_;rintro v ⟨x,rfl,xG,lv,dG⟩;have Cj:=dG (by omega) (by omega);simp only[dk];refine⟨ax i,wu (l:=L) (by omega) (by omega),ax x,by simp,.agg ((L.set i x).map ax),yG (by omega),?_⟩;simp[wrap64 (n:=(i:Int)+1) (by omega) (by omega)];refine⟨j-1,by omega,i+1,L.set i x,by simp,by omega,by simpa using dg,λy aF=>?_,λk gx=>?_,λk U ab=>?_⟩
   ·rcases List.mem_or_eq_of_mem_set aF with h|h
    ·exact hb y h
    ·omega
   ·by_cases e:k=i
    ·subst e;have aO:=mG k (by omega) (by omega);rw[aO]at Cj;have:(L.set k x)[k]?.getD 0=x:=by simp[aU]
     rw[this];simp only[List.getD_eq_getElem?_getD]at Cj;simp[nr,Cj]
    ·have:=aq k (by omega);simp only[List.getD_eq_getElem?_getD]at this⊢;rw[List.getElem?_set_ne (by omega)];exact this
   ·have:=mG k (by omega) ab;simp only[List.getD_eq_getElem?_getD]at this⊢;rw[List.getElem?_set_ne (by omega)];exact this
  ·simp only[kG,mj];simp only[fV];simp;exact⟨L,rfl,dg,hb,λi hi=>by have:=aq i (by omega);simpa using this⟩
 rintro af ⟨L,rfl,dg,hb,aq⟩;refine kN (Q:=λv=>∃x,v=ax x/\0<=x/\x<=30/\(x-p.up<=slip/\p.up-x<=slip)) ((Fy k (n:=p.up) aT U (lo:=0) (hi:=30) (by omega) (by omega) (by omega)).mono λv ⟨x,e,a,b,c⟩=>⟨x,e,a,b,c (by omega) (by omega)⟩) (by simp[a7.cells]) ?_;rintro v ⟨u,rfl,Ck,Cl,Lk⟩;refine kN (Q:=λv=>∃x,v=ax x/\0<=x/\x<=30/\(x-p.aP<=slip/\p.aP-x<=slip)) ((Fy k (n:=p.aP) aT U (lo:=0) (hi:=30) (by omega) (by omega) (by omega)).mono λv ⟨x,e,a,b,c⟩=>⟨x,e,a,b,c (by omega) (by omega)⟩) (by simp[a7.cells]) ?_;rintro v ⟨d,rfl,qp,gE,jY⟩;simp only[dk];refine⟨ax u,by simp,ax d,by simp,.bool (decide (0<p.wd)),by simp[a7.cells],?_⟩;refine hY (λaf=>∃w,af=[ax w]/\0<=w/\w<=60/\((p.wd=0/\w=0)\/(0<p.wd/\nr slip w p.wd=true))) ?_ ?_
 ·simp only[run_ite,aR.den,List.cons_append,List.nil_append,List.getD_cons_succ,List.getD_cons_zero,hV];refine gR (λh=>?_) (λh=>?_)<;>simp only[decide_eq_true_eq,decide_eq_false_iff_not]at h
  ·refine kN (Q:=λv=>∃x,v=ax x/\1<=x/\x<=60/\(x-p.wd<=slip/\p.wd-x<=slip)) ((Fy k (n:=p.wd) aT U (lo:=1) (hi:=60) (by omega) (by omega) (by omega)).mono λv ⟨x,e,a,b,c⟩=>⟨x,e,a,b,c (by omega) (by omega)⟩) (by simp[a7.cells]) ?_;rintro v ⟨w,rfl,gl,fg,kW⟩;simp only[dk];refine⟨ax w,by simp,?_⟩;simp only[kG,mj];exact⟨w,by simp,by omega,by omega,.inr ⟨h,by simp[nr,kW]⟩⟩
  ·simp only[kG,mj];exact⟨p.wd,by simp[a7.cells],by omega,by omega,.inl ⟨by omega,by omega⟩⟩
 rintro af ⟨w,rfl,gl,fg,kW⟩;simp only[dk];refine⟨.sl none 1 0 L.length (L.map ax),by simp,?_⟩;simp only[uE];have cD:=uj L;refine⟨_,rfl,?_,⟨.sl none 1 0 L.length (L.map ax),L,u,d,w,p.fr⟩,by simp[a7.cells],⟨.inr ⟨0,rfl⟩,by show L.length<=5;omega,hb,Ck,Cl,qp,gE,gl,fg⟩,rfl,⟨dg,aq,Lk,jY,by rcases kW with h|h;exact .inl h;exact .inr h,rfl⟩⟩;simp[a7.cells,cD]
structure Cut(r:aX)(a b:Nat)(q:a7):Prop where
 ok:q.ok
 fr:q.fr=false
 len:q.g.length=b-a
 gs:∀i,i<b-a->q.g.getD i 0=dp r (a+i)
 up:0<a->q.up<dp r (a-1)
 aP:(b:Int)<r.lines-1->q.aP<dp r b
 wd:q.wd=0\/q.wd=r.width
theorem agr(k:Nat){r:aX}(ad:r.ok){a b:Nat}(bL:a<=b)(al7:b<=a+5)(se:(b:Int)<=r.lines-1):dT (k+4) 54 [pQ,.agg r.cells,ax a,ax b] λv=>∃q:a7,v=.agg q.cells/\Cut r a b q:=by
 refine lO (t:=t54) (by kernel_rfl) (fn:=Tryz.f54) (by kernel_rfl) (by simp[dd,flagsOf,aX.cells,ad.c5.plain]) ?_;have hn:=ad.hn;have k5:=ad.k5;have w1:=ad.w1;have w2:=ad.w2;have bh:=Jh ad;simp only[t54,ag,aD,aM,dk];refine⟨.agg r.cells,by simp[aX.cells],?_⟩;refine hY (λaf=>∃L:List Int,af=[.agg (L.map ax)]/\L.length=b-a/\(∀x∈L,1<=x/\x<=30)/\∀i,i<b-a->L.getD i 0=dp r (a+i)) ?_ ?_
 ·refine o7 (λj af=>∃L:List Int,af=[ax ((a+L.length:Nat):Int),.agg (L.map ax)]/\L.length+j=b-a/\(∀x∈L,1<=x/\x<=30)/\∀i,i<L.length->L.getD i 0=dp r (a+i)) (b-a) (by omega) ⟨[],by simp,by simp,by simp,by simp⟩ ?_;rintro j af ⟨L,rfl,hi,hb,aq⟩;simp only[dk];refine⟨.bool (decide (((a+L.length:Nat):Int)<b)),by simp,?_⟩;simp only[run_ite,aR.den,List.cons_append,List.nil_append,List.getD_cons_succ,List.getD_cons_zero,hV];refine gR (λh=>?_) (λh=>?_)<;>simp only[decide_eq_true_eq,decide_eq_false_iff_not]at h
  ·refine kN (Q:=λv=>v=ax (dp r (a+L.length))) (Kn (k+1) ad (a+L.length)) (by simp[aX.cells]) ?_;rintro v rfl;have ao:=bh (a+L.length);simp only[dk];refine⟨ax (dp r (a+L.length)),by simp,.agg ((L++[dp r (a+L.length)]).map ax),Ih (by decide) (by omega),ax ((a+(L++[dp r (a+L.length)]).length:Nat):Int),?_,?_⟩
   ·simp;rw[wrap64 (by omega) (by omega)];omega
   ·simp only[kG,mj];refine⟨j-1,by omega,L++[dp r (a+L.length)],by simp,by simp;omega,λx aj=>?_,λi e1=>?_⟩
    ·rcases List.mem_append.1 aj with bc|bc
     ·exact hb x bc
     ·simp at bc;omega
    ·by_cases e:i<L.length
     ·have:=aq i e;simp only[List.getD_eq_getElem?_getD]at this⊢;rw[List.getElem?_append_left e,this]
     ·have e:i=L.length:=by simp at e1;omega
      subst e;simp
  ·simp only[kG];simp only[fV];simp;exact⟨L,rfl,by omega,hb,λi hi=>by have:=aq i (by omega);simpa using this⟩
 rintro af ⟨L,rfl,dg,hb,aq⟩;refine gb (m8 (k+1) 30 (by omega) (by omega)) ?_;rintro v ⟨x,rfl,xG,lv⟩;refine gb (m8 (k+1) 30 (by omega) (by omega)) ?_;rintro v ⟨y,rfl,vm,xL⟩;simp only[dk];refine⟨ax x,by simp,ax y,by simp,.bool (decide (0<a)),by simp,?_⟩;refine hY (λaf=>∃u,af=[ax u]/\0<=u/\u<=30/\(0<a->u<dp r (a-1))) ?_ ?_
 ·simp only[run_ite,aR.den,List.cons_append,List.nil_append,List.getD_cons_succ,List.getD_cons_zero,hV];refine gR (λh=>?_) (λh=>?_)<;>simp only[decide_eq_true_eq,decide_eq_false_iff_not]at h
  ·have ao:=bh (a-1);simp only[dk];refine⟨ax ((a-1:Nat):Int),by have e:(a:Int)-1=((a-1:Nat):Int):=(by omega);simp[e,wrap64 (n:=((a-1:Nat):Int)) (by omega) (by omega)],?_⟩;refine kN (Q:=λv=>v=ax (dp r (a-1))) (Kn (k+1) ad (a-1)) (by simp[aX.cells]) ?_;rintro v rfl;simp only[dk];refine⟨ax (dp r (a-1)-1),by simp[wrap64 (n:=dp r (a-1)-1) (by omega) (by omega)],?_⟩;refine gb (m8 (k+1) (dp r (a-1)-1) (by omega) (by omega)) ?_;rintro v ⟨z,rfl,iZ,Cm⟩;simp only[dk];refine⟨ax z,by simp,?_⟩;simp only[kG,mj];exact⟨z,by simp,by omega,by omega,λ_=>by omega⟩
  ·simp only[kG,mj];exact⟨x,by simp,by omega,by omega,λbc=>by omega⟩
 rintro af ⟨u,rfl,Ck,Cl,Lk⟩;simp only[dk];refine⟨ax (r.lines-1),by simp[aX.cells,wrap64 (n:=r.lines-1) (by omega) (by omega)],.bool (decide ((b:Int)<r.lines-1)),by simp,?_⟩;refine hY (λaf=>∃d,af=[ax d]/\0<=d/\d<=30/\((b:Int)<r.lines-1->d<dp r b)) ?_ ?_
 ·simp only[run_ite,aR.den,List.cons_append,List.nil_append,List.getD_cons_succ,List.getD_cons_zero,hV];refine gR (λh=>?_) (λh=>?_)<;>simp only[decide_eq_true_eq,decide_eq_false_iff_not]at h
  ·have ao:=bh b;refine kN (Q:=λv=>v=ax (dp r b)) (Kn (k+1) ad b) (by simp[aX.cells]) ?_;rintro v rfl;simp only[dk];refine⟨ax (dp r b-1),by simp[wrap64 (n:=dp r b-1) (by omega) (by omega)],?_⟩;refine gb (m8 (k+1) (dp r b-1) (by omega) (by omega)) ?_;rintro v ⟨z,rfl,iZ,Cm⟩;simp only[dk];refine⟨ax z,by simp,?_⟩;simp only[kG,mj];exact⟨z,by simp,by omega,by omega,λ_=>by omega⟩
  ·simp only[kG,mj];exact⟨y,by simp,by omega,by omega,λbc=>absurd bc h⟩
 rintro af ⟨d,rfl,qp,gE,jY⟩;refine kN (Q:=λv=>∃c,v=ax c/\c∈[0,r.width]) (zl k (l:=[0,r.width]) (.inr ⟨0,rfl⟩) (by simp) (by simp)) (by simp[aX.cells]) ?_;rintro v ⟨c,rfl,ah⟩;have gv:c=0\/c=r.width:=by simpa using ah
 simp only[dk];refine⟨ax c,by simp,m9 L,by simp,?_⟩;simp only[uE];refine⟨_,rfl,?_,⟨m9 L,L,u,d,c,false⟩,by simp[a7.cells],⟨⟨rh L,by show L.length<=5;omega,hb,Ck,Cl,qp,gE,by show 0<=c;omega,by show c<=60;omega⟩,rfl,dg,aq,Lk,jY,gv⟩⟩;simp[(rh L).plain.1,(rh L).plain.2]
end
section
open Go Go.RowKit
theorem af9(k:Nat){slip:Int}{b3:aa}{l:List aX}(h:Hand slip b3 l):dT (k+6) 13 [pQ,.agg [ax slip,b3]] λv=>∃p:a7,v=.agg p.cells/\p.ok:=by
 refine lO (t:=t13) (by kernel_rfl) (fn:=Tryz.f13) (by kernel_rfl) (by simp[dd,flagsOf,h.plain]) ?_;have fY:=h.fY;have fI:=h.fI;simp only[t13,ag,aD,aM,dk];refine⟨.agg [ax slip,b3],by simp,ax l.length,by simpa using h.gS.len,ax ((l.length:Int)-1),by simp[wrap64 (n:=(l.length:Int)-1) (by omega) (by omega)],?_⟩;refine gb (m8 (k+3) ((l.length:Int)-1) (by omega) (by omega)) ?_;rintro v ⟨n,rfl,nf,Li⟩;obtain⟨n,rfl⟩:=Int.eq_ofNat_of_zero_le nf;have aI:n<l.length:=by omega
 have ad:=h.get aI;have du:=m6 h.gS aI;generalize cn:l.getD n default=r at ad du;have hn:=ad.hn;have k5:=ad.k5;simp only[dk];refine⟨.agg r.cells,by simpa using du,ax (r.lines-1),by simp[aX.cells,wrap64 (n:=r.lines-1) (by omega) (by omega)],?_⟩;refine gb (m8 (k+3) (r.lines-1) (by omega) (by omega)) ?_;rintro v ⟨a,rfl,Cn,pC⟩;obtain⟨a,rfl⟩:=Int.eq_ofNat_of_zero_le Cn;simp only[dk];refine⟨ax (r.lines-1),by simp[aX.cells,wrap64 (n:=r.lines-1) (by omega) (by omega)],?_⟩;refine gb (zl (k+2) (l:=[1,2,5]) (.inr ⟨0,rfl⟩) (by simp) (by simp)) ?_;rintro v ⟨x,rfl,aj⟩;have hc:1<=x/\x<=5:=by simp at aj;omega
 refine gb (m8 (k+3) x (by omega) (by omega)) ?_;rintro v ⟨y,rfl,vm,xL⟩;obtain⟨b,hb⟩:∃b:Nat,(b:Int)=if(a:Int)+y<r.lines-1 then(a:Int)+y else r.lines-1:=⟨(if(a:Int)+y<r.lines-1 then(a:Int)+y else r.lines-1).toNat,by split<;>omega⟩
 have lY:a<=b/\b<=a+5/\(b:Int)<=r.lines-1:=by split at hb<;>omega
 simp only[dk];refine⟨ax ((a:Int)+y),by simp[wrap64 (n:=(a:Int)+y) (by omega) (by omega)],ax b,by simp[s4,hb],?_⟩;refine kN (Q:=λv=>∃q:a7,v=.agg q.cells/\Cut r a b q) (agr (k+1) ad lY.1 lY.2.1 lY.2.2) (by simp[aX.cells]) ?_;rintro v ⟨c,rfl,ah⟩;refine kN (Q:=λv=>∃q:a7,v=.agg q.cells/\q.ok/\q.k6=.sl none 1 0 q.g.length (q.g.map ax)/\Uw slip c q) (agq k h.cc h.s1 ah.ok) (by simp) ?_;rintro v ⟨q,rfl,aH,air,hm⟩;have kB:=aH.pR;simp only[dk];refine⟨.agg q.cells,by simp[a7.cells],.agg (q.g.map ax),by simp[a7.cells,air,po],?_⟩;refine gb (Km (k+2) 3 (by omega) (by omega)) ?_;rintro v ⟨dS,rfl⟩;refine hY (λaf=>∃u d,af=[ax u,ax d]/\0<=u/\u<=30/\0<=d/\d<=30) ?_ ?_
 ·cases dS with
  |true=>
   simp only[run_ite,aR.den,List.cons_append,List.nil_append,List.getD_cons_succ,List.getD_cons_zero,hV,Ig,kG,mj];exact⟨0,0,by simp,by omega,by omega,by omega,by omega⟩
  |false=>
   simp only[run_ite,aR.den,List.cons_append,List.nil_append,List.getD_cons_succ,List.getD_cons_zero,hV,Ol,kG,mj];exact⟨q.up,q.aP,by simp[a7.cells],aH.ud,aH.j7,aH.d0,aH.d1⟩
 rintro af ⟨u,d,rfl,Ck,Cl,qp,gE⟩;refine hY (λaf=>(af=[.bool true]/\0<q.g.length)\/af=[.bool false]) ?_ ?_
 ·simp only[dk];refine⟨ax q.g.length,by simp,.bool (decide (0<(q.g.length:Int))),by simp,?_⟩;simp only[run_ite,aR.den,List.cons_append,List.nil_append,List.getD_cons_succ,List.getD_cons_zero,hV];refine gR (λh=>?_) (λh=>?_)<;>simp only[decide_eq_true_eq,decide_eq_false_iff_not]at h
  ·refine gb (Km (k+2) 4 (by omega) (by omega)) ?_;rintro v ⟨c2,rfl⟩;simp only[kG,mj];cases c2 with
   |true=>exact .inl ⟨by simp,by omega⟩
   |false=>exact .inr (by simp)
  ·simp
 rintro af e0;refine hY (λaf=>∃L:List Int,af=[.agg (L.map ax)]/\L.length=q.g.length/\∀x∈L,1<=x/\x<=30) ?_ ?_
 ·rcases e0 with⟨rfl,eb⟩|rfl
  ·simp only[run_ite,aR.den,List.cons_append,List.nil_append,List.getD_cons_succ,List.getD_cons_zero,hV,Ig,dk];refine⟨ax q.g.length,by simp,ax ((q.g.length:Int)-1),by simp[wrap64 (n:=(q.g.length:Int)-1) (by omega) (by omega)],?_⟩;refine gb (m8 (k+3) ((q.g.length:Int)-1) (by omega) (by omega)) ?_;rintro v ⟨i,rfl,jX,F5⟩;obtain⟨i,rfl⟩:=Int.eq_ofNat_of_zero_le jX;refine gb (td (k+2) 1 12 (by omega) (by omega) (by omega) (by omega)) ?_;rintro v ⟨z,rfl,iZ,Cm⟩;simp only[dk];refine⟨ax i,wu (l:=q.g) (by omega) (by omega),ax z,by simp,.agg ((q.g.set i z).map ax),yG (by omega),?_⟩;simp only[kG,mj];refine⟨q.g.set i z,by simp,by simp,λy aF=>?_⟩;rcases List.mem_or_eq_of_mem_set aF with h|h
   ·exact aH.gs y h
   ·omega
  ·simp only[run_ite,aR.den,List.cons_append,List.nil_append,List.getD_cons_succ,List.getD_cons_zero,hV,Ol,kG,mj];exact⟨q.g,by simp,rfl,aH.gs⟩
 rintro af ⟨L,rfl,dg,ais⟩;refine gb (Km (k+2) 3 (by omega) (by omega)) ?_;rintro v ⟨fr,rfl⟩;rcases e0 with⟨rfl,eb⟩|rfl <;>
 ·simp only[dk];refine⟨.bool fr,by simp,.sl none 1 0 L.length (L.map ax),by simp,?_⟩;simp only[uE];have cD:=uj L;refine⟨_,rfl,?_,⟨.sl none 1 0 L.length (L.map ax),L,u,d,q.wd,fr⟩,by simp[a7.cells],⟨.inr ⟨0,rfl⟩,by show L.length<=5;omega,ais,Ck,Cl,qp,gE,aH.c9,aH.w1⟩⟩;simp[a7.cells,cD]
theorem Qy{slip:Int}{r:aX}{p:a7}{t bw:Bool}{i n:Nat}:(i,bw)∈jz slip r p t n↔bw=t/\i<n/\ln slip r p i=true:=by
 induction n with
 |zero=>simp[jz]
 |succ n az=>
  simp only[jz,List.mem_append,az];by_cases h:ln slip r p n=true
  ·rw[if_pos h];simp;constructor
   ·rintro(⟨a,b,c⟩|⟨rfl,a⟩)
    ·exact⟨a,by omega,c⟩
    ·exact⟨a,by omega,h⟩
   ·rintro⟨a,b,c⟩;by_cases e:i=n
    ·exact .inr ⟨e,a⟩
    ·exact .inl ⟨a,by omega,c⟩
  ·rw[if_neg h];simp;intro a c;have:i≠n:=by rintro rfl;exact h c
   omega
theorem aot(slip:Int){r:aX}(ad:r.ok)(p:a7):(kl slip r p).length<=24:=by
 have k5:=ad.k5;have U:=anW slip r p false r.lines.toNat;have ab:=anW slip r (half p) true r.lines.toNat;unfold kl;split<;>simp<;>omega
end
section
open Go Go.RowKit
theorem IJ{slip:Int}{r:aX}{p:a7}{t:Bool}:∀{n:Nat},(∀i,i<n->ln slip r p i=false)->jz slip r p t n=[]
 |0,_=>rfl
 |n+1,h=>by simp[jz,h n (Nat.lt_succ_self n),IJ (n:=n) λi hi=>h i (by omega)]
def kn(slip:Int)(r:aX)(p:a7):Bool:=decide (0<(kl slip r p).length)
theorem Rv{slip:Int}{r:aX}{p:a7}{s:Nat×Bool}(h:s∈kl slip r p):kn slip r p=true:=by
 simp only[kn,decide_eq_true_eq];exact List.length_pos_of_mem h
theorem afF{C:mR}[oX C](k:Nat){slip:Int}(F6:0<=slip)(kQ:slip<=3){r:aX}(ad:r.ok){p:a7}(ae:p.ok):ks C (k+4) 92 [.agg (GG slip),.agg r.cells,.agg p.cells,.int .u8 0] λv=>v=.bool (kn slip r p):=by
 refine sU (t:=t92) (by kernel_rfl) (by kernel_rfl) (fn:=Tryz.f92) (by kernel_rfl) (by simp[dd,flagsOf,a7.cells,ae.c5.plain,aX.cells,ad.c5.plain]) ?_;have hn:=ad.hn;have k5:=ad.k5;have g5:=ae.pR;simp only[t92,ag,aD,aM,dk];refine⟨.agg (GG slip),by simp,.agg r.cells,by simp[aX.cells],.agg p.cells,by simp[a7.cells],.int .u8 0,by simp,?_⟩;refine hY (λaf=>af=[]/\kl slip r p=[]) ?_ ?_
 ·refine hY (λaf=>af=[]/\∀i,i<r.lines.toNat->ln slip r p i=false) ?_ ?_
  ·refine o7 (λj af=>∃i:Nat,af=[ax i]/\i+j=r.lines.toNat/\∀k,k<i->ln slip r p k=false) r.lines.toNat (by omega) ⟨0,rfl,by omega,by simp⟩ ?_;rintro j af ⟨i,rfl,hi,hb⟩;simp only[dk];refine⟨.bool (decide ((i:Int)<r.lines)),by simp[aX.cells],?_⟩;simp only[run_ite,aR.den,List.cons_append,List.nil_append,List.getD_cons_succ,List.getD_cons_zero,hV];refine gR (λh=>?_) (λh=>?_)<;>simp only[decide_eq_true_eq,decide_eq_false_iff_not]at h
   ·refine kN (SE (C:=C) (k+1) F6 kQ ad ae (line:=i) (by omega)) (by simp[aX.cells,a7.cells]) ?_;rintro v rfl;simp only[run_ite,aR.den,List.cons_append,List.nil_append,List.getD_cons_succ,List.getD_cons_zero,hV];refine gR (λab=>?_) (λab=>?_)
    ·have:kn slip r p=true:=Rv (s:=(i,false)) (by simp only[kl,List.mem_append];exact .inl (Qy.2 ⟨rfl,by omega,ab⟩));simp[this]
    ·simp[wrap64 (n:=(i:Int)+1) (by omega) (by omega)];refine⟨j-1,by omega,i+1,by simp,by omega,λk aq=>?_⟩;by_cases e:k=i
     ·subst e;exact ab
     ·exact hb k (by omega)
   ·simp[fV];intro k aq;exact hb k (by omega)
  ·rintro af ⟨rfl,aI⟩;have aw:=IJ (t:=false) aI;simp only[dk];refine⟨.bool (!p.fr),by simp[a7.cells],?_⟩;simp only[run_ite,aR.den,List.cons_append,List.nil_append,List.getD_cons_succ,List.getD_cons_zero,hV];refine gR (λh=>?_) (λh=>?_)<;>simp only[Bool.not_eq_true',Bool.not_eq_false']at h
   ·simp[kl,h,aw]
   ·simp only[dk];refine⟨ax p.g.length,by simpa[a7.cells]using ae.c5.len,?_⟩;refine hY (λaf=>af=[.int .u8 0]) ?_ ?_
    ·refine o7 (λj af=>∃i:Nat,af=[.int .u8 0,ax i]/\i+j=p.g.length) p.g.length (by omega) ⟨0,rfl,by omega⟩ ?_;rintro j af ⟨i,rfl,hi⟩;simp only[dk];refine⟨.bool (decide ((i:Int)<p.g.length)),by simp,?_⟩;simp only[run_ite,aR.den,List.cons_append,List.nil_append,List.getD_cons_succ,List.getD_cons_zero,hV];refine gR (λh=>?_) (λh=>?_)<;>simp only[decide_eq_true_eq,decide_eq_false_iff_not]at h
     ·refine kN (SD (C:=C) (k+2) i) (by simp) ?_;rintro v rfl;refine hY (λaf=>af=[.int .u8 0]) ?_ ?_
      ·simp
      ·rintro af rfl;simp[wrap64 (n:=(i:Int)+1) (by omega) (by omega)];exact⟨j-1,by omega,i+1,by simp,by omega⟩
     ·simp[fV]
    ·rintro af rfl;refine kN (aeT (C:=C) (k+1) ae) (by simp[a7.cells]) ?_;rintro v ⟨q,rfl,aH⟩;have lZ:(a7.mk q p.g.reverse p.aP p.up p.wd p.fr).ok:=⟨aH,by simpa using ae.pR,λx aj=>ae.gs x (by simpa using aj),ae.d0,ae.d1,ae.ud,ae.j7,ae.c9,ae.w1⟩;have ah:=λi=>Y7 (slip:=slip) (r:=r) (p:=⟨q,p.g.reverse,p.aP,p.up,p.wd,p.fr⟩) (q:=half p) (i:=i) rfl rfl rfl rfl;simp only[dk];refine⟨.agg [q,ax p.aP,ax p.up,ax p.wd,.bool p.fr],by simp,?_⟩;refine hY (λaf=>af=[]/\∀i,i<r.lines.toNat->ln slip r (half p) i=false) ?_ ?_
     ·refine o7 (λj af=>∃i:Nat,af=[ax i]/\i+j=r.lines.toNat/\∀k,k<i->ln slip r (half p) k=false) r.lines.toNat (by omega) ⟨0,rfl,by omega,by simp⟩ ?_;rintro j af ⟨i,rfl,hi,hb⟩;simp only[dk];refine⟨.bool (decide ((i:Int)<r.lines)),by simp[aX.cells],?_⟩;simp only[run_ite,aR.den,List.cons_append,List.nil_append,List.getD_cons_succ,List.getD_cons_zero,hV];refine gR (λal=>?_) (λal=>?_)<;>simp only[decide_eq_true_eq,decide_eq_false_iff_not]at al
      ·refine kN (Q:=λv=>v=.bool (ln slip r (half p) i)) ((SE (C:=C) (k+1) F6 kQ ad lZ (line:=i) (by omega)).mono λv e=>by rw[e,ah]) (by simp[aX.cells,a7.cells]) ?_;rintro v rfl;simp only[run_ite,aR.den,List.cons_append,List.nil_append,List.getD_cons_succ,List.getD_cons_zero,hV];refine gR (λab=>?_) (λab=>?_)
       ·have:kn slip r p=true:=Rv (s:=(i,true)) (by simp only[kl,List.mem_append,h,if_true];exact .inr (Qy.2 ⟨rfl,by omega,ab⟩));simp[this]
       ·simp[wrap64 (n:=(i:Int)+1) (by omega) (by omega)];refine⟨j-1,by omega,i+1,by simp,by omega,λk aq=>?_⟩;by_cases e:k=i
        ·subst e;exact ab
        ·exact hb k (by omega)
      ·simp[fV];intro k aq;exact hb k (by omega)
     ·rintro af ⟨rfl,Up⟩;have ait:=IJ (t:=true) Up;simp[kl,h,aw,ait]
 ·rintro af ⟨rfl,fM⟩;simp[kn,fM]
end
section
open Go Go.RowKit
def eV(r:aX):aX:=⟨.sl none 1 0 r.st.length (r.st.map ax),r.st,r.lines,r.width⟩
def akI(r:aX)(p:a7)(e m:Int):Prop:=
 (e=0/\∃n:Nat,m=n/\n<=3/\kn n r p=true/\∀eu:Nat,eu<n->kn eu r p=false) \/
 (e=11/\m=0/\∀eu:Nat,eu<=3->kn eu r p=false)
end
end Go.Proofs.YtlminnpaeaganaaGreat
