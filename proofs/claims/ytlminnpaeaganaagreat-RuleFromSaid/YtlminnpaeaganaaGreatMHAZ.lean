/- Part of the proof of RuleH. No condition. -/
import Derived.Test.YtlminnpaeaganaaGreatMHAW
import Derived.Test.YtlminnpaeaganaaGreatMHAY
namespace Go.Proofs.YtlminnpaeaganaaGreat
set_option maxRecDepth 100000
set_option linter.all false
section
open Go Go.RowKit
theorem QA{slip:Int}{l:List aX}(h:jA slip l=0):1<=l.length:=by
 unfold jA at h;split at h
 ·split at h
  ·cases h
  ·omega
 ·cases h
theorem SB(k:Nat){slip:Int}{b3 x y:aa}{l:List aX}{ns:List Int}{ps:List a7}(h:iq b3 l)(aj:dI x ns)(mB:ns.length<4000)(aF:ov y ps)(ae:∀p∈ps,lk p)(cD:ps.length<4000):dT (k+4) 64 [.agg [ax slip,b3],x,y] λv=>v=ax (gn slip l ns ps):=by
 refine gj (t:=t64) (by kernel_rfl) (fn:=Tryz.f64) (by kernel_rfl) (by simp[dd,flagsOf,h.plain,aj.plain,aF.plain λp hm=>(ae p hm).c5]) ?_;have hlen:=h.len;refine eU (by simp only[ag,aD,aM,aS.aP,aR.aP,cF,nth,cM,List.getD_cons_succ,List.getD_cons_zero,aX.cells,a7.cells];rfl) rfl ?_;refine dr (ae0 k h) rfl ?_;refine hJ rfl rfl ?_;refine cK rfl (λhe=>?_) (λhe=>?_)
 ·refine wp_ret (v:=ax _) rfl rfl ?_;unfold gn;rw[if_pos he]
 replace he:=Decidable.not_not.1 he;have gk:=QA he;refine ez (λaf=>af=[]/\p6 ns 0 (l.length-1)) ?_ ?_
 ·refine wp_loop (λj af=>∃i:Nat,af=[ax i]/\i+j=ns.length/\∀m,m<i->0<=ns.getD m 0/\ns.getD m 0<=(l.length:Int)-1) ns.length (by omega) ⟨0,rfl,by omega,λm hm=>by omega⟩ ?_;rintro j af ⟨i,rfl,dL,hb⟩;try refine eK (by(try simp only[List.length_cons,List.length_nil,Nat.reduceAdd,Nat.zero_add]);rfl) (by(try simp only[dz]);rfl) ?_
  refine ib rfl aj ?_;refine hZ rfl rfl ?_;refine cK rfl (λbc=>?_) (λbc=>?_)
  ·have aU:i<ns.length:=by omega
   refine uG rfl aj rfl aU ?_;refine k9 rfl h.gS ?_;refine AT rfl rfl (by omega) ?_;refine dr (sW _ _ _ _) rfl ?_;refine kg rfl ?_;refine cK rfl (λal=>?_) (λal=>?_)
   ·refine gK ?_;refine gK ?_;refine wp_ret (v:=ax _) rfl rfl ?_;unfold gn;rw[if_neg (by simpa using he),if_neg (λah=>al (by have:=ah _ (zI aU);omega))]
    skip
   ·refine ie rfl rfl (by omega) ?_;refine cw ⟨j-1,by omega,i+1,rfl,by omega,λm hm=>?_⟩;by_cases e:m=i
    ·subst e;have:=Decidable.not_not.1 al;omega
    ·exact hb m (by omega)
  ·refine ia (by decide) ?_;exact cw ⟨rfl,uF (d:=0) λm hm=>hb m (by omega)⟩
 rintro af ⟨rfl,aN⟩;try refine eK (by(try simp only[List.length_cons,List.length_nil,Nat.reduceAdd,Nat.zero_add]);rfl) (by(try simp only[dz]);rfl) ?_
 refine ez (λaf=>af=[]/\pI ps=0) ?_ ?_
 ·refine wp_loop (λj af=>∃i:Nat,af=[ax i]/\i+j=ps.length/\∀m,m<i->hj (ps.getD m default)=0) ps.length (by omega) ⟨0,rfl,by omega,λm hm=>by omega⟩ ?_;rintro j af ⟨i,rfl,dL,hb⟩;try refine eK (by(try simp only[List.length_cons,List.length_nil,Nat.reduceAdd,Nat.zero_add]);rfl) (by(try simp only[dz]);rfl) ?_
  refine wj rfl aF ?_;refine hZ rfl rfl ?_;refine cK rfl (λbc=>?_) (λbc=>?_)
  ·have aU:i<ps.length:=by omega
   have du:=BA aF aU;have dA:=λdB=>Jk (l:=ps) aU hb dB;have h9:=ae _ (Ll aU);have bh:hj (ps.getD i default)=0->∀m,m<i+1->hj (ps.getD m default)=0:=λaT m hm=>by
    by_cases e:m=i
    ·subst e;exact aT
    ·exact hb m (by omega)
   generalize ps.getD i default=p at du dA h9 bh;refine wp _ du ?_;refine dr (ae2 _ h9) rfl ?_;refine hJ rfl rfl ?_;refine cK rfl (λal=>?_) (λal=>?_)
   ·refine gK ?_;refine gK ?_;refine wp_ret (v:=ax _) rfl rfl ?_;unfold gn;rw[if_neg (by simpa using he),if_pos aN,dA al]
    skip
   ·refine ie rfl rfl (by omega) ?_;exact cw ⟨j-1,by omega,i+1,rfl,by omega,bh (Decidable.not_not.1 al)⟩
  ·refine ia (by decide) ?_;exact cw ⟨rfl,Ik λm hm=>hb m (by omega)⟩
 rintro af ⟨rfl,bO⟩;refine wp_ret (v:=ax _) rfl rfl ?_;unfold gn;rw[if_neg (by simpa using he),if_pos aN,bO]
def Ry(slip:Int)(b3:aa)(e:Int)(v:aa):Prop:=∃a b,v=.bD [.agg [a,b],ax e]/\(e=0->a=ax slip/\b=b3)/\bG [a,b]=true
theorem HE{slip:Int}{b3:aa}{e:Int}(h:e≠0):Ry slip b3 e (.bD [.agg [ax 0,.bC],ax e]):=⟨_,_,rfl,λbc=>absurd bc h,rfl⟩
theorem Sz(k:Nat){slip:Int}{b3 x y:aa}{l:List aX}{ns:List Int}{ps:List a7}(h:iq b3 l)(aj:dI x ns)(mB:ns.length<4000)(aF:ov y ps)(ae:∀p∈ps,lk p)(cD:ps.length<4000):dT (k+4) 56 [.agg [ax slip,b3],x,y] (Ry slip b3 (gn slip l ns ps)):=by
 refine gj (t:=t56) (by kernel_rfl) (fn:=Tryz.f56) (by kernel_rfl) (by simp[dd,flagsOf,h.plain,aj.plain,aF.plain λp hm=>(ae p hm).c5]) ?_;have hlen:=h.len;refine eU (by simp only[ag,aD,aM,aS.aP,aR.aP,cF,nth,cM,List.getD_cons_succ,List.getD_cons_zero,aX.cells,a7.cells];rfl) rfl ?_;refine dr (aeZ k h) rfl ?_;refine hJ rfl rfl ?_;refine cK rfl (λhe=>?_) (λhe=>?_)
 ·refine wp_ret (v:=.bD [.agg [ax 0,.bC],ax _]) rfl rfl ?_;unfold gn;rw[if_pos he];exact HE he
 replace he:=Decidable.not_not.1 he;have gk:=QA he;refine ib rfl aj ?_;refine ez (λaf=>af=[]/\p6 ns 0 (l.length-1)) ?_ ?_
 ·refine wp_loop (λj af=>∃i:Nat,af=[ax i]/\i+j=ns.length/\∀m,m<i->0<=ns.getD m 0/\ns.getD m 0<=(l.length:Int)-1) ns.length (by omega) ⟨0,rfl,by omega,λm hm=>by omega⟩ ?_;rintro j af ⟨i,rfl,dL,hb⟩;refine hZ rfl rfl ?_;refine cK rfl (λbc=>?_) (λbc=>?_)
  ·have aU:i<ns.length:=by omega
   refine uG rfl aj rfl aU ?_;refine k9 rfl h.gS ?_;refine AT rfl rfl (by omega) ?_;refine dr (sV _ _ _ _) rfl ?_;refine kg rfl ?_;refine cK rfl (λal=>?_) (λal=>?_)
   ·refine gK ?_;refine gK ?_;refine wp_ret (v:=.bD [.agg [ax 0,.bC],ax 3]) rfl rfl ?_;unfold gn;rw[if_neg (by simpa using he),if_neg (λah=>al (by have:=ah _ (zI aU);omega))];exact HE (by decide)
   ·refine ie rfl rfl (by omega) ?_;refine cw ⟨j-1,by omega,i+1,rfl,by omega,λm hm=>?_⟩;by_cases e:m=i
    ·subst e;have:=Decidable.not_not.1 al;omega
    ·exact hb m (by omega)
  ·refine ia (by decide) ?_;exact cw ⟨rfl,uF (d:=0) λm hm=>hb m (by omega)⟩
 rintro af ⟨rfl,aN⟩;try refine eK (by(try simp only[List.length_cons,List.length_nil,Nat.reduceAdd,Nat.zero_add]);rfl) (by(try simp only[dz]);rfl) ?_
 refine wj rfl aF ?_;refine ez (λaf=>af=[]/\pI ps=0) ?_ ?_
 ·refine wp_loop (λj af=>∃i:Nat,af=[ax i]/\i+j=ps.length/\∀m,m<i->hj (ps.getD m default)=0) ps.length (by omega) ⟨0,rfl,by omega,λm hm=>by omega⟩ ?_;rintro j af ⟨i,rfl,dL,hb⟩;refine hZ rfl rfl ?_;refine cK rfl (λbc=>?_) (λbc=>?_)
  ·have aU:i<ps.length:=by omega
   have du:=BA aF aU;have dA:=λdB=>Jk (l:=ps) aU hb dB;have h9:=ae _ (Ll aU);have bh:hj (ps.getD i default)=0->∀m,m<i+1->hj (ps.getD m default)=0:=λaT m hm=>by
    by_cases e:m=i
    ·subst e;exact aT
    ·exact hb m (by omega)
   generalize ps.getD i default=p at du dA h9 bh;refine wp _ du ?_;refine dr (ae1 _ h9) rfl ?_;refine hJ rfl rfl ?_;refine cK rfl (λal=>?_) (λal=>?_)
   ·refine gK ?_;refine gK ?_;refine wp_ret (v:=.bD [.agg [ax 0,.bC],ax (hj p)]) rfl rfl ?_;unfold gn;rw[if_neg (by simpa using he),if_pos aN,dA al];exact HE al
   ·refine ie rfl rfl (by omega) ?_;exact cw ⟨j-1,by omega,i+1,rfl,by omega,bh (Decidable.not_not.1 al)⟩
  ·refine ia (by decide) ?_;exact cw ⟨rfl,Ik λm hm=>hb m (by omega)⟩
 rintro af ⟨rfl,bO⟩;refine wp_ret (v:=.bD [.agg [ax slip,b3],ax 0]) rfl (by simp[h.plain]) ?_;unfold gn;rw[if_neg (by simpa using he),if_pos aN,bO];exact⟨_,_,rfl,λ_=>⟨rfl,rfl⟩,by simp[h.plain]⟩
def agt(l:List Int)(i:Nat):Int:=if 0<=l.getD i 0/\l.getD i 0<=300 then(if 0<i/\l.getD i 0<=l.getD (i-1) 0 then 5 else 0)else 1
def Ko(l:List Int):Nat->Int
 |0=>0
 |n+1=>if Ko l n≠0 then Ko l n else agt l n
def aiu(l:List Int):Int:=if 16<l.length then 6 else Ko l l.length
def al8(slip:Int)(l:List aX)(n:Int)(ps:List Int):Int:=if gn slip l [n] []≠0 then gn slip l [n] []else aiu ps
end
section
open Go Go.RowKit
theorem Y8{l:List Int}{i:Nat}(h:i<l.length):l.take (i+1)=l.take i++[l.getD i 0]:=by
 rw[List.take_add_one];simp[List.getD_eq_getElem?_getD,h]
theorem adM{C:b2->FuncId->List aa->Option aa}{n:Nat}{R:Out->Prop}{d:Nat}{st:List aa}{t:Tree}{T:TypeId}{x y:aS}{a b:Nat}(aj:x.aP d st=ax a)(aF:y.aP d st=ax b)(hb:0<b)(k:b6 C n t (d+1) (ax ((a%b:Nat):Int)::st) R):b6 C n (.av (.bin .rem T x y) t) d st R:=by
 refine wp (ax ((a%b:Nat):Int)) ?_ k;have e:Int.tmod (a:Int) (b:Int)=((a%b:Nat):Int):=by rw[Int.tmod_eq_emod_of_nonneg (by omega)];simp
 simp only[Prim.fZ,aj,aF];rw[D3 (by omega),e]
theorem Kp(k:Nat){r:aX}(h:r.ok)(i:Nat):dT (k+1) 118 [.agg r.cells,ax i] λv=>v=ax (dp r i):=by
 refine gj (t:=t118) (by kernel_rfl) (fn:=Tryz.f118) (by kernel_rfl) (by simp[dd,flagsOf,aX.cells,h.c5.plain]) ?_;have U:=h.fI;have hi:=h.c5;refine eU (by simp only[ag,aD,aM,aS.aP,aR.aP,cF,nth,cM,List.getD_cons_succ,List.getD_cons_zero,aX.cells,a7.cells];rfl) rfl ?_;refine ib rfl (by assumption) ?_;refine adM rfl rfl (by omega) ?_;refine uG rfl hi rfl (Nat.mod_lt _ h.fI) ?_;exact wp_ret rfl rfl rfl
theorem SG(k:Nat){slip m r:Int}(h:-1000000<=m/\m<=1000000/\-1000000<=r/\r<=1000000):dT (k+1) 151 [ax m,ax r,ax slip] λv=>v=.bool (decide (m-r<=slip/\r-m<=slip)):=by
 refine gj (t:=t151) (by kernel_rfl) (fn:=Tryz.f151) (by kernel_rfl) rfl ?_;try refine eK (by(try simp only[List.length_cons,List.length_nil,Nat.reduceAdd,Nat.zero_add]);rfl) (by(try simp only[dz]);rfl) ?_
 refine ez (λaf=>af=[.bool (decide (m-r<=slip/\r-m<=slip))]) ?_ ?_
 ·refine q2 rfl rfl (by omega) (by omega) ?_;refine A6 rfl rfl ?_;refine cK rfl (λU=>?_) (λU=>?_)
  ·refine q2 rfl rfl (by omega) (by omega) ?_;refine A6 rfl rfl ?_;exact cw (sX (by omega))
  ·exact cw (EZ (by omega))
 ·rintro af rfl;exact wp_ret rfl rfl rfl
theorem adI{slip:Int}{l:List aX}{ns:List Int}{ps:List a7}(h:gn slip l ns ps=0):jA slip l=0/\p6 ns 0 (l.length-1)/\pI ps=0:=by
 unfold gn at h;split at h
 ·rename_i ah;exact absurd h ah
 ·rename_i ah;split at h
  ·rename_i aN;exact⟨Decidable.not_not.1 ah,aN,h⟩
  ·cases h
end
section
open Go Go.RowKit
theorem uH{k:Nat}{cs:List aa}(h:g3 Tryz.prog (k+1) 3 cs):∃n,cs=[ax n]:=by
 unfold g3 at h;rw[JM]at h;obtain⟨n,aI,_⟩:=h;exact⟨n,aI⟩
theorem agu:Tryz.prog.underlying 4=some .bool:=by kernel_rfl
theorem aaG{k:Nat}{cs:List aa}(h:g3 Tryz.prog (k+1) 4 cs):∃b,cs=[.bool b]:=by
 unfold g3 at h;rw[agu]at h;exact h
theorem c3:Tryz.prog.cellsOf 3=1:=by kernel_rfl
theorem Ux:Tryz.prog.cellsOf 58=3:=by kernel_rfl
theorem Pm{k:Nat}{cs:List aa}(h:g3 Tryz.prog (k+2) 22 cs):∃x l,cs=[x]/\dI x l:=by
 unfold g3 at h;rw[Kl]at h;simp only at h;rcases h with h|⟨off,ls,h,_,ak⟩
 ·exact⟨.bC,[],h,.inl ⟨rfl,rfl⟩⟩
 ·rw[c3]at h ak;have key:∀ls:List (List aa),(∀l∈ls,∃n,l=[ax n])->∃ns:List Int,ls.flatten=ns.map ax/\ns.length=ls.length:=by
   intro ls;induction ls with
   |nil=>intro _;exact⟨[],rfl,rfl⟩
   |cons a ls az=>
    intro au;obtain⟨n,rfl⟩:=au a (by simp);obtain⟨ns,U,ab⟩:=az λl hm=>au l (by simp[hm]);exact⟨n::ns,by simp[U],by simp[ab]⟩
  obtain⟨ns,U,ab⟩:=key ls λl hm=>uH (ak l hm).1;rw[U,←ab]at h;exact⟨_,ns,h,.inr ⟨off,rfl⟩⟩
theorem Hi{k:Nat}{t:TypeId}{ts:List TypeId}{cs:List aa}(a1:(match Tryz.prog.underlying t with|some (.struct bM)=>decide (bM.toList.map (·.type)=ts)|_=>false)=true)(h:g3 Tryz.prog (k+1) t cs):∃ls:List (List aa),cs=ls.flatten/\ls.length=ts.length/\∀(i:Nat) u l,ts[i]?=some u->ls[i]?=some l->g3 Tryz.prog k u l:=by
 unfold g3 at h;split at a1
 ·rename_i bM aiv;rw[aiv]at h;simp only[decide_eq_true_eq]at a1;obtain⟨ls,U,ab,al⟩:=h;refine⟨ls,U,by rw[ab,←a1];simp,λi u l hu ak=>?_⟩;rw[←a1]at hu;simp only[List.getElem?_map,Option.map_eq_some_iff]at hu;obtain⟨f,aQ,rfl⟩:=hu;exact(al i f l (by simpa using aQ) ak).1
 ·cases a1
theorem ae3{α:Type}{l:List α}(h:l.length=3):∃a b c,l=[a,b,c]:=by
 match l,h with
 |[a,b,c],_=>exact⟨a,b,c,rfl⟩
theorem ae4{α:Type}{l:List α}(h:l.length=2):∃a b,l=[a,b]:=by
 match l,h with
 |[a,b],_=>exact⟨a,b,rfl⟩
theorem ae5{α:Type}{l:List α}(h:l.length=5):∃a b c d e,l=[a,b,c,d,e]:=by
 match l,h with
 |[a,b,c,d,e],_=>exact⟨a,b,c,d,e,rfl⟩
theorem XL{k:Nat}{cs:List aa}(h:g3 Tryz.prog (k+3) 58 cs):∃r:aX,cs=r.cells/\dI r.sp r.st:=by
 obtain⟨ls,rfl,ak,ao⟩:=Hi (ts:=[22,3,3]) (by kernel_rfl) h;obtain⟨a,b,c,rfl⟩:=ae3 ak;obtain⟨x,st,rfl,hi⟩:=Pm (ao 0 22 a rfl rfl);obtain⟨n,rfl⟩:=uH (ao 1 3 b rfl rfl);obtain⟨m,rfl⟩:=uH (ao 2 3 c rfl rfl);exact⟨⟨x,st,n,m⟩,rfl,hi⟩
theorem WS{q:aa}(h:l4 Tryz.prog 6 27 q):∃slip b3 l,q=.agg [ax slip,b3]/\mQ b3 l/\∀r∈l,dI r.sp r.st:=by
 have au:ik Tryz.prog 27=some true:=by kernel_rfl
 unfold l4 at h;rw[au]at h;obtain⟨cs,rfl,ah⟩:=h;obtain⟨ls,rfl,ak,ao⟩:=Hi (ts:=[3,25]) (by kernel_rfl) ah;obtain⟨a,b,rfl⟩:=ae4 ak;obtain⟨slip,rfl⟩:=uH (ao 0 3 a rfl rfl);have hb:=ao 1 25 b rfl rfl;unfold g3 at hb;rw[Uv]at hb;simp only at hb;rcases hb with rfl|⟨off,ls,rfl,_,ak⟩
 ·exact⟨slip,.bC,[],rfl,.inl ⟨rfl,rfl⟩,by simp⟩
 ·rw[Ux]at ak;have key:∀ls:List (List aa),(∀l∈ls,∃r:aX,l=r.cells/\dI r.sp r.st)->∃rs:List aX,ls.flatten=dJ rs/\rs.length=ls.length/\∀r∈rs,dI r.sp r.st:=by
   intro ls;induction ls with
   |nil=>intro _;exact⟨[],rfl,rfl,by simp⟩
   |cons a ls az=>
    intro au;obtain⟨r,rfl,ad⟩:=au a (by simp);obtain⟨rs,U,ab,al⟩:=az λl hm=>au l (by simp[hm]);exact⟨r::rs,by simp[U],by simp[ab],by simp;exact⟨ad,al⟩⟩
  obtain⟨rs,U,ab,al⟩:=key ls λl hm=>XL (ak l hm).1;refine⟨slip,_,rs,rfl,.inr ⟨off,?_⟩,al⟩;rw[Ux,U,ab]
theorem Y2{q:aa}(h:l4 Tryz.prog 6 30 q):∃p:a7,q=.agg p.cells/\dI p.k6 p.g:=by
 have au:ik Tryz.prog 30=some true:=by kernel_rfl
 unfold l4 at h;rw[au]at h;obtain⟨cs,rfl,ah⟩:=h;obtain⟨ls,rfl,ak,ao⟩:=Hi (ts:=[22,3,3,3,4]) (by kernel_rfl) ah;obtain⟨a,b,c,d,e,rfl⟩:=ae5 ak;obtain⟨x,st,rfl,hi⟩:=Pm (ao 0 22 a rfl rfl);obtain⟨n,rfl⟩:=uH (ao 1 3 b rfl rfl);obtain⟨m,rfl⟩:=uH (ao 2 3 c rfl rfl);obtain⟨w,rfl⟩:=uH (ao 3 3 d rfl rfl);obtain⟨f,rfl⟩:=aaG (ao 4 4 e rfl rfl);exact⟨⟨x,st,n,m,w,f⟩,rfl,hi⟩
theorem acj{t:TypeId}{q:aa}(au:(match ik Tryz.prog t with|some true=>false|_=>true)=true)(h:l4 Tryz.prog 6 t q):g3 Tryz.prog 6 t [q]:=by
 unfold l4 at h;split at h
 ·rename_i e;rw[e]at au;cases au
 ·obtain⟨dF,rfl,h⟩:=h;exact h
theorem acf{q:aa}(h:l4 Tryz.prog 6 3 q):∃n,q=ax n:=by
 obtain⟨n,U⟩:=uH (acj (by kernel_rfl) h);exact⟨n,by injection U⟩
theorem D2{P:Program}{k:Nat}{t:TypeId}{ts:List TypeId}{bz:List aa}(h:qu P k (t::ts) bz):∃q Lm,bz=q::Lm/\l4 P k t q/\qu P k ts Lm:=by
 cases bz with
 |nil=>exact h.elim
 |cons q bz=>exact⟨q,bz,rfl,h.1,h.2⟩
theorem ace{P:Program}{k:Nat}{bz:List aa}(h:qu P k [] bz):bz=[]:=by
 cases bz with
 |nil=>rfl
 |cons q bz=>exact h.elim
theorem af4(k:Nat){slip:Int}{b3 y:aa}{l:List aX}{ps:List a7}(ad:mQ b3 l)(mE:∀r∈l,dI r.sp r.st)(aF:ov y ps)(qw:∀p∈ps,dI p.k6 p.g):dT (k+1) 21 [.agg [ax slip,b3],y] λv=>∃b,v=.bool b/\(b=false->(l.length<=20/\∀r∈l,r.st.length<=20)/\ps.length<=20/\∀p∈ps,p.g.length<=20):=by
 refine gj (t:=t21) (by kernel_rfl) (fn:=Tryz.f21) (by kernel_rfl) (by simp[dd,flagsOf,ad.Jg mE,aF.plain qw]) ?_;refine eU (by simp only[ag,aD,aM,aS.aP,aR.aP,cF,nth,cM,List.getD_cons_succ,List.getD_cons_zero,aX.cells,a7.cells];rfl) rfl ?_;refine ez (λaf=>af=[.bool (decide (20<l.length\/20<ps.length))]) ?_ ?_
 ·refine k9 rfl ad ?_;refine pf rfl rfl ?_;refine cK rfl (λU=>?_) (λU=>?_)
  ·exact cw (xi (by omega))
  ·refine wj rfl aF ?_;refine pf rfl rfl ?_;exact cw (sX (by omega))
 rintro af rfl;try refine eK (by(try simp only[List.length_cons,List.length_nil,Nat.reduceAdd,Nat.zero_add]);rfl) (by(try simp only[dz]);rfl) ?_
 refine cK rfl (λU=>?_) (λU=>?_)
 ·exact wp_ret rfl rfl ⟨true,rfl,λh=>by cases h⟩
 refine ez (λaf=>af=[]/\∀r∈l,r.st.length<=20) ?_ ?_
 ·refine wp_loop (λj af=>∃i:Nat,af=[ax i]/\i+j=l.length/\∀m,m<i->(l.getD m default).st.length<=20) l.length (by omega) ⟨0,rfl,by omega,λm hm=>by omega⟩ ?_;rintro j af ⟨i,rfl,hi,hb⟩;try refine eK (by(try simp only[List.length_cons,List.length_nil,Nat.reduceAdd,Nat.zero_add]);rfl) (by(try simp only[dz]);rfl) ?_
  refine k9 rfl ad ?_;refine hZ rfl rfl ?_;refine cK rfl (λab=>?_) (λab=>?_)
  ·have aU:i<l.length:=by omega
   have du:=m6 ad aU;have h9:=mE _ (pH aU);have bh:(l.getD i default).st.length<=20->∀m,m<i+1->(l.getD m default).st.length<=20:=λaT m hm=>by
    by_cases e:m=i
    ·subst e;exact aT
    ·exact hb m (by omega)
   generalize l.getD i default=r at du h9 bh;refine wp _ du ?_;refine ib rfl h9 ?_;refine pf rfl rfl ?_;refine cK rfl (λal=>?_) (λal=>?_)
   ·refine gK ?_;refine gK ?_;exact wp_ret rfl rfl ⟨true,rfl,λh=>by cases h⟩
   ·refine ie rfl rfl (by omega) ?_;exact cw ⟨j-1,by omega,i+1,rfl,by omega,bh (by omega)⟩
  ·refine ia (by decide) ?_;exact cw ⟨rfl,uF (d:=default) (P:=λr:aX=>r.st.length<=20) λm hm=>hb m (by omega)⟩
 rintro af ⟨rfl,tA⟩;try refine eK (by(try simp only[List.length_cons,List.length_nil,Nat.reduceAdd,Nat.zero_add]);rfl) (by(try simp only[dz]);rfl) ?_
 refine ez (λaf=>af=[]/\∀p∈ps,p.g.length<=20) ?_ ?_
 ·refine wp_loop (λj af=>∃i:Nat,af=[ax i]/\i+j=ps.length/\∀m,m<i->(ps.getD m default).g.length<=20) ps.length (by omega) ⟨0,rfl,by omega,λm hm=>by omega⟩ ?_;rintro j af ⟨i,rfl,hi,hb⟩;try refine eK (by(try simp only[List.length_cons,List.length_nil,Nat.reduceAdd,Nat.zero_add]);rfl) (by(try simp only[dz]);rfl) ?_
  refine wj rfl aF ?_;refine hZ rfl rfl ?_;refine cK rfl (λab=>?_) (λab=>?_)
  ·have aU:i<ps.length:=by omega
   have du:=BA aF aU;have h9:=qw _ (Ll aU);have bh:(ps.getD i default).g.length<=20->∀m,m<i+1->(ps.getD m default).g.length<=20:=λaT m hm=>by
    by_cases e:m=i
    ·subst e;exact aT
    ·exact hb m (by omega)
   generalize ps.getD i default=p at du h9 bh;refine wp _ du ?_;refine ib rfl h9 ?_;refine pf rfl rfl ?_;refine cK rfl (λal=>?_) (λal=>?_)
   ·refine gK ?_;refine gK ?_;exact wp_ret rfl rfl ⟨true,rfl,λh=>by cases h⟩
   ·refine ie rfl rfl (by omega) ?_;exact cw ⟨j-1,by omega,i+1,rfl,by omega,bh (by omega)⟩
  ·refine ia (by decide) ?_;exact cw ⟨rfl,uF (d:=default) (P:=λp:a7=>p.g.length<=20) λm hm=>hb m (by omega)⟩
 rintro af ⟨rfl,np⟩;exact wp_ret rfl rfl ⟨false,rfl,λ_=>⟨⟨by omega,tA⟩,by omega,np⟩⟩
theorem adN{l:List aX}{i:Nat}{r:aX}(h:∀r∈l,dI r.sp r.st)(ad:dI r.sp r.st):∀s∈l.set i r,dI s.sp s.st:=λs ao=>by
 rcases List.mem_or_eq_of_mem_set ao with bc|bc
 ·exact h s bc
 ·rw[bc];exact ad
theorem af8(k:Nat){slip:Int}{b3:aa}{l:List aX}(h:iq b3 l):dT (k+6) 22 [.agg [ax slip,b3],pQ] λv=>∃s2 oS ei Ce ss,v=.sl none 2 0 4 [ax slip,b3,ax s2,oS,ax s2,Ce,ax s2,oS]/\Hand s2 oS ei/\ei.length<=3/\iq Ce ss/\ss.length=ei.length:=by
 refine gj (t:=t22) (by kernel_rfl) (fn:=Tryz.f22) (by kernel_rfl) (by simp[dd,flagsOf,h.plain]) ?_;refine eU (by simp only[ag,aD,aM,aS.aP,aR.aP,cF,nth,cM,List.getD_cons_succ,List.getD_cons_zero,aX.cells,a7.cells];rfl) rfl ?_;refine nN (agi k 3 (by omega) (by omega)) rfl ?_;rintro v ⟨s2,oS,ei,rfl,cc,vM,F4,gk,bQ,fU⟩;have e4:Hand s2 oS ei:=⟨cc,vM,F4,gk,by omega,fU⟩;refine eU (by simp only[ag,aD,aM,aS.aP,aR.aP,cF,nth,cM,List.getD_cons_succ,List.getD_cons_zero,aX.cells,a7.cells];rfl) rfl ?_;refine k9 rfl (by assumption) ?_;refine Rw rfl (by omega) ?_;refine ez (λaf=>af=[.agg (dJ (ei.map eV))]) ?_ ?_
 ·refine wp_loop (λj af=>∃(i:Nat)(L:List aX),af=[ax i,.agg (dJ L)]/\i+j=ei.length/\L.length=ei.length/\∀k,k<i->L.getD k default=eV (ei.getD k default)) ei.length (by omega) ⟨0,List.replicate ei.length default,rfl,by omega,by simp,by simp⟩ ?_;rintro j af ⟨i,L,rfl,hi,dg,aq⟩;try refine eK (by(try simp only[List.length_cons,List.length_nil,Nat.reduceAdd,Nat.zero_add]);rfl) (by(try simp only[dz]);rfl) ?_
  refine Ii rfl ?_;refine hZ rfl rfl ?_;refine cK rfl (λbc=>?_) (λbc=>?_)
  ·have aU:i<ei.length:=by omega
   have du:=m6 F4 aU;have ad:=e4.get aU;have h9:=ad.c5;have h6:=ad.ei;generalize cn:ei.getD i default=r at h9 h6 du;refine wp _ du ?_;refine dr (JO (k+3) h9 (by omega)) rfl ?_;refine IL rfl rfl (by omega) ?_;refine eU (cs:=(eV r).cells) rfl rfl ?_;refine IM (r:=eV r) rfl rfl rfl (by omega) ?_;refine ie rfl rfl (by omega) ?_;refine cw ⟨j-1,by omega,i+1,L.set i (eV r),rfl,by omega,by simpa using dg,λk gx=>?_⟩;by_cases e:k=i
   ·subst e;have:k<L.length:=by omega
    rw[cn];simp[List.getD_eq_getElem?_getD,this]
   ·have:=aq k (by omega);simp only[List.getD_eq_getElem?_getD]at this⊢;rw[List.getElem?_set_ne (by omega)];exact this
  ·refine ia (by decide) ?_;have e:L=ei.map eV:=List.ext_getElem (by simpa using dg) λk U ab=>by
    have al:k<ei.length:=by simpa using ab
    have:=aq k (by omega);simpa[List.getD_eq_getElem?_getD,U,al]using this
   rw[e];exact cw rfl
 rintro af rfl;try refine eK (by(try simp only[List.length_cons,List.length_nil,Nat.reduceAdd,Nat.zero_add]);rfl) (by(try simp only[dz]);rfl) ?_
 refine k9 rfl h.gS ?_;refine pf rfl rfl ?_;have Co:(ei.map eV).length=ei.length:=by simp
 have BS:∀r∈ei.map eV,dI r.sp r.st:=Ji;have xw:∀r∈ei.map eV,r.st.length<=20:=λr ad=>by
  obtain⟨bR,ir,rfl⟩:=List.mem_map.1 ad;have:=(fU bR ir).ei;show bR.st.length<=20;omega
 generalize ei.map eV=D at Co BS xw;refine ez (λaf=>∃L:List aX,af=[.agg (dJ L)]/\L.length=ei.length/\(∀r∈L,dI r.sp r.st)/\∀r∈L,r.st.length<=20) ?_ ?_
 ·refine cK rfl (λU=>?_) (λU=>?_)
  ·have aU:0<l.length:=by omega
   have du:=m6 h.gS aU;have h9:=h.rd _ (pH aU);have h6:=h.ma _ (pH aU);generalize l.getD 0 default=r at du h9 h6;refine Ii rfl ?_;refine AT rfl rfl (by omega) ?_;refine nN (m8 (k+3) ((D.length-1:Nat):Int) (by omega) (by omega)) rfl ?_;rintro v ⟨m,rfl,Ur,xu⟩;obtain⟨m,rfl⟩:=Int.eq_ofNat_of_zero_le Ur;refine wp _ du ?_;refine dr (JO (k+3) h9 h6) rfl ?_;refine IL rfl rfl (by omega) ?_;refine eU (cs:=(eV r).cells) rfl rfl ?_;refine IM (r:=eV r) rfl rfl rfl (by omega) ?_;refine cw ⟨D.set m (eV r),rfl,by simp[Co],adN BS (.inr ⟨0,rfl⟩),λs ao=>?_⟩;rcases List.mem_or_eq_of_mem_set ao with bc|bc
   ·exact xw s bc
   ·rw[bc];exact h6
  ·exact cw ⟨D,rfl,Co,BS,xw⟩
 rintro af ⟨L,rfl,aiw,Uy,aix⟩;try refine eK (by(try simp only[List.length_cons,List.length_nil,Nat.reduceAdd,Nat.zero_add]);rfl) (by(try simp only[dz]);rfl) ?_
 refine Qz rfl ?_;have gr:=h.plain;have p2:=e4.plain;have p3:=GR Uy;refine wp_ret (v:=.sl none 2 0 4 [ax slip,b3,ax s2,oS,ax s2,.sl none 3 0 L.length (dJ L),ax s2,oS]) rfl (by simp[gr,p2,p3]) ⟨s2,oS,ei,_,L,rfl,e4,by omega,⟨.inr ⟨0,rfl⟩,Uy,by omega,aix⟩,aiw⟩
theorem Kh{bg gf eD fj fA gB jD k2:aa}:∀i:Nat,i<4->kp 2 (.sl none 2 0 4 [bg,gf,eD,fj,fA,gB,jD,k2]) (ax i)=some (.agg [[bg,eD,fA,jD].getD i .bad,[gf,fj,gB,k2].getD i .bad])
 |0,_=>rfl
 |1,_=>rfl
 |2,_=>rfl
 |3,_=>rfl
theorem ae6{id:Option Nat}{a b n:Nat}{cs:List aa}:ht Tryz.prog 48 (.sl id a b n cs)=some (ax n):=by
 have h:(match Tryz.prog.underlying 48 with|some (.slice _)=>true|_=>false)=true:=by kernel_rfl
 split at h
 ·rename_i e he;simp[ht,he]
 ·cases h
theorem aaz{C:b2->FuncId->List aa->Option aa}{n:Nat}{R:Out->Prop}{d:Nat}{st:List aa}{t:Tree}{x:aS}{id:Option Nat}{a b m:Nat}{cs:List aa}(aj:x.aP d st=.sl id a b m cs)(k:b6 C n t (d+1) (ax m::st) R):b6 C n (.av (.len 48 x) t) d st R:=wp _ (by simp only[Prim.fZ,aj];exact ae6) k
end
section
open Go Go.RowKit
abbrev lF(l:List Bool):List aa:=l.map aa.bool
def su(x:aa)(l:List Bool):Prop:=(x=.bC/\l=[])\/∃off,x=.sl none 1 off l.length (lF l)
theorem Pn(l:List Bool):bG (lF l)=true:=by
 induction l with
 |nil=>rfl
 |cons a l az=>simp[lF,bG,aa.plain];exact az
theorem su.plain{x:aa}{l:List Bool}(h:su x l):x.plain=true/\x.one=true:=by
 rcases h with⟨rfl,_⟩|⟨off,rfl⟩
 ·exact⟨rfl,rfl⟩
 ·exact⟨by simp only[aa.plain];exact Pn l,rfl⟩
theorem agv:Tryz.prog.underlying 119=some (.slice 4):=by kernel_rfl
theorem su.len{x:aa}{l:List Bool}(h:su x l):ht Tryz.prog 119 x=some (ax l.length):=by rcases h with⟨rfl,rfl⟩|⟨off,rfl⟩<;>simp[ht,agv]
theorem SH{x:aa}{l:List Bool}(h:su x l){n:Nat}(aI:n<l.length):kp 1 x (ax n)=some (.agg [.bool (l.getD n false)]):=by
 rcases h with⟨rfl,rfl⟩|⟨off,rfl⟩
 ·simp at aI
 ·have e:((lF l).drop (n*1)).take 1=[.bool (l.getD n false)]:=by
   rw[Nat.mul_one,List.drop_eq_getElem_cons (by simpa using aI)];simp[List.getD_eq_getElem?_getD,aI]
  simp only[kp,Int.toNat_natCast];rw[if_pos ⟨by omega,by omega,trivial,by rw[e];rfl⟩,e]
def BB(l:List Bool):aa:=match l with
 |[]=>.bC
 |a::l=>.sl none 1 0 (l.length+1) (lF (a::l))
theorem SI(l:List Bool):su (BB l) l:=by
 cases l with
 |nil=>exact .inl ⟨rfl,rfl⟩
 |cons a l=>exact .inr ⟨0,rfl⟩
section
variable{C:b2->FuncId->List aa->Option aa}{n:Nat}{R:Out->Prop}{d:Nat}{st:List aa}{t:Tree}
theorem Y9{x:aS}{v:aa}{l:List Bool}(aj:x.aP d st=v)(h:su v l)(k:b6 C n t (d+1) (ax l.length::st) R):b6 C n (.av (.len 119 x) t) d st R:=wp _ (by rw[←h.len,←aj];rfl) k
theorem adO{x:aS}{m:Nat}(aj:x.aP d st=ax m)(hm:m<1000000)(k:b6 C n t (d+1) (.agg (lF (List.replicate m false))::st) R):b6 C n (.av (.mk [.bool false] 1 x) t) d st R:=wp _ (by
 have e:∀n:Nat,e8 [.bool false] n=lF (List.replicate n false):=by
  intro n;induction n with
  |zero=>rfl
  |succ n az=>rw[e8,az,List.replicate_succ];rfl
 simp only[Prim.fZ,aj,tL,e,Int.toNat_natCast];rw[if_pos (by omega)]) k
theorem aaH{c:aR}{l:List Bool}(ah:c.aP d st=.agg (lF l))(k:b6 C n t (d+1) (.sl none 1 0 l.length (lF l)::st) R):b6 C n (.av (.bK 1 .real c) t) d st R:=wp _ (by simp[Prim.fZ,ah,iU,isNil]) k
theorem aaI{c:aR}{l:List Bool}(ah:c.aP d st=.agg (lF l))(k:b6 C n t (d+1) (BB l::st) R):b6 C n (.av (.bK 1 .cZ c) t) d st R:=wp _ (by
 cases l with
 |nil=>simp[Prim.fZ,ah,iU,isNil,BB]
 |cons a l=>simp[Prim.fZ,ah,iU,isNil,BB]) k
theorem aaJ{c:aR}{y:aS}{l:List Bool}{a:Bool}(ah:c.aP d st=.agg (lF l))(aF:y.aP d st=.sl none 1 0 1 [.bool a])(ak:l.length<1000000)(k:b6 C n t (d+1) (.agg (lF (l++[a]))::st) R):b6 C n (.av (.push 1 1 c y) t) d st R:=wp _ (by
 simp[Prim.fZ,ah,aF];omega) k
end
def Cp(slip:Int)(r:aX)(p:a7)(line:Nat)(fl:List Bool):Bool:=(List.range p.g.length).all λk=>fl.getD k false||nr slip (p.g.getD k 0) (dp r (line+k))
def n4(slip:Int)(r:aX)(p:a7)(line:Nat)(fl:List Bool):Bool:=decide (((line+p.g.length:Nat):Int)<=r.lines-1)&&(Cp slip r p line fl&&(!(pG slip r p line||sf slip r p line)&&sg slip r p))
theorem Za{slip:Int}{r:aX}{p:a7}{line n:Nat}:n4 slip r p line (List.replicate n false)=ln slip r p line:=by
 have e:∀k,(List.replicate n false).getD k false=false:=λk=>by
  simp only[List.getD_eq_getElem?_getD,List.getElem?_replicate];split<;>rfl
 have h:Cp slip r p line (List.replicate n false)=Ci slip r p line:=by
  unfold Cp Ci;congr 1;funext k;rw[e];rfl
 unfold n4 ln;rw[h]
theorem Jm{slip:Int}{r:aX}{p:a7}{line:Nat}:pG slip r p line=decide (0<line/\dp r (line-1)<=p.up-slip):=by
 unfold pG x3;by_cases U:0<line<;>by_cases ab:p.up-slip<dp r (line-1)
 ·have:¬dp r (line-1)<=p.up-slip:=by omega
  simp[U,ab,this]
 ·have:dp r (line-1)<=p.up-slip:=by omega
  simp[U,ab,this]
 ·simp[U]
 ·simp[U]
theorem Rz{slip:Int}{r:aX}{p:a7}{line:Nat}:sf slip r p line=decide (((line+p.g.length:Nat):Int)<r.lines-1/\dp r (line+p.g.length)<=p.aP-slip):=by
 unfold sf x3;by_cases U:((line+p.g.length:Nat):Int)<r.lines-1<;>by_cases ab:p.aP-slip<dp r (line+p.g.length)
 ·have:¬dp r (line+p.g.length)<=p.aP-slip:=by omega
  rw[decide_eq_true U,decide_eq_true ab,decide_eq_false (λh=>this h.2)];rfl
 ·have:dp r (line+p.g.length)<=p.aP-slip:=by omega
  rw[decide_eq_true U,decide_eq_false ab,decide_eq_true ⟨U,this⟩];rfl
 ·have al:¬(((line+p.g.length:Nat):Int)<r.lines-1/\dp r (line+p.g.length)<=p.aP-slip):=λh=>U h.1;rw[decide_eq_false U,decide_eq_false al];rfl
 ·have al:¬(((line+p.g.length:Nat):Int)<r.lines-1/\dp r (line+p.g.length)<=p.aP-slip):=λh=>U h.1;rw[decide_eq_false U,decide_eq_false al];rfl
theorem SJ{slip a b:Int}:nr slip a b=decide (a-b<=slip/\b-a<=slip):=by simp[nr]
theorem SK(k:Nat){slip:Int}(aT:0<=slip)(U:slip<=3){r:aX}(ad:r.ok){p:a7}(ae:p.ok){line:Nat}(ak:line<100){x:aa}{fl:List Bool}(aj:su x fl)(xr:fl.length=p.g.length):dT (k+2) 115 [.agg r.cells,ax slip,.agg p.cells,ax line,x] λv=>v=.bool (n4 slip r p line fl):=by
 refine gj (t:=t115) (by kernel_rfl) (fn:=Tryz.f115) (by kernel_rfl) (by simp[dd,flagsOf,a7.cells,ae.c5.plain,aX.cells,ad.c5.plain,aj.plain]) ?_;have fp:=ae.pR;have hn:=ad.hn;have k5:=ad.k5;have w1:=ad.w1;have w2:=ad.w2;have gr:=ae.ud;have p2:=ae.j7;have p3:=ae.d0;have p4:=ae.d1;have CI:=ae.c9;have vH:=ae.w1;have bh:=Jh ad;have oN:=ae.c5;refine eU (by simp only[ag,aD,aM,aS.aP,aR.aP,cF,nth,cM,List.getD_cons_succ,List.getD_cons_zero,aX.cells,a7.cells];rfl) rfl ?_;refine eU (by simp only[ag,aD,aM,aS.aP,aR.aP,cF,nth,cM,List.getD_cons_succ,List.getD_cons_zero,aX.cells,a7.cells];rfl) rfl ?_;refine ib rfl (by assumption) ?_;refine IN rfl rfl (by omega) ?_;refine ez (λaf=>af=[.bool (decide (r.lines-1<((line+p.g.length:Nat):Int)))]) ?_ ?_
 ·refine hZ rfl rfl ?_;refine pW rfl (by omega) ?_;refine q2 rfl rfl (by omega) (by omega) ?_;refine pf rfl rfl ?_;exact cw rfl
 rintro af rfl;try refine eK (by(try simp only[List.length_cons,List.length_nil,Nat.reduceAdd,Nat.zero_add]);rfl) (by(try simp only[dz]);rfl) ?_
 refine cK rfl (λab=>?_) (λab=>?_)
 ·refine wp_ret rfl rfl ?_;have al:¬(((line+p.g.length:Nat):Int)<=r.lines-1):=by omega
  unfold n4;rw[decide_eq_false al];rfl
 have aV:decide (((line+p.g.length:Nat):Int)<=r.lines-1)=true:=decide_eq_true (by omega);refine ez (λaf=>af=[]/\Cp slip r p line fl=true) ?_ ?_
 ·refine wp_loop (λj af=>∃i:Nat,af=[ax i]/\i+j=p.g.length/\∀k,k<i->(fl.getD k false||nr slip (p.g.getD k 0) (dp r (line+k)))=true) p.g.length (by omega) ⟨0,rfl,by omega,λk aq=>by omega⟩ ?_;rintro j af ⟨i,rfl,hi,hb⟩;refine ib rfl (by assumption) ?_;refine hZ rfl rfl ?_;refine cK rfl (λal=>?_) (λal=>?_)
  ·have aU:i<p.g.length:=by omega
   have aN:=ae.get aU;have ao:=bh (line+i);have kt:=tc oN aU;have Tx:(fl.getD i false||nr slip (p.g.getD i 0) (dp r (line+i)))=false->Cp slip r p line fl=false:=λh=>Bool.eq_false_iff.2 λah=>by
    have:=List.all_eq_true.1 ah i (by simpa using aU);rw[h]at this;cases this
   have bh:(fl.getD i false||nr slip (p.g.getD i 0) (dp r (line+i)))=true->∀k,k<i+1->(fl.getD k false||nr slip (p.g.getD k 0) (dp r (line+k)))=true:=λh k aq=>by
    by_cases e:k=i
    ·subst e;exact h
    ·exact hb k (by omega)
   generalize p.g.getD i 0=a at aN kt Tx bh;clear oN;refine ez (λaf=>af=[.bool (!(fl.getD i false||nr slip a (dp r (line+i))))]) ?_ ?_
   ·refine wp _ (SH aj (by omega)) ?_;refine wI rfl ?_;refine wq rfl (λaJ=>?_) (λaJ=>?_)
    ·have e:fl.getD i false=false:=by simpa using aJ
     refine wp _ kt ?_;refine IN rfl rfl (by omega) ?_;refine dr (Kp (k+0) ad (line+i)) rfl ?_;refine dr (SG (k+0) (slip:=slip) (m:=a) (r:=dp r (line+i)) (by omega)) rfl ?_;refine wI rfl ?_;rw[e,SJ,Bool.false_or];exact cw rfl
    ·have e:fl.getD i false=true:=by simpa using aJ
     rw[e,Bool.true_or];exact cw rfl
   rintro af rfl;try refine eK (by(try simp only[List.length_cons,List.length_nil,Nat.reduceAdd,Nat.zero_add]);rfl) (by(try simp only[dz]);rfl) ?_
   refine wq rfl (λaJ=>?_) (λaJ=>?_)
   ·refine gK ?_;refine gK ?_;refine wp_ret rfl rfl ?_;unfold n4;rw[aV,Tx (by cases ai:(fl.getD i false||nr slip a (dp r (line+i)))with|false=>rfl|true=>rw[ai]at aJ;cases aJ)];rfl
   ·refine ie rfl rfl (by omega) ?_;exact cw ⟨j-1,by omega,i+1,rfl,by omega,bh (by cases ai:(fl.getD i false||nr slip a (dp r (line+i)))with|true=>rfl|false=>rw[ai]at aJ;cases aJ)⟩
  ·refine ia (by decide) ?_;exact cw ⟨rfl,List.all_eq_true.2 λk aq=>hb k (by simp at aq;omega)⟩
 rintro af ⟨rfl,Ln⟩;try refine eK (by(try simp only[List.length_cons,List.length_nil,Nat.reduceAdd,Nat.zero_add]);rfl) (by(try simp only[dz]);rfl) ?_
 refine ez (λaf=>af=[.bool (decide (0<line/\dp r (line-1)<=p.up-slip))]) ?_ ?_
 ·refine pf rfl rfl ?_;refine cK rfl (λal=>?_) (λal=>?_)
  ·refine AT rfl rfl (by omega) ?_;refine dr (Kp (k+0) ad (line-1)) rfl ?_;refine q2 rfl rfl (by omega) (by omega) ?_;refine A6 rfl rfl ?_;exact cw (sX (by omega))
  ·exact cw (EZ (by omega))
 rintro af rfl;try refine eK (by(try simp only[List.length_cons,List.length_nil,Nat.reduceAdd,Nat.zero_add]);rfl) (by(try simp only[dz]);rfl) ?_
 refine cK rfl (λal=>?_) (λal=>?_)
 ·refine wp_ret rfl rfl ?_;unfold n4;rw[aV,Ln,Jm,decide_eq_true al];rfl
 refine ez (λaf=>af=[.bool (decide (((line+p.g.length:Nat):Int)<r.lines-1/\dp r (line+p.g.length)<=p.aP-slip))]) ?_ ?_
 ·refine q2 rfl rfl (by omega) (by omega) ?_;refine hZ rfl rfl ?_;refine cK rfl (λaJ=>?_) (λaJ=>?_)
  ·refine dr (Kp (k+0) ad (line+p.g.length)) rfl ?_;refine q2 rfl rfl (by omega) (by omega) ?_;refine A6 rfl rfl ?_;exact cw (sX (by omega))
  ·exact cw (EZ (by omega))
 rintro af rfl;try refine eK (by(try simp only[List.length_cons,List.length_nil,Nat.reduceAdd,Nat.zero_add]);rfl) (by(try simp only[dz]);rfl) ?_
 refine cK rfl (λaJ=>?_) (λaJ=>?_)
 ·refine wp_ret rfl rfl ?_;unfold n4;rw[aV,Ln,Jm,Rz,decide_eq_true aJ,decide_eq_false al];rfl
 refine ez (λaf=>af=[.bool (sg slip r p)]) ?_ ?_
 ·refine sM rfl rfl ?_;refine cK rfl (λbm=>?_) (λbm=>?_)
  ·have e:sg slip r p=true:=by unfold sg;rw[decide_eq_true bm];rfl
   rw[e];exact cw rfl
  ·refine dr (SG (k+0) (slip:=slip) (m:=p.wd) (r:=r.width) (by omega)) rfl ?_;have e:sg slip r p=nr slip p.wd r.width:=by unfold sg;rw[decide_eq_false bm];rfl
   rw[e,SJ];exact cw rfl
 rintro af rfl;try refine eK (by(try simp only[List.length_cons,List.length_nil,Nat.reduceAdd,Nat.zero_add]);rfl) (by(try simp only[dz]);rfl) ?_
 refine wp_ret rfl rfl ?_;unfold n4;rw[aV,Ln,Jm,Rz,decide_eq_false aJ,decide_eq_false al];rfl
theorem ae7(k:Nat){p:a7}(ae:p.ok):dT (k+1) 116 [.agg p.cells] λv=>v=.agg [m9 p.g.reverse,ax p.aP,ax p.up,ax p.wd,.bool p.fr]:=by
 refine gj (t:=t116) (by kernel_rfl) (fn:=Tryz.f116) (by kernel_rfl) (by simp[dd,flagsOf,a7.cells,ae.c5.plain]) ?_;have fp:=ae.pR;have oN:=ae.c5;refine eU (cs:=p.cells) rfl rfl ?_;refine ib rfl oN ?_;refine q2 rfl rfl (by omega) (by omega) ?_;refine ez (λaf=>af=[.agg (p.g.reverse.map ax)]) ?_ ?_
 ·refine wp_loop (λj af=>∃L:List Int,af=[ax ((j:Int)-1),.agg (L.map ax)]/\L.length+j=p.g.length/\L=p.g.reverse.take L.length) p.g.length (by omega) ⟨[],rfl,by simp,by simp⟩ ?_;rintro j af ⟨L,rfl,dg,aq⟩;refine Jl rfl rfl ?_;refine cK rfl (λh=>?_) (λh=>?_)
  ·obtain⟨m,rfl⟩:∃m,j=m+1:=⟨j-1,by omega⟩;have e:((m+1:Nat):Int)-1=(m:Int):=by omega
   rw[e];refine uG (m:=m) rfl oN rfl (by omega) ?_;refine Pk rfl rfl (by decide) (by omega) ?_;refine q2 rfl rfl (by omega) (by omega) ?_;refine cw ⟨m,by omega,L++[p.g.getD m 0],rfl,by simp;omega,?_⟩;rw[List.length_append,List.length_singleton,Y8 (by simp;omega),←aq];congr 2;simp only[List.getD_eq_getElem?_getD];rw[List.getElem?_reverse (by omega)];congr 2;omega
  ·refine ia (by decide) ?_;have e:L=p.g.reverse:=by rw[aq];exact List.take_of_length_le (by simp;omega)
   rw[e];exact cw rfl
 rintro af rfl;try refine eK (by(try simp only[List.length_cons,List.length_nil,Nat.reduceAdd,Nat.zero_add]);rfl) (by(try simp only[dz]);rfl) ?_
 refine Qv rfl ?_;have aH:=(rh p.g.reverse).plain;exact wp_ret (v:=.agg [m9 p.g.reverse,ax p.aP,ax p.up,ax p.wd,.bool p.fr]) rfl (by simp[aH]) rfl
theorem ae8(k:Nat){x:aa}{fl:List Bool}(aj:su x fl)(ak:fl.length<=20):dT (k+1) 117 [x] λv=>v=BB fl.reverse:=by
 refine gj (t:=t117) (by kernel_rfl) (fn:=Tryz.f117) (by kernel_rfl) (by simp[dd,flagsOf,aj.plain]) ?_;refine Y9 rfl aj ?_;refine q2 rfl rfl (by omega) (by omega) ?_;refine ez (λaf=>af=[.agg (lF fl.reverse)]) ?_ ?_
 ·refine wp_loop (λj af=>∃L:List Bool,af=[.agg (lF L),ax ((j:Int)-1)]/\L.length+j=fl.length/\L=fl.reverse.take L.length) fl.length (by omega) ⟨[],rfl,by simp,by simp⟩ ?_;rintro j af ⟨L,rfl,dg,aq⟩;refine Jl rfl rfl ?_;refine cK rfl (λh=>?_) (λh=>?_)
  ·obtain⟨m,rfl⟩:∃m,j=m+1:=⟨j-1,by omega⟩;have e:((m+1:Nat):Int)-1=(m:Int):=by omega
   rw[e];refine wp _ (SH (n:=m) aj (by omega)) ?_;refine aaJ rfl rfl (by omega) ?_;refine q2 rfl rfl (by omega) (by omega) ?_;refine cw ⟨m,by omega,L++[fl.getD m false],rfl,by simp;omega,?_⟩;rw[List.length_append,List.length_singleton,List.take_add_one,←aq];congr 1;rw[List.getElem?_reverse (by omega),show fl.length-1-L.length=m by omega];have hm:m<fl.length:=by omega
   simp[List.getD_eq_getElem?_getD,hm]
  ·refine ia (by decide) ?_;have e:L=fl.reverse:=by rw[aq];exact List.take_of_length_le (by simp;omega)
   rw[e];exact cw rfl
 rintro af rfl;try refine eK (by(try simp only[List.length_cons,List.length_nil,Nat.reduceAdd,Nat.zero_add]);rfl) (by(try simp only[dz]);rfl) ?_
 refine aaI rfl ?_;exact wp_ret rfl (SI fl.reverse).plain.1 rfl
def iV(slip:Int)(r:aX)(p:a7)(fl:List Bool)(t:Bool):Nat->List (Nat×Bool)
 |0=>[]
 |n+1=>iV slip r p fl t n++if n4 slip r p n fl=true then[(n,t)]else[]
def EJ(slip:Int)(r:aX)(p:a7)(fl:List Bool):List (Nat×Bool):=iV slip r p fl false r.lines.toNat++if p.fr then iV slip r (half p) fl.reverse true r.lines.toNat else[]
theorem Il(slip:Int)(r:aX)(p:a7)(fl:List Bool)(t:Bool)(n:Nat):(iV slip r p fl t n).length<=n:=by
 induction n with
 |zero=>simp[iV]
 |succ n az=>simp only[iV];split<;>simp<;>omega
theorem HF{slip:Int}{r:aX}{p:a7}{m:Nat}{t:Bool}:∀n,iV slip r p (List.replicate m false) t n=jz slip r p t n
 |0=>rfl
 |n+1=>by simp only[iV,jz,HF n,Za]
theorem WT{slip:Int}{r:aX}{p:a7}{m:Nat}:EJ slip r p (List.replicate m false)=kl slip r p:=by
 unfold EJ kl;rw[List.reverse_replicate,HF,HF]
theorem agw(k:Nat){slip:Int}(aT:0<=slip)(U:slip<=3){r:aX}(ad:r.ok){p:a7}(ae:p.ok){x:aa}{fl:List Bool}(aj:su x fl)(xr:fl.length=p.g.length):dT (k+3) 81 [.agg r.cells,ax slip,.agg p.cells,x] λv=>vO v (EJ slip r p fl):=by
 refine gj (t:=t81) (by kernel_rfl) (fn:=Tryz.f81) (by kernel_rfl) (by simp[dd,flagsOf,a7.cells,ae.c5.plain,aX.cells,ad.c5.plain,aj.plain]) ?_;have hn:=ad.hn;have k5:=ad.k5;have fp:=ae.pR;refine eU (by simp only[ag,aD,aM,aS.aP,aR.aP,cF,nth,cM,List.getD_cons_succ,List.getD_cons_zero,aX.cells,a7.cells];rfl) rfl ?_;refine eU (by simp only[ag,aD,aM,aS.aP,aR.aP,cF,nth,cM,List.getD_cons_succ,List.getD_cons_zero,aX.cells,a7.cells];rfl) rfl ?_;refine ez (λaf=>af=[.agg (gW (iV slip r p fl false r.lines.toNat))]) ?_ ?_
 ·refine wp_loop (λj af=>∃i:Nat,af=[.agg (gW (iV slip r p fl false i)),ax i]/\i+j=r.lines.toNat) r.lines.toNat (by omega) ⟨0,rfl,by omega⟩ ?_;rintro j af ⟨i,rfl,hi⟩;refine hZ rfl rfl ?_;refine cK rfl (λh=>?_) (λh=>?_)
  ·have hlen:=Il slip r p fl false i;refine dr (SK k aT U ad ae (line:=i) (by omega) aj xr) rfl ?_;refine ez (λaf=>af=[.agg (gW (iV slip r p fl false (i+1)))]) ?_ ?_
   ·simp only[iV];refine wq rfl (λal=>?_) (λal=>?_)
    ·rw[if_pos al];refine p5 (by simp only[ag,aD,aM,aS.aP,aR.aP,cF,nth,cM,List.getD_cons_succ,List.getD_cons_zero,aX.cells,a7.cells];rfl) rfl ?_;refine Po rfl rfl (by first|omega|(simp;omega)) ?_;exact cw rfl
    ·rw[if_neg (by simp[al]),List.append_nil];exact cw rfl
   rintro af rfl;refine ie rfl rfl (by omega) ?_;exact cw ⟨j-1,by omega,i+1,rfl,by omega⟩
  ·refine ia (by decide) ?_;have e:r.lines.toNat=i:=by omega
   rw[e];exact cw rfl
 rintro af rfl;try refine eK (by(try simp only[List.length_cons,List.length_nil,Nat.reduceAdd,Nat.zero_add]);rfl) (by(try simp only[dz]);rfl) ?_
 have aiy:=Il slip r p fl false r.lines.toNat;have lZ:(a7.mk (m9 p.g.reverse) p.g.reverse p.aP p.up p.wd p.fr).ok:=⟨rh _,by simpa using ae.pR,λx aj=>ae.gs x (by simpa using aj),ae.d0,ae.d1,ae.ud,ae.j7,ae.c9,ae.w1⟩;have ae9:∀i,n4 slip r ⟨m9 p.g.reverse,p.g.reverse,p.aP,p.up,p.wd,p.fr⟩ i fl.reverse=n4 slip r (half p) i fl.reverse:=λi=>rfl;have aw:EJ slip r p fl=iV slip r p fl false r.lines.toNat++if p.fr then iV slip r (half p) fl.reverse true r.lines.toNat else[]:=rfl
 rw[aw];generalize iV slip r p fl false r.lines.toNat=F at aiy;refine wp_loop (λj af=>∃i:Nat,af=[ax i,.agg (gW (F++if p.fr then iV slip r (half p) fl.reverse true i else[]))]/\i+j=r.lines.toNat/\(p.fr=false->i=0)) r.lines.toNat (by omega) ⟨0,by cases p.fr<;>simp[iV]<;>rfl,by omega,λ_=>rfl⟩ ?_;rintro j af ⟨i,rfl,hi,bO⟩;try refine eK (by(try simp only[List.length_cons,List.length_nil,Nat.reduceAdd,Nat.zero_add]);rfl) (by(try simp only[dz]);rfl) ?_
 refine ez (λaf=>af=[.bool (decide ((i:Int)<r.lines)&&p.fr)]) ?_ ?_
 ·refine hZ rfl rfl ?_;refine cK rfl (λh=>?_) (λh=>?_)
  ·rw[decide_eq_true h,Bool.true_and];exact cw rfl
  ·rw[decide_eq_false h,Bool.false_and];exact cw rfl
 rintro af rfl;try refine eK (by(try simp only[List.length_cons,List.length_nil,Nat.reduceAdd,Nat.zero_add]);rfl) (by(try simp only[dz]);rfl) ?_
 refine wq rfl (λh=>?_) (λh=>?_)
 ·simp only[Bool.and_eq_true,decide_eq_true_eq]at h;obtain⟨aU,ly⟩:=h;have hlen:=Il slip r (half p) fl.reverse true i;refine dr (ae7 (k+1) ae) rfl ?_;refine dr (ae8 (k+1) aj (by omega)) rfl ?_;refine dr (SK k aT U ad lZ (line:=i) (by omega) (SI fl.reverse) (by simpa using xr)) rfl ?_;rw[ae9];have eo:(F++if p.fr then iV slip r (half p) fl.reverse true (i+1)else[])=(F++if p.fr then iV slip r (half p) fl.reverse true i else[])++if n4 slip r (half p) i fl.reverse=true then[(i,true)]else[]:=by rw[if_pos ly,if_pos ly,List.append_assoc];rfl
  have sh:(F++if p.fr then iV slip r (half p) fl.reverse true i else[]).length<=24:=by rw[if_pos ly,List.length_append];omega
  generalize(F++if p.fr then iV slip r (half p) fl.reverse true i else[])=G at eo sh;refine wq rfl (λal=>?_) (λal=>?_)
  ·rw[if_pos (c:=n4 slip r (half p) i fl.reverse=true) al]at eo;refine p5 (by simp only[ag,aD,aM,aS.aP,aR.aP,cF,nth,cM,List.getD_cons_succ,List.getD_cons_zero,aX.cells,a7.cells];rfl) rfl ?_;refine Po rfl rfl (by first|omega|(simp;omega)) ?_;refine ie rfl rfl (by omega) ?_;refine cw ⟨j-1,by omega,i+1,?_,by omega,λh=>by rw[ly]at h;cases h⟩;rw[eo];rfl
  ·rw[if_neg (show ¬n4 slip r (half p) i fl.reverse=true by rw[al];exact Bool.false_ne_true),List.append_nil]at eo;refine ie rfl rfl (by omega) ?_;refine cw ⟨j-1,by omega,i+1,?_,by omega,λh=>by rw[ly]at h;cases h⟩;rw[eo];rfl
 ·have e:(if p.fr then iV slip r (half p) fl.reverse true i else[])=if p.fr then iV slip r (half p) fl.reverse true r.lines.toNat else[]:=by
   cases ly:p.fr with
   |false=>rfl
   |true=>
    rw[ly]at h;have:¬((i:Int)<r.lines):=by simpa using h
    rw[show i=r.lines.toNat by omega]
  rw[e];refine ack rfl ?_;refine gK ?_;exact wp_ret rfl (SF _).plain.1 (SF _)
theorem agd(k:Nat){p:a7}(ae:p.ok):dT (k+1) 82 [.agg p.cells] λv=>v=.sl none 1 0 p.g.length (lF (List.replicate p.g.length false)):=by
 refine gj (t:=t82) (by kernel_rfl) (fn:=Tryz.f82) (by kernel_rfl) (by simp[dd,flagsOf,a7.cells,ae.c5.plain]) ?_;have fp:=ae.pR;refine eU (cs:=p.cells) rfl rfl ?_;refine ib rfl ae.c5 ?_;refine adO rfl (by omega) ?_;refine aaH rfl ?_;have aH:=Pn (List.replicate p.g.length false);rw[List.length_replicate];exact wp_ret (v:=.sl none 1 0 p.g.length (lF (List.replicate p.g.length false))) rfl (by simpa using aH) rfl
theorem aeN(k:Nat){slip:Int}(aT:0<=slip)(U:slip<=3){r:aX}(ad:r.ok){p:a7}(ae:p.ok):dT (k+3) 81 [.agg r.cells,ax slip,.agg p.cells,.sl none 1 0 p.g.length (lF (List.replicate p.g.length false))] λv=>vO v (kl slip r p):=by
 have:=agw k aT U ad ae (x:=.sl none 1 0 p.g.length (lF (List.replicate p.g.length false))) (fl:=List.replicate p.g.length false) (.inr ⟨0,by simp⟩) (by simp);rwa[WT]at this
end
section
open Go Go.RowKit
theorem EY:dI .bC []:=.inl ⟨rfl,rfl⟩
def akV(slip:Int)(l:List aX)(n:Int):List Int:=if gn slip l [n] []=0 then tM (l.getD n.toNat default) (l.getD n.toNat default).lines.toNat else[]
def akv(slip:Int)(l:List aX)(n:Int)(p:a7):List (Nat×Bool):=if gn slip l [n] [p]=0 then kl slip (l.getD n.toNat default) p else[]
theorem tb{p:a7}:ov (.sl none 5 0 1 p.cells) [p]:=.inr ⟨0,by simp[uM]⟩
def lj(p:a7):a7:=⟨.sl none 1 0 p.g.length (p.g.map ax),p.g,p.up,p.aP,p.wd,p.fr⟩
theorem lk.dup{p:a7}(h:lk p):lk (lj p):=⟨.inr ⟨0,rfl⟩,h.len⟩
theorem agx(k:Nat){p:a7}(ae:lk p):dT (k+2) 69 [.sl none 5 0 1 p.cells,.sl none 5 0 1 (lj p).cells] λv=>v=.bool true:=by
 have aj:ov (.sl none 5 0 1 p.cells) [p]:=tb;have aF:ov (.sl none 5 0 1 (lj p).cells) [lj p]:=tb;refine gj (t:=t69) (by kernel_rfl) (fn:=Tryz.f69) (by kernel_rfl) (by simp[dd,flagsOf,aj.plain (by simpa using ae.c5),aF.plain (by simpa using ae.dup.c5)]) ?_;try refine eK (by(try simp only[List.length_cons,List.length_nil,Nat.reduceAdd,Nat.zero_add]);rfl) (by(try simp only[dz]);rfl) ?_
 refine wj rfl aj ?_;refine wj rfl aF ?_;refine hJ rfl rfl ?_;refine qV rfl ?_;refine ez (λaf=>af=[]) ?_ ?_
 ·refine wp_loop (λj af=>∃i:Nat,af=[ax i]/\i+j=1) 1 (by omega) ⟨0,rfl,by omega⟩ ?_;rintro j af ⟨i,rfl,hi⟩;try refine eK (by(try simp only[List.length_cons,List.length_nil,Nat.reduceAdd,Nat.zero_add]);rfl) (by(try simp only[dz]);rfl) ?_
  refine wj rfl aj ?_;refine hZ rfl rfl ?_;refine cK rfl (λh=>?_) (λh=>?_)
  ·have e:i=0:=by simp at h;omega
   subst e;have GH:kp 5 (.sl none 5 0 1 p.cells) (ax (0:Nat))=some (.agg [p.k6,ax p.up,ax p.aP,ax p.wd,.bool p.fr]):=BA aj (n:=0) (by simp);have dV:kp 5 (.sl none 5 0 1 (lj p).cells) (ax (0:Nat))=some (.agg [(lj p).k6,ax p.up,ax p.aP,ax p.wd,.bool p.fr]):=BA aF (n:=0) (by simp);refine wp _ GH ?_;refine wp _ dV ?_;refine ez (λaf=>af=[.bool false]) ?_ ?_
   ·refine dr (Ki k ae.c5 ae.dup.c5 (by have:=ae.len;omega)) rfl ?_;refine wI rfl ?_;refine qV rfl ?_;refine hJ rfl rfl ?_;refine pW rfl (by omega) ?_;refine hJ rfl rfl ?_;refine pW rfl (by omega) ?_;refine hJ rfl rfl ?_;refine pW rfl (by omega) ?_;refine acm rfl rfl ?_;refine cw ?_;show[aa.bool (p.fr != p.fr)]=[.bool false];simp
   rintro af rfl;refine qV rfl ?_;refine ie rfl rfl (by omega) ?_;exact cw ⟨j-1,by omega,1,rfl,by omega⟩
  ·refine ia (by decide) ?_;exact cw rfl
 ·rintro af rfl;exact wp_ret rfl rfl rfl
theorem agb(k:Nat){slip:Int}{b3:aa}{l:List aX}{p:a7}(h:iq b3 l)(ae:lk p):dT (k+3) 29 [.agg [ax slip,b3],.agg [ax slip,.sl none 3 0 l.length (dJ (l.map eV))],.sl none 5 0 1 p.cells,.sl none 5 0 1 (lj p).cells] λv=>v=.bool true:=by
 have aj:ov (.sl none 5 0 1 p.cells) [p]:=tb;have aF:ov (.sl none 5 0 1 (lj p).cells) [lj p]:=tb;refine gj (t:=t29) (by kernel_rfl) (fn:=Tryz.f29) (by kernel_rfl) (by simp[dd,flagsOf,h.plain,h.dup.plain,aj.plain (by simpa using ae.c5),aF.plain (by simpa using ae.dup.c5)]) ?_;refine eU (by simp only[ag,aD,aM,aS.aP,aR.aP,cF,nth,cM,List.getD_cons_succ,List.getD_cons_zero,aX.cells,a7.cells];rfl) rfl ?_;refine eU (by simp only[ag,aD,aM,aS.aP,aR.aP,cF,nth,cM,List.getD_cons_succ,List.getD_cons_zero,aX.cells,a7.cells];rfl) rfl ?_;refine ez (λaf=>af=[.bool true]) ?_ ?_
 ·refine dr (ags k h h.dup (aaF l)) rfl ?_;refine El rfl ?_;refine dr (agx k ae) rfl ?_;exact cw rfl
 ·rintro af rfl;exact wp_ret rfl rfl rfl
theorem acn(r:aX):gF (eV r)=gF r:=rfl
theorem QB:∀l:List aX,oj (l.map eV)=oj l
 |[]=>rfl
 |r::l=>by simp only[List.map_cons,oj,acn,QB l]
theorem aco{slip:Int}{l:List aX}:jA slip (l.map eV)=jA slip l:=by simp only[jA,List.length_map,QB]
theorem ab8{slip:Int}{l:List aX}{ns:List Int}{ps:List a7}:gn slip (l.map eV) ns ps=gn slip l ns ps:=by simp only[gn,aco,List.length_map]
theorem aay{slip:Int}{l:List aX}{ns:List Int}{p:a7}:gn slip l ns [lj p]=gn slip l ns [p]:=rfl
theorem aax{l:List aX}{i:Nat}(h:i<l.length):(l.map eV).getD i default=eV (l.getD i default):=by simp[List.getD_eq_getElem?_getD,h]
theorem adP(r:aX):∀i,a1 (eV r) i=a1 r i
 |0=>rfl
 |i+1=>by simp only[a1,adP r i];rfl
theorem Pp{slip:Int}{r:aX}{p:a7}{t:Bool}:∀n,jz slip r (lj p) t n=jz slip r p t n
 |0=>rfl
 |n+1=>by
  unfold jz;rw[Pp n];rfl
theorem Pq{slip:Int}{r:aX}{p:a7}{t:Bool}:∀n,jz slip r (half (lj p)) t n=jz slip r (half p) t n
 |0=>rfl
 |n+1=>by
  unfold jz;rw[Pq n];rfl
theorem XI{slip:Int}{r:aX}{p:a7}:kl slip r (lj p)=kl slip r p:=by
 unfold kl;rw[Pp,Pq];rfl
end
section
open Go Go.RowKit
def T0:Prim->Bool
 |.ins ..=>false
 |_=>true
def oc:Tree->Bool
 |.av p t=>T0 p&&oc t
 |.ite _ a b=>oc a&&oc b
 |.call _ _ t | .kL _ _ t | .pick _ _ t | .loop _ _ t=>oc t
 |.join _ a b=>oc a&&oc b
 |_=>true
section
variable(P:Program)(bM:Array Func)
theorem adi(t:TypeId)(x y:aa):u2 { P with funcs:=bM } t x y=u2 P t x y:=rfl
theorem Rd:∀(l:List Field)(i:Nat)(xs ys:List aa),s3 { P with funcs:=bM } l i xs ys=s3 P l i xs ys
 |[],_,[],[]=>rfl
 |[],_,_::_,_=>rfl
 |[],_,[],_::_=>rfl
 |_::_,_,[],_=>rfl
 |_::_,_,_::_,[]=>rfl
 |f::l,i,x::xs,y::ys=>by simp only[s3,adi,Rd l]
theorem adj(t:TypeId)(xs ys:List aa):za { P with funcs:=bM } t xs ys=za P t xs ys:=by
 have aK:Program.underlying { P with funcs:=bM } t=P.underlying t:=rfl;have aO:Program.depth { P with funcs:=bM }=P.depth:=rfl;simp only[za,Re,Ja,Rd,aK,aO]
theorem adk(op:BinOp)(t:TypeId)(x y:aa):eB { P with funcs:=bM } op t x y=eB P op t x y:=by
 have aK:Program.underlying { P with funcs:=bM } t=P.underlying t:=rfl;simp only[eB,adj,aK]
theorem abD(ρ:List aa){p:Prim}(h:T0 p=true):Prim.run { P with funcs:=bM } ρ p=Prim.run P ρ p:=by
 cases p with
 |ins=>cases h
 |bin op t x y=>exact adk P bM op t _ _
 |conv s d x=>simp only[Prim.run];rfl
 |idx t x i=>simp only[Prim.run];rfl
 |len t x=>simp only[Prim.run];rfl
 |slice t x lo hi=>simp only[Prim.run];rfl
 |_=>simp only[Prim.run]
theorem qS{C:b2->FuncId->List aa->Option aa}{n:Nat}:∀(t:Tree)(ω:b2)(ρ:List aa),oc t=true->eval { P with funcs:=bM } C n t ω ρ=eval P C n t ω ρ
 |.ret _,_,_,_=>rfl
 |.jump _ _,_,_,_=>rfl
 |.av p t,ω,ρ,h=>by
  simp only[oc,Bool.and_eq_true]at h;simp only[eval,abD P bM ρ h.1];congr 1;funext v;exact qS t _ _ h.2
 |.ite _ a b,ω,ρ,h=>by
  simp only[oc,Bool.and_eq_true]at h;simp only[eval,qS a _ _ h.1,qS b _ _ h.2]
 |.call _ _ t,ω,ρ,h=>by
  have e:=λω ρ=>qS (C:=C) (n:=n) t ω ρ h;simp only[eval,e]
 |.kL _ _ t,ω,ρ,h=>by
  have e:=λω ρ=>qS (C:=C) (n:=n) t ω ρ h;simp only[eval,e]
 |.pick _ _ t,ω,ρ,h=>by
  have e:=λω ρ=>qS (C:=C) (n:=n) t ω ρ h;simp only[eval,e]
 |.loop _ _ t,ω,ρ,h=>by
  have e:=λω ρ=>qS (C:=C) (n:=n) t ω ρ h;simp only[eval,e]
 |.join _ a b,ω,ρ,h=>by
  simp only[oc,Bool.and_eq_true]at h;have aK:=λω ρ=>qS (C:=C) (n:=n) a ω ρ h.1;have aO:=λω ρ=>qS (C:=C) (n:=n) b ω ρ h.2;simp only[eval,aK,aO]
 |.die,_,_,_=>rfl
end
theorem abE{C:b2->FuncId->List aa->Option aa}{n:Nat}{t:Tree}(h:oc t=true)(ω:b2)(ρ:List aa):eval cl C n t ω ρ=eval Tryz.prog C n t ω ρ:=qS Tryz.prog cl.funcs t ω ρ h
theorem Rf{k:Nat}{g:FuncId}{args:List aa}{t:Tree}{fn:Func}{Q:aa->Prop}(a1:PP.cA g=some t)(aQ:cl.funcs[g]?=some fn)(gN:dd (flagsOf 23 fn) args=true)(ar:oc t=true)(h:bN Tryz.prog (PP.E cl k) 4096 t args λo=>∃v,o=.val v/\v.plain=true/\Q v):ks (PP.E cl) (k+1) g args Q:=by
 intro ω;obtain⟨o,U,v,rfl,ae,gI⟩:=h ω;refine⟨v,?_,gI⟩;unfold PP.E;simp only[g6,a1,aQ];rw[if_pos gN,abE ar];have bc:=U;unfold PP.E at bc;rw[bc];simp[ae]
theorem adl{g:FuncId}(h:zx g=true):PP.cA g=cA g:=by
 have aT:=h;simp only[zx,Bool.and_eq_true,bne_iff_ne,ne_eq]at aT;obtain⟨t,a1⟩:=Option.isSome_iff_exists.1 aT.1;obtain⟨w,hm,rfl,_⟩:=iN.DW a1;have U:(w.g=91\/w.g=92\/w.g=96\/w.g=121\/w.g=122\/w.g=123\/w.g=130\/w.g=131\/w.g=163)\/w.g=103\/w.g=58:=by
  have key:PP.xW.rows.all (λw=>decide ((w.g=91\/w.g=92\/w.g=96\/w.g=121\/w.g=122\/w.g=123\/w.g=130\/w.g=131\/w.g=163)\/w.g=103\/w.g=58))=true:=by kernel_rfl
  exact of_decide_eq_true (List.all_eq_true.1 key w hm)
 rcases U with U|U|U
 ·have fG:PP.cA 91=cA 91:=(show PP.cA 91=some t91 by kernel_rfl).trans (show cA 91=some t91 by kernel_rfl).symm;have ha:PP.cA 92=cA 92:=(show PP.cA 92=some t92 by kernel_rfl).trans (show cA 92=some t92 by kernel_rfl).symm;have od:PP.cA 96=cA 96:=(show PP.cA 96=some t96 by kernel_rfl).trans (show cA 96=some t96 by kernel_rfl).symm;have FK:PP.cA 121=cA 121:=(show PP.cA 121=some t121 by kernel_rfl).trans (show cA 121=some t121 by kernel_rfl).symm;have FL:PP.cA 122=cA 122:=(show PP.cA 122=some t122 by kernel_rfl).trans (show cA 122=some t122 by kernel_rfl).symm;have zy:PP.cA 123=cA 123:=(show PP.cA 123=some t123 by kernel_rfl).trans (show cA 123=some t123 by kernel_rfl).symm;have ahm:PP.cA 130=cA 130:=(show PP.cA 130=some t130 by kernel_rfl).trans (show cA 130=some t130 by kernel_rfl).symm;have T1:PP.cA 131=cA 131:=(show PP.cA 131=some t131 by kernel_rfl).trans (show cA 131=some t131 by kernel_rfl).symm;have ahn:PP.cA 163=cA 163:=(show PP.cA 163=some t163 by kernel_rfl).trans (show cA 163=some t163 by kernel_rfl).symm;rcases U with e|e|e|e|e|e|e|e|e
  ·rw[e];exact fG
  ·rw[e];exact ha
  ·rw[e];exact od
  ·rw[e];exact FK
  ·rw[e];exact FL
  ·rw[e];exact zy
  ·rw[e];exact ahm
  ·rw[e];exact T1
  ·rw[e];exact ahn
 ·exact absurd U aT.2.1
 ·exact absurd U aT.2.2
theorem abF:PP.xW.rows.all (λw=>match PP.xW.tree w with|some t=>oc t|none=>true)=true:=by kernel_rfl
theorem adm{g:FuncId}{t:Tree}(h:PP.cA g=some t):oc t=true:=by
 obtain⟨w,hm,_,e⟩:=iN.DW h;have:=List.all_eq_true.1 abF w hm;rwa[e]at this
instance ak6:oX (PP.E cl):=⟨λ{k g args t fn Q} aN a1 aQ gN h=>by
 simp only[zx,Bool.and_eq_true,bne_iff_ne,ne_eq]at aN;have T2:PP.cA g=some t:=by rw[adl (by simp[zx,aN])];exact a1
 exact Rf T2 (by rw[Qe aN.2.1 aN.2.2];exact aQ) gN (adm T2) h⟩
theorem No:∀{a b:List aa},hv (a++b)=(hv a&&hv b)
 |[],_=>by simp[hv]
 |x::a,b=>by simp[hv,No,Bool.and_assoc]
theorem aaa(l:List Int):hv (l.map ax)=true:=by
 induction l with
 |nil=>rfl
 |cons a l az=>simp[hv,aa.l1,az]
theorem dI.l1{x:aa}{l:List Int}(h:dI x l):x.l1=true:=by
 rcases h with⟨rfl,_⟩|⟨off,rfl⟩
 ·rfl
 ·simp[aa.l1,aaa]
theorem Xu{l:List aX}(h:∀r∈l,r.ok):hv (dJ l)=true:=by
 induction l with
 |nil=>rfl
 |cons r l az=>
  have e:dJ (r::l)=r.cells++dJ l:=by simp[dJ]
  rw[e,No,az λx aj=>h x (by simp[aj])];simp[aX.cells,hv,aa.l1,(h r (by simp)).c5.l1]
theorem Hand.l1{slip:Int}{b3:aa}{l:List aX}(h:Hand slip b3 l):b3.l1=true:=by
 rcases h.gS with⟨rfl,_⟩|⟨off,rfl⟩
 ·rfl
 ·simp[aa.l1,Xu h.ok]
theorem Rg(k:Nat){slip:Int}{b3:aa}{l:List aX}(h:Hand slip b3 l){p:a7}(ae:p.ok){i:Nat}(hi:i<l.length):ks (PP.E cl) (k+5) 103 [.ca,.bJ none 0 [ax slip,b3],.bJ none 0 [ax i],.bJ none 0 p.cells,.ca] λv=>v=.bD [.bool (kn slip (l.getD i default) p),ax i]:=by
 refine Rf (t:=PP.t103) (by kernel_rfl) (fn:=yW) (by kernel_rfl) (by
  have e:flagsOf 23 yW=[false,false,false,false,false]:=by kernel_rfl
  rw[e];simp[dd,a7.cells,ae.c5.plain,h.plain];rfl) (by kernel_rfl) ?_
 refine(?_:b6 (PP.E cl (k+4)) 4096 PP.t103 5 (dz [.ca,.bJ none 0 [ax slip,b3],.bJ none 0 [ax i],.bJ none 0 p.cells,.ca] []) _).run rfl;have ad:=h.get hi;have du:=m6 h.gS hi;generalize l.getD i default=r at ad du;refine ez (λaf=>af=[]) (cw rfl) ?_;rintro af rfl;refine wp _ rfl ?_;refine wp _ rfl ?_;refine dr (afE (C:=PP.E cl) (k+3) slip) rfl ?_;refine wp _ rfl ?_;refine wp _ rfl ?_;refine wp _ du ?_;refine wp _ rfl ?_;refine dr (afF (C:=PP.E cl) k h.cc h.s1 ad ae) rfl ?_;exact wp_ret rfl rfl rfl
theorem Rh{n:Nat}(h:n<=4)(b:Nat->Bool):rN n b=(List.range n).filter b:=by
 match n,h with
 |0,_=>simp[rN]
 |1,_=>simp only[rN,List.range_succ,List.range_zero,List.nil_append,List.cons_append,List.filter];simp
 |2,_=>simp only[rN,List.range_succ,List.range_zero,List.nil_append,List.cons_append,List.filter];simp
 |3,_=>simp only[rN,List.range_succ,List.range_zero,List.nil_append,List.cons_append,List.filter];simp
 |4,_=>simp only[rN,List.range_succ,List.range_zero,List.nil_append,List.cons_append,List.filter];simp
def oe(slip:Int)(l:List aX)(p:a7)(n:Nat):List Nat:=(List.range n).filter λi=>kn slip (l.getD i default) p
def hy(slip:Int)(l:List aX)(p:a7)(n:Nat):List Int:=(oe slip l p n).map λ(i:Nat)=>(i:Int)
theorem Ei(slip:Int)(l:List aX)(p:a7)(n:Nat):(hy slip l p n).length<=n:=by
 unfold hy oe;rw[List.length_map];exact Nat.le_trans (List.length_filter_le _ _) (by simp)
theorem Qf(l:List Nat):dI (lS l) (l.map λ(i:Nat)=>(i:Int)):=by
 unfold lS;split
 ·rename_i e;cases l with
  |nil=>exact .inl ⟨rfl,rfl⟩
  |cons a l=>cases e
 ·exact .inr ⟨0,by simp⟩
theorem Sl(k:Nat){slip:Int}{b3:aa}{l:List aX}(h:Hand slip b3 l){p:a7}(ae:p.ok):dT (k+1) 58 [.agg [ax slip,b3],.agg p.cells] λv=>v=lS (oe slip l p l.length):=by
 have aw:yX [.agg [ax slip,b3],.agg p.cells] (oe slip l p l.length):=⟨[ax slip,b3],p.cells,b3,l.length,λi=>kn slip (l.getD i default) p,rfl,by simp[hv,aa.l1,h.l1],by simp[a7.cells,hv,aa.l1,ae.c5.l1],by simp[bG,h.plain],by simp[a7.cells,ae.c5.plain],rfl,by
  rcases h.gS with⟨rfl,rfl⟩|⟨off,rfl⟩
  ·exact .inl ⟨rfl,rfl⟩
  ·exact .inr ⟨_,_,_,rfl⟩,h.fI,λi hi ω=>by
   obtain⟨v,ai,rfl⟩:=Rg 4 h ae hi ω;exact ai,(Rh h.fI _).symm⟩
 intro ω;refine⟨_,?_,rfl⟩;have a1:cA 58=none:=by kernel_rfl
 have key:∀aG,yX [.agg [ax slip,b3],.agg p.cells] aG->aG=oe slip l p l.length:=by
  rintro aG ⟨ah,eg,cy,n,bit,iM⟩;obtain⟨aK,aO⟩:[ax slip,b3]=ah/\p.cells=eg:=by have:=iM.a;simpa using this
  subst aK aO;have aH:cy=b3:=by have:=iM.q;simpa using this.symm
  subst aH;have aI:n=l.length:=by
   rcases iM.r with⟨e,rfl⟩|⟨_,_,_,e⟩<;>rcases h.gS with⟨e',aO⟩|⟨off,e'⟩<;>rw[e']at e
   ·rw[aO];rfl
   ·cases e
   ·cases e
   ·injection e with _ _ _ e _;exact e.symm
  rw[iM.l,Rh iM.U4,aI];unfold oe;refine List.filter_congr λi hi=>?_;rw[List.mem_range]at hi;have U:=iM.b i (by omega) ω;obtain⟨v,ai,rfl⟩:=Rg 4 h ae hi ω;rw[ai]at U;simpa using U.symm
 have hex:∃aG,yX [.agg [ax slip,b3],.agg p.cells] aG:=⟨_,aw⟩;have e:pj ω 58 [.agg [ax slip,b3],.agg p.cells]=some (lS (oe slip l p l.length)):=by
  unfold pj;rw[if_pos rfl,dif_pos hex,key _ hex.choose_spec]
 unfold E;simp only[g6,a1];exact e
end
end Go.Proofs.YtlminnpaeaganaaGreat
