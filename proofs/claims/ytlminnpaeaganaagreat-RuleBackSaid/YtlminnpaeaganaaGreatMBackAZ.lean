/- Part of the proof of RuleBack. No condition. -/
import Derived.Test.YtlminnpaeaganaaGreatMBackAW
import Derived.Test.YtlminnpaeaganaaGreatMBackAX
import Derived.Test.YtlminnpaeaganaaGreatMBackAY
namespace Go.Proofs.YtlminnpaeaganaaGreat
set_option maxRecDepth 100000
set_option linter.all false
section
open Go Go.RowKit
theorem QA{slip:Int}{l:List aX}(h:jA slip l=0):1<=l.length:=by
 unfold jA at h;split at h
 ·split at h
  ·cases h
  ·omega
 ·cases h
theorem SB(k:Nat){slip:Int}{b3 x y:aa}{l:List aX}{ns:List Int}{ps:List a7}(h:iq b3 l)(aj:dI x ns)(mB:ns.length<4000)(aF:ov y ps)(ae:∀p∈ps,lk p)(cD:ps.length<4000):dT (k+4) 64 [.agg [ax slip,b3],x,y] λv=>v=ax (gn slip l ns ps):=by
 refine gj (t:=t64) (by kernel_rfl) (fn:=Tryz.f64) (by kernel_rfl) (by simp[dd,flagsOf,h.plain,aj.plain,aF.plain λp hm=>(ae p hm).c5]) ?_;have hlen:=h.len;refine eU (by simp only[ag,aD,aM,aS.aP,aR.aP,cF,nth,cM,List.getD_cons_succ,List.getD_cons_zero,aX.cells,a7.cells];rfl) rfl ?_;refine dr (ae0 k h) rfl ?_;refine hJ rfl rfl ?_;refine cK rfl (λhe=>?_) (λhe=>?_)
 ·refine wp_ret (v:=ax _) rfl rfl ?_;unfold gn;rw[if_pos he]
 replace he:=Decidable.not_not.1 he;have gk:=QA he;refine ez (λaf=>af=[]/\p6 ns 0 (l.length-1)) ?_ ?_
 ·refine wp_loop (λj af=>∃i:Nat,af=[ax i]/\i+j=ns.length/\∀m,m<i->0<=ns.getD m 0/\ns.getD m 0<=(l.length:Int)-1) ns.length (by omega) ⟨0,rfl,by omega,λm hm=>by omega⟩ ?_;rintro j af ⟨i,rfl,dL,hb⟩;try refine eK (by(try simp only[List.length_cons,List.length_nil,Nat.reduceAdd,Nat.zero_add]);rfl) (by(try simp only[dz]);rfl) ?_
  refine ib rfl aj ?_;refine hZ rfl rfl ?_;refine cK rfl (λbc=>?_) (λbc=>?_)
  ·have aU:i<ns.length:=by omega
   refine uG rfl aj rfl aU ?_;refine k9 rfl h.gS ?_;refine AT rfl rfl (by omega) ?_;refine dr (sW _ _ _ _) rfl ?_;refine kg rfl ?_;refine cK rfl (λal=>?_) (λal=>?_)
   ·refine gK ?_;refine gK ?_;refine wp_ret (v:=ax _) rfl rfl ?_;unfold gn;rw[if_neg (by simpa using he),if_neg (λah=>al (by have:=ah _ (zI aU);omega))]
    skip
   ·refine ie rfl rfl (by omega) ?_;refine cw ⟨j-1,by omega,i+1,rfl,by omega,λm hm=>?_⟩;by_cases e:m=i
    ·subst e;have:=Decidable.not_not.1 al;omega
    ·exact hb m (by omega)
  ·refine ia (by decide) ?_;exact cw ⟨rfl,uF (d:=0) λm hm=>hb m (by omega)⟩
 rintro af ⟨rfl,aN⟩;try refine eK (by(try simp only[List.length_cons,List.length_nil,Nat.reduceAdd,Nat.zero_add]);rfl) (by(try simp only[dz]);rfl) ?_
 refine ez (λaf=>af=[]/\pI ps=0) ?_ ?_
 ·refine wp_loop (λj af=>∃i:Nat,af=[ax i]/\i+j=ps.length/\∀m,m<i->hj (ps.getD m default)=0) ps.length (by omega) ⟨0,rfl,by omega,λm hm=>by omega⟩ ?_;rintro j af ⟨i,rfl,dL,hb⟩;try refine eK (by(try simp only[List.length_cons,List.length_nil,Nat.reduceAdd,Nat.zero_add]);rfl) (by(try simp only[dz]);rfl) ?_
  refine wj rfl aF ?_;refine hZ rfl rfl ?_;refine cK rfl (λbc=>?_) (λbc=>?_)
  ·have aU:i<ps.length:=by omega
   have du:=BA aF aU;have dA:=λdB=>Jk (l:=ps) aU hb dB;have h9:=ae _ (Ll aU);have bh:hj (ps.getD i default)=0->∀m,m<i+1->hj (ps.getD m default)=0:=λaT m hm=>by
    by_cases e:m=i
    ·subst e;exact aT
    ·exact hb m (by omega)
   generalize ps.getD i default=p at du dA h9 bh;refine wp _ du ?_;refine dr (ae2 _ h9) rfl ?_;refine hJ rfl rfl ?_;refine cK rfl (λal=>?_) (λal=>?_)
   ·refine gK ?_;refine gK ?_;refine wp_ret (v:=ax _) rfl rfl ?_;unfold gn;rw[if_neg (by simpa using he),if_pos aN,dA al]
    skip
   ·refine ie rfl rfl (by omega) ?_;exact cw ⟨j-1,by omega,i+1,rfl,by omega,bh (Decidable.not_not.1 al)⟩
  ·refine ia (by decide) ?_;exact cw ⟨rfl,Ik λm hm=>hb m (by omega)⟩
 rintro af ⟨rfl,bO⟩;refine wp_ret (v:=ax _) rfl rfl ?_;unfold gn;rw[if_neg (by simpa using he),if_pos aN,bO]
def Ry(slip:Int)(b3:aa)(e:Int)(v:aa):Prop:=∃a b,v=.bD [.agg [a,b],ax e]/\(e=0->a=ax slip/\b=b3)/\bG [a,b]=true
theorem HE{slip:Int}{b3:aa}{e:Int}(h:e≠0):Ry slip b3 e (.bD [.agg [ax 0,.bC],ax e]):=⟨_,_,rfl,λbc=>absurd bc h,rfl⟩
theorem Sz(k:Nat){slip:Int}{b3 x y:aa}{l:List aX}{ns:List Int}{ps:List a7}(h:iq b3 l)(aj:dI x ns)(mB:ns.length<4000)(aF:ov y ps)(ae:∀p∈ps,lk p)(cD:ps.length<4000):dT (k+4) 56 [.agg [ax slip,b3],x,y] (Ry slip b3 (gn slip l ns ps)):=by
 refine gj (t:=t56) (by kernel_rfl) (fn:=Tryz.f56) (by kernel_rfl) (by simp[dd,flagsOf,h.plain,aj.plain,aF.plain λp hm=>(ae p hm).c5]) ?_;have hlen:=h.len;refine eU (by simp only[ag,aD,aM,aS.aP,aR.aP,cF,nth,cM,List.getD_cons_succ,List.getD_cons_zero,aX.cells,a7.cells];rfl) rfl ?_;refine dr (aeZ k h) rfl ?_;refine hJ rfl rfl ?_;refine cK rfl (λhe=>?_) (λhe=>?_)
 ·refine wp_ret (v:=.bD [.agg [ax 0,.bC],ax _]) rfl rfl ?_;unfold gn;rw[if_pos he];exact HE he
 replace he:=Decidable.not_not.1 he;have gk:=QA he;refine ib rfl aj ?_;refine ez (λaf=>af=[]/\p6 ns 0 (l.length-1)) ?_ ?_
 ·refine wp_loop (λj af=>∃i:Nat,af=[ax i]/\i+j=ns.length/\∀m,m<i->0<=ns.getD m 0/\ns.getD m 0<=(l.length:Int)-1) ns.length (by omega) ⟨0,rfl,by omega,λm hm=>by omega⟩ ?_;rintro j af ⟨i,rfl,dL,hb⟩;refine hZ rfl rfl ?_;refine cK rfl (λbc=>?_) (λbc=>?_)
  ·have aU:i<ns.length:=by omega
   refine uG rfl aj rfl aU ?_;refine k9 rfl h.gS ?_;refine AT rfl rfl (by omega) ?_;refine dr (sV _ _ _ _) rfl ?_;refine kg rfl ?_;refine cK rfl (λal=>?_) (λal=>?_)
   ·refine gK ?_;refine gK ?_;refine wp_ret (v:=.bD [.agg [ax 0,.bC],ax 3]) rfl rfl ?_;unfold gn;rw[if_neg (by simpa using he),if_neg (λah=>al (by have:=ah _ (zI aU);omega))];exact HE (by decide)
   ·refine ie rfl rfl (by omega) ?_;refine cw ⟨j-1,by omega,i+1,rfl,by omega,λm hm=>?_⟩;by_cases e:m=i
    ·subst e;have:=Decidable.not_not.1 al;omega
    ·exact hb m (by omega)
  ·refine ia (by decide) ?_;exact cw ⟨rfl,uF (d:=0) λm hm=>hb m (by omega)⟩
 rintro af ⟨rfl,aN⟩;try refine eK (by(try simp only[List.length_cons,List.length_nil,Nat.reduceAdd,Nat.zero_add]);rfl) (by(try simp only[dz]);rfl) ?_
 refine wj rfl aF ?_;refine ez (λaf=>af=[]/\pI ps=0) ?_ ?_
 ·refine wp_loop (λj af=>∃i:Nat,af=[ax i]/\i+j=ps.length/\∀m,m<i->hj (ps.getD m default)=0) ps.length (by omega) ⟨0,rfl,by omega,λm hm=>by omega⟩ ?_;rintro j af ⟨i,rfl,dL,hb⟩;refine hZ rfl rfl ?_;refine cK rfl (λbc=>?_) (λbc=>?_)
  ·have aU:i<ps.length:=by omega
   have du:=BA aF aU;have dA:=λdB=>Jk (l:=ps) aU hb dB;have h9:=ae _ (Ll aU);have bh:hj (ps.getD i default)=0->∀m,m<i+1->hj (ps.getD m default)=0:=λaT m hm=>by
    by_cases e:m=i
    ·subst e;exact aT
    ·exact hb m (by omega)
   generalize ps.getD i default=p at du dA h9 bh;refine wp _ du ?_;refine dr (ae1 _ h9) rfl ?_;refine hJ rfl rfl ?_;refine cK rfl (λal=>?_) (λal=>?_)
   ·refine gK ?_;refine gK ?_;refine wp_ret (v:=.bD [.agg [ax 0,.bC],ax (hj p)]) rfl rfl ?_;unfold gn;rw[if_neg (by simpa using he),if_pos aN,dA al];exact HE al
   ·refine ie rfl rfl (by omega) ?_;exact cw ⟨j-1,by omega,i+1,rfl,by omega,bh (Decidable.not_not.1 al)⟩
  ·refine ia (by decide) ?_;exact cw ⟨rfl,Ik λm hm=>hb m (by omega)⟩
 rintro af ⟨rfl,bO⟩;refine wp_ret (v:=.bD [.agg [ax slip,b3],ax 0]) rfl (by simp[h.plain]) ?_;unfold gn;rw[if_neg (by simpa using he),if_pos aN,bO];exact⟨_,_,rfl,λ_=>⟨rfl,rfl⟩,by simp[h.plain]⟩
def agt(l:List Int)(i:Nat):Int:=if 0<=l.getD i 0/\l.getD i 0<=300 then(if 0<i/\l.getD i 0<=l.getD (i-1) 0 then 5 else 0)else 1
def Ko(l:List Int):Nat->Int
 |0=>0
 |n+1=>if Ko l n≠0 then Ko l n else agt l n
def aiu(l:List Int):Int:=if 16<l.length then 6 else Ko l l.length
def al8(slip:Int)(l:List aX)(n:Int)(ps:List Int):Int:=if gn slip l [n] []≠0 then gn slip l [n] []else aiu ps
end
section
open Go Go.RowKit
theorem adI{slip:Int}{l:List aX}{ns:List Int}{ps:List a7}(h:gn slip l ns ps=0):jA slip l=0/\p6 ns 0 (l.length-1)/\pI ps=0:=by
 unfold gn at h;split at h
 ·rename_i ah;exact absurd h ah
 ·rename_i ah;split at h
  ·rename_i aN;exact⟨Decidable.not_not.1 ah,aN,h⟩
  ·cases h
end
section
open Go Go.RowKit
theorem c3:Tryz.prog.cellsOf 3=1:=by kernel_rfl
theorem D2{P:Program}{k:Nat}{t:TypeId}{fl:List TypeId}{bz:List aa}(h:qu P k (t::fl) bz):∃q Lm,bz=q::Lm/\l4 P k t q/\qu P k fl Lm:=by
 cases bz with
 |nil=>exact h.elim
 |cons q bz=>exact⟨q,bz,rfl,h.1,h.2⟩
theorem ace{P:Program}{k:Nat}{bz:List aa}(h:qu P k [] bz):bz=[]:=by
 cases bz with
 |nil=>rfl
 |cons q bz=>exact h.elim
end
section
open Go Go.RowKit
abbrev lF(l:List Bool):List aa:=l.map aa.bool
def su(x:aa)(l:List Bool):Prop:=(x=.bC/\l=[])\/∃off,x=.sl none 1 off l.length (lF l)
theorem Pn(l:List Bool):bG (lF l)=true:=by
 induction l with
 |nil=>rfl
 |cons a l az=>simp_all
theorem su.plain{x:aa}{l:List Bool}(h:su x l):x.plain=true/\x.one=true:=by
 rcases h with⟨rfl,_⟩|⟨off,rfl⟩;all_goals simp_all[Pn]
theorem agv:Tryz.prog.underlying 119=some (.slice 4):=by kernel_rfl
theorem su.len{x:aa}{l:List Bool}(h:su x l):ht Tryz.prog 119 x=some (ax l.length):=by rcases h with⟨rfl,rfl⟩|⟨off,rfl⟩<;>simp[ht]
def BB(l:List Bool):aa:=match l with
 |[]=>.bC
 |a::l=>.sl none 1 0 (l.length+1) (lF (a::l))
section
variable{C:b2->FuncId->List aa->Option aa}{n:Nat}{R:Out->Prop}{d:Nat}{st:List aa}{t:Tree}
end
def Cp(slip:Int)(r:aX)(p:a7)(line:Nat)(q2:List Bool):Bool:=(List.range p.g.length).all λk=>q2.getD k false||nr slip (p.g.getD k 0) (dp r (line+k))
def n4(slip:Int)(r:aX)(p:a7)(line:Nat)(q2:List Bool):Bool:=decide (((line+p.g.length:Nat):Int)<=r.lines-1)&&(Cp slip r p line q2&&(!(pG slip r p line||sf slip r p line)&&sg slip r p))
def iV(slip:Int)(r:aX)(p:a7)(q2:List Bool)(t:Bool):Nat->List (Nat×Bool)
 |0=>[]
 |n+1=>iV slip r p q2 t n++if n4 slip r p n q2=true then[(n,t)]else[]
def EJ(slip:Int)(r:aX)(p:a7)(q2:List Bool):List (Nat×Bool):=iV slip r p q2 false r.lines.toNat++if p.fr then iV slip r (half p) q2.reverse true r.lines.toNat else[]
end
section
open Go Go.RowKit
theorem EY:dI .bC []:=.inl ⟨rfl,rfl⟩
def akV(slip:Int)(l:List aX)(n:Int):List Int:=if gn slip l [n] []=0 then tM (l.getD n.toNat default) (l.getD n.toNat default).lines.toNat else[]
def akv(slip:Int)(l:List aX)(n:Int)(p:a7):List (Nat×Bool):=if gn slip l [n] [p]=0 then kl slip (l.getD n.toNat default) p else[]
theorem tb{p:a7}:ov (.sl none 5 0 1 p.cells) [p]:=.inr ⟨0,by simp[uM]⟩
def lj(p:a7):a7:=⟨.sl none 1 0 p.g.length (p.g.map ax),p.g,p.up,p.aP,p.wd,p.fr⟩
end
section
open Go Go.RowKit
theorem ab9{l:List Int}{i:Nat}(h:i<l.length):l.getD i 0∈l:=by simp[List.getD_eq_getElem?_getD,h]
def above(p:a7)(t:Bool):Int:=if t then p.aP else p.up
def below(p:a7)(t:Bool):Int:=if t then p.up else p.aP
def aaI(slip:Int)(r:aX)(a b:a7)(x y:Nat×Bool):List Int:=if y.1<=x.1+a.g.length then[]else if below a x.2+above b y.2-2*slip<=a1 r y.1-a1 r (x.1+a.g.length)then[(y.1:Int)-(x.1+a.g.length:Nat)-1]else[]
def acb(slip:Int)(r:aX)(a b:a7)(x:Nat×Bool)(ys:List (Nat×Bool)):List Int:=ys.flatMap (aaI slip r a b x)
def acd(slip:Int)(r:aX)(a b:a7)(xs ys:List (Nat×Bool)):List Int:=xs.flatMap λx=>acb slip r a b x ys
def adO(slip:Int)(a b:a7)(l:List aX):List Int:=l.flatMap λr=>acd slip r a b (kl slip r a) (kl slip r b)
theorem take_one{α:Type}[Inhabited α]{l:List α}{i:Nat}(h:i<l.length):l.take (i+1)=l.take i++[l.getD i default]:=by
 rw[List.take_add_one];simp[List.getD_eq_getElem?_getD,h]
theorem aaw{slip:Int}{r:aX}{p:a7}{y:Nat×Bool}(h:y∈kl slip r p):y.1<r.lines.toNat/\((y.1+p.g.length:Nat):Int)<=r.lines-1:=by
 rcases y with⟨i,t⟩;have key:∀q:a7,q.g.length=p.g.length->ln slip r q i=true->((i+p.g.length:Nat):Int)<=r.lines-1:=by
  intro q aH ao;simp only[ln,Bool.and_eq_true,decide_eq_true_eq]at ao;rw[←aH];exact ao.1
 simp only[kl,List.mem_append]at h;rcases h with h|h
 ·rw[Qy]at h;exact⟨h.2.1,key p rfl h.2.2⟩
 ·split at h
  ·rw[Qy]at h;exact⟨h.2.1,key (half p) (by simp[half]) h.2.2⟩
  ·simp at h
end
section
open Go Go.RowKit
theorem acj{a b:a7}:ov (.sl none 5 0 2 (a.cells++b.cells)) [a,b]:=.inr ⟨0,by simp[uM]⟩
theorem aaz{a b:a7}(au:lk a)(hb:lk b):∀p∈[a,b],lk p:=by
 intro p ae;simp at ae;rcases ae with rfl|rfl
 ·exact au
 ·exact hb
theorem aaA{slip:Int}{b3:aa}{l:List aX}{a b:a7}(ad:iq b3 l)(au:lk a)(hb:lk b)(h:gn slip l [] [a,b]=0):Hand slip b3 l/\a.ok/\b.ok:=by
 obtain⟨al,_,bI⟩:=adI h;exact⟨aeL ad al,aeM au.c5 (Rt bI a (by simp)),aeM hb.c5 (Rt bI b (by simp))⟩
theorem IK{α:Type}[Inhabited α]{l:List α}{i:Nat}(h:i<l.length):l.getD i default∈l:=by simp[List.getD_eq_getElem?_getD,h]
end
section
open Go Go.RowKit
abbrev oS:=Nat×Bool
def Ce(L:List oS)(x:oS):List oS:=if x∈L then L else L++[x]
theorem XI{L:List oS}{x z:oS}:z∈Ce L x↔z∈L\/z=x:=by grind [Ce]
theorem XL:((List.range 16).all λi=>[true,false].all λb=>uL Tryz.prog 43 [aa.int .i64 (i:Nat),.bool b])=true:=by kernel_rfl
theorem Lj{x:oS}(h:x.1<16):uL Tryz.prog 43 [ax x.1,.bool x.2]=true:=by
 have:=List.all_eq_true.1 (List.all_eq_true.1 XL x.1 (by grind)) x.2 (by grind);exact this
theorem D1(x:oS)(L:List oS):gW (x::L)=ax x.1::.bool x.2::gW L:=by rfl
theorem Il:∀(L:List oS)(i:Nat),(gW L).drop (i*2)=gW (L.drop i)
 |L,0=>by simp
 |[],i+1=>by rfl
 |x::L,i+1=>by
  rw[D1,show(i+1)*2=i*2+2 by omega,List.drop_succ_cons,List.drop_succ_cons,Il L i];rfl
theorem Ln:∀(L:List oS)(i:Nat),(gW L).take (i*2)=gW (L.take i)
 |L,0=>by rfl
 |[],i+1=>by rfl
 |x::L,i+1=>by rw[D1,show(i+1)*2=i*2+2 by omega,List.take_succ_cons,List.take_succ_cons,Ln L i,List.take_succ_cons,D1]
theorem HF{L:List oS}{i:Nat}(h:i<L.length):chunk 2 (gW L) i=[ax (L.getD i default).1,.bool (L.getD i default).2]:=by grind [chunk,Il,List.drop_eq_getElem_cons,D1]
theorem Y1{L:List oS}{i:Nat}:hL 2 (gW L) i=gW (L.eraseIdx i):=by simp_all[hL,Ln,Il,VU,List.eraseIdx_eq_take_drop_succ]
theorem GC(L:List oS):(gW L).length/2=L.length:=by rw[Nt];omega
theorem aaG{L:List oS}{x:oS}:J5 2 (gW L) [ax x.1,.bool x.2]=decide (x∈L):=by
 unfold J5;rw[GC];have key:∀i,i<L.length->w9 (chunk 2 (gW L) i) [ax x.1,.bool x.2]=decide (L.getD i default=x):=λi hi=>by
  rw[HF hi];generalize L.getD i default=y;obtain⟨a,b⟩:=y;obtain⟨c,d⟩:=x;have e:w9 [ax a,.bool b] [ax c,.bool d]=(decide ((a:Int)=c)&&(b==d)):=by simp[w9,FH]
  show w9 [ax a,.bool b] [ax c,.bool d]=_;rw[e];by_cases U:a=c
  ·subst U;cases b<;>cases d<;>simp
  ·have ab:¬(a:Int)=c:=by omega
   simp[U,ab]
 rw[Bool.eq_iff_iff,List.any_eq_true];simp only[List.mem_range,decide_eq_true_eq];refine⟨λ⟨i,hi,h⟩=>?_,λh=>?_⟩
 ·rw[key i hi,decide_eq_true_eq]at h;rw[←h];exact IK hi
 ·obtain⟨i,hi,e⟩:=List.getElem_of_mem h;exact⟨i,hi,by rw[key i hi,decide_eq_true_eq];simp[List.getD_eq_getElem?_getD,hi,e]⟩
theorem Y2{L:List oS}{x:oS}(dg:∀z∈L,z.1<16)(aj:x.1<16):Ku Tryz.prog 43 2 (.agg (gW L)) [ax x.1,.bool x.2]=some (.agg (gW (Ce L x))):=by
 have aQ:AR Tryz.prog 43 2 (gW L)=true:=by
  refine List.all_eq_true.2 λi hi=>?_;rw[List.mem_range,GC]at hi;rw[HF hi];exact Lj (dg _ (IK hi))
 simp only[Ku];rw[if_pos ⟨by omega,rfl,aQ,Lj aj⟩];simp only[m4,aaG,decide_eq_true_eq,Ce];split
 ·rfl
 ·rw[VU];simp[gW]
def uH(L:List oS):List oS:=L.foldl Ce []
theorem Kh{z:oS}:∀{L:List oS},z∈uH L↔z∈L:=by
 have key:∀(L K:List oS),z∈L.foldl Ce K↔z∈K\/z∈L:=by
  intro L;induction L with
  |nil=>simp
  |cons x L az=>intro K;rw[List.foldl_cons,az,XI];simp[or_assoc]
 intro L;unfold uH;rw[key];simp
theorem Uq{L:List oS}{i:Nat}(h:i<L.length):uH (L.take (i+1))=Ce (uH (L.take i)) (L.getD i default):=by
 unfold uH;rw[take_one h,List.foldl_append];rfl
theorem Y8(L:List oS)(x:oS):(Ce L x).length<=L.length+1:=by
 unfold Ce;split
 ·omega
 ·simp
theorem Us:∀(L:List oS),(uH L).length<=L.length:=by
 have key:∀(L K:List oS),(L.foldl Ce K).length<=K.length+L.length:=by
  intro L;induction L with
  |nil=>simp
  |cons x L az=>
   intro K;have:=az (Ce K x);have:=Y8 K x;simp only[List.foldl_cons,List.length_cons];omega
 intro L;have:=key L [];simpa[uH]using this
theorem Ux{mI:List aa}(h:mI.length=2)(i:Nat):y8 2 (mI++gW []) i=.agg [.bool false]:=by
 have:(mI++gW []).drop 2=[]:=by simp[gW,h]
 simp[y8,w6,this]
theorem Uy{mI:List aa}{L:List oS}(h:mI.length=2)(dg:0<L.length)(i:Nat):∃j,j<L.length/\y8 2 (mI++gW L) i=.agg (.bool true::([ax (L.getD j default).1,.bool (L.getD j default).2]++gW (L.eraseIdx j))):=by
 have aV:(mI++gW L).drop 2=gW L:=by rw[←h];exact List.drop_left' rfl
 have aI:w6 2 (mI++gW L)=L.length:=by unfold w6;rw[aV,GC]
 have aC:i%L.length<L.length:=Nat.mod_lt _ dg;refine⟨i%L.length,aC,?_⟩;unfold y8;rw[aI,if_neg (by omega),aV,HF aC,Y1]
theorem Kj(z:oS):∀{L:List oS}{j:Nat},j<L.length->(z∈L↔z=L.getD j default\/z∈L.eraseIdx j)
 |[],j,h=>by simp at h
 |x::L,0,h=>by simp
 |x::L,j+1,h=>by
  have:=Kj z (L:=L) (j:=j) (by simpa using h);simp only[List.mem_cons,List.getD_cons_succ,List.eraseIdx_cons_succ];rw[this];exact or_left_comm
theorem Y9(a c:Int)(b d:Bool):eB Tryz.prog .eql 43 (.agg [ax a,.bool b]) (.agg [ax c,.bool d])=some (.bool (decide (a=c)&&((b==d)&&true))):=by simp only[eB,Pm]
theorem Za(x y:oS):(decide ((x.1:Int)=(y.1:Int))&&((x.2==y.2)&&true))=decide (y=x):=by
 obtain⟨a,b⟩:=x;obtain⟨c,d⟩:=y;simp only[Bool.and_true,Prod.mk.injEq,Bool.decide_and];congr 1
 ·exact decide_eq_decide.2 (by omega)
 ·cases b<;>cases d<;>rfl
def zH(B A:List oS):Bool:=B.any λy=>decide (y∈A)
theorem Ur{B A:List oS}{m:Nat}(h:m<B.length):zH (B.take (m+1)) A=(zH (B.take m) A||decide (B.getD m default∈A)):=by
 unfold zH;rw[take_one h,List.any_append];simp
def gY(slip:Int)(a b:a7)(r:aX):Bool:=zH (kl slip r b) (kl slip r a)
def ts(slip:Int)(l:List aX)(a b:a7)(n:Nat):List Int:=((List.range n).filter λi=>gY slip a b (l.getD i default)).map λ(i:Nat)=>(i:Int)
theorem Vk(slip:Int)(l:List aX)(a b:a7)(n:Nat):ts slip l a b (n+1)=ts slip l a b n++(if gY slip a b (l.getD n default)=true then[(n:Int)]else[]):=by
 simp only[ts,List.range_succ,List.filter_append,List.map_append];congr 1;cases h:gY slip a b (l.getD n default)<;>simp only[List.filter,h,List.map_cons,List.map_nil]<;>rfl
theorem Kp(slip:Int)(l:List aX)(a b:a7)(n:Nat):(ts slip l a b n).length<=n:=by
 unfold ts;rw[List.length_map];refine Nat.le_trans (List.length_filter_le _ _) ?_;simp
def GH(slip:Int)(l:List aX)(a b:a7):List Int:=if gn slip l [] [a,b]=0 then ts slip l a b l.length else[]
theorem ab8(k:Nat){slip:Int}{b3:aa}{l:List aX}(h:iq b3 l){a b:a7}(au:lk a)(hb:lk b):dT (k+5) 14 [.agg [ax slip,b3],.agg a.cells,.agg b.cells] λv=>∃y,v=.bD [y,ax (gn slip l [] [a,b])]/\dI y (GH slip l a b):=by
 refine gj (t:=t14) (by kernel_rfl) (fn:=Tryz.f14) (by kernel_rfl) (by simp[dd,flagsOf,h.plain,a7.cells,au.c5.plain,hb.c5.plain]) ?_;refine eU (by simp only[ag,aD,aM,aS.aP,aR.aP,cF,nth,cM,List.getD_cons_succ,List.getD_cons_zero,aX.cells,a7.cells];rfl) rfl ?_;refine eU (by simp only[ag,aD,aM,aS.aP,aR.aP,cF,nth,cM,List.getD_cons_succ,List.getD_cons_zero,aX.cells,a7.cells];rfl) rfl ?_;refine eU (by simp only[ag,aD,aM,aS.aP,aR.aP,cF,nth,cM,List.getD_cons_succ,List.getD_cons_zero,aX.cells,a7.cells];rfl) rfl ?_;refine nN (Sz k (slip:=slip) (x:=.bC) (ns:=[]) (y:=.sl none 5 0 2 (a.cells++b.cells)) (ps:=[a,b]) h EY (by simp) acj (aaz au hb) (by simp)) rfl ?_;rintro v ⟨p,q,rfl,aco,cD⟩;refine pe (by simp only[ag,aD,aM,aS.aP,aR.aP,cF,nth,cM,List.getD_cons_succ,List.getD_cons_zero,aX.cells,a7.cells,ll];rfl) ?_;refine pe (by simp only[ag,aD,aM,aS.aP,aR.aP,cF,nth,cM,List.getD_cons_succ,List.getD_cons_zero,aX.cells,a7.cells,ll];rfl) ?_;refine eU (by simp only[ag,aD,aM,aS.aP,aR.aP,cF,nth,cM,List.getD_cons_succ,List.getD_cons_zero,aX.cells,a7.cells];rfl) rfl ?_;refine hJ rfl rfl ?_;refine cK rfl (λhe=>?_) (λhe=>?_)
 ·exact wp_ret (v:=.bD [.bC,ax (gn slip l [] [a,b])]) rfl rfl ⟨.bC,rfl,by unfold GH;rw[if_neg he];exact EY⟩
 replace he:=Decidable.not_not.1 he;obtain⟨rfl,rfl⟩:=aco he;obtain⟨e4,KJ,LB⟩:=aaA h au hb he;have fI:=e4.fI;have F4:=e4.gS;refine k9 rfl (by assumption) ?_;refine ez (λaf=>af=[.agg ((ts slip l a b l.length).map ax)]) ?_ ?_
 ·refine wp_loop (λj af=>∃i:Nat,af=[.agg ((ts slip l a b i).map ax),ax i]/\i+j=l.length) l.length (by omega) ⟨0,rfl,by omega⟩ ?_;rintro j af ⟨i,rfl,hi⟩;refine hZ rfl rfl ?_;refine cK rfl (λab=>?_) (λab=>?_)
  ·have aU:i<l.length:=by omega
   have ad:=e4.get aU;have ub:=Kp slip l a b i;have aev:=Vk slip l a b i;have Ji:=λ(p:a7)(ae:p.ok)=>anv k e4 aU ae;unfold gY at aev;generalize l.getD i default=r at ad aev Ji;have k5:=ad.k5;generalize ts slip l a b i=P at *;obtain⟨Jm,Qz⟩:∃Jm,Jm=ts slip l a b (i+1):=⟨_,rfl⟩;rw[←Qz]at aev;refine aaH ?_;refine nN (Ji a KJ) rfl ?_;intro aeN UM;have acm:=Y3 slip ad a;have acn:=Y3 slip ad b;have QB:=λy aF=>(aaw (slip:=slip) (r:=r) (p:=a) (y:=y) aF).1;generalize kl slip r a=A at *;refine aaB rfl UM ?_;refine ez (λaf=>af=[.agg (P.map ax),.agg (gW (uH A))]) ?_ ?_
   ·refine wp_loop (λj af=>∃n:Nat,af=[ax n,.agg (P.map ax),.agg (gW (uH (A.take n)))]/\n+j=A.length) A.length (by omega) ⟨0,rfl,by omega⟩ ?_;rintro jG af ⟨n,rfl,aI⟩;refine hZ rfl rfl ?_;refine cK rfl (λal=>?_) (λal=>?_)
    ·have mB:n<A.length:=by omega
     have Rw:=Hi UM mB;have dG:=QB _ (IK mB);have h8:=Uq mB;have adJ:∀z∈uH (A.take n),z.1<16:=λz bO=>by
      have:=QB z (List.mem_of_mem_take (Kh.1 bO));omega
     generalize A.getD n default=x at Rw dG h8;refine wp _ Rw ?_;refine wp _ (Y2 adJ (x:=x) (by omega)) ?_;refine ie rfl rfl (by omega) ?_;exact cw ⟨jG-1,by omega,n+1,by rw[h8];rfl,by omega⟩
    ·refine ia (by decide) ?_;have e:A.take n=A:=List.take_of_length_le (by omega);rw[e];exact cw rfl
   rintro af rfl;try refine eK (by(try simp only[List.length_cons,List.length_nil,Nat.reduceAdd,Nat.zero_add]);rfl) (by(try simp only[dz]);rfl) ?_
   refine nN (Ji b LB) rfl ?_;intro aeO Rz;generalize kl slip r b=B at *;have a9:∀z,z∈uH A↔z∈A:=λz=>Kh;have aeJ:=Us A;generalize uH A=K at *;refine aaB rfl Rz ?_;refine ez (λaf=>af=[.bool (zH B A)]) ?_ ?_
   ·refine wp (.mp false none 2 (gW K)) (by rfl) ?_;refine wp_loop (λj af=>∃m:Nat,af=[.mp false none 2 (gW K),.bool (zH (B.take m) A),ax m]/\m+j=B.length) B.length (by omega) ⟨0,rfl,by omega⟩ ?_;rintro adM af ⟨m,rfl,hm⟩;refine hZ rfl rfl ?_;refine cK rfl (λaJ=>?_) (λaJ=>?_)
    ·have SA:m<B.length:=by omega
     have SG:=Hi Rz SA;have Cg:zH (B.take (m+1)) A=(zH (B.take m) A||decide (B.getD m default∈K)):=by rw[Ur SA,decide_eq_decide.2 (a9 _)]
     generalize B.getD m default=y at SG Cg;generalize zH (B.take m) A=c at *;have oT:∃c2,c2=zH (B.take (m+1)) A:=⟨_,rfl⟩;obtain⟨c2,oT⟩:=oT;rw[←oT]at Cg;refine wp _ SG ?_;refine wp (.agg ([.ca,.ca]++gW K)) (by
      show JZ 2 (.mp false none 2 (gW K))=_;simp only[JZ];rw[if_pos ⟨trivial,by omega,Wj K,by rw[GC,Nt]⟩];rfl) ?_
     refine ez (λaf=>af=[.bool c2]) ?_ ?_
     ·refine wp_loop (λj af=>∃(e:Bool)(mI:List aa)(L:List oS),af=[.bool e,.agg (mI++gW L)]/\mI.length=2/\L.length=j/\(e||decide (y∈L))=c2) K.length (by omega) ⟨c,[.ca,.ca],K,rfl,rfl,rfl,Cg.symm⟩ ?_;rintro JO af ⟨e,mI,L,rfl,KL,aeK,hinv⟩;try refine eK (by(try simp only[List.length_cons,List.length_nil,Nat.reduceAdd,Nat.zero_add]);rfl) (by(try simp only[dz]);rfl) ?_
      refine aaF rfl λadN=>?_;rcases Nat.eq_zero_or_pos JO with bO|bO
      ·have:L=[]:=List.eq_nil_of_length_eq_zero (by omega);subst this;rw[Ux KL];refine qV rfl ?_;refine ia (by decide) ?_;refine cw ?_;rw[←hinv];simp[cF,aS.aP,aR.aP,nth,ag]
      ·obtain⟨Vl,UC,eW⟩:=Uy (L:=L) KL (by omega) adN;rw[eW];have adK:=Kj y UC;have amb:(L.eraseIdx Vl).length=JO-1:=by rw[List.length_eraseIdx_of_lt UC];omega
       generalize L.getD Vl default=z at *;generalize L.eraseIdx Vl=Tr at *;refine El rfl ?_;refine wp (.agg ([ax z.1,.bool z.2]++gW Tr)) rfl ?_;refine wp (.agg [ax z.1,.bool z.2]) rfl ?_;refine ez (λaf=>af=[.bool (e||decide (y=z))]) ?_ ?_
       ·refine wq rfl (λbm=>?_) (λbm=>?_)
        ·subst bm;exact cw rfl
        ·subst bm;refine wp _ (Y9 z.1 y.1 z.2 y.2) ?_;rw[Za];exact cw rfl
       rintro af rfl;try refine eK (by(try simp only[List.length_cons,List.length_nil,Nat.reduceAdd,Nat.zero_add]);rfl) (by(try simp only[dz]);rfl) ?_
       refine cw ⟨JO-1,by omega,e||decide (y=z),[ax z.1,.bool z.2],Tr,rfl,rfl,by omega,?_⟩;rw[←hinv,Bool.or_assoc];congr 1;rw[←Bool.decide_or];exact decide_eq_decide.2 adK.symm
     rintro af rfl;refine ie rfl rfl (by omega) ?_;exact cw ⟨adM-1,by omega,m+1,by rw[←oT];rfl,by omega⟩
    ·refine ia (by decide) ?_;have e:B.take m=B:=List.take_of_length_le (by omega);rw[e];exact cw rfl
   rintro af rfl;try refine eK (by(try simp only[List.length_cons,List.length_nil,Nat.reduceAdd,Nat.zero_add]);rfl) (by(try simp only[dz]);rfl) ?_
   refine ez (λaf=>af=[.agg (Jm.map ax)]) ?_ ?_
   ·refine wq rfl (λal=>?_) (λal=>?_)
    ·rw[if_pos al]at aev;refine p5 (by simp only[ag,aD,aM,aS.aP,aR.aP,cF,nth,cM,List.getD_cons_succ,List.getD_cons_zero,aX.cells,a7.cells];rfl) rfl ?_;refine Pk rfl rfl (by decide) (by first|omega|(simp;omega)) ?_;refine cw ?_;rw[aev];simp[cF,aS.aP,aR.aP,nth,ag]
    ·rw[if_neg (by rw[al];simp),List.append_nil]at aev;refine cw ?_;rw[aev];rfl
   rintro af rfl;refine ie rfl rfl (by omega) ?_;exact cw ⟨j-1,by omega,i+1,by rw[←Qz];rfl,by omega⟩
  ·refine ia (by decide) ?_;have e:i=l.length:=by omega
   rw[e];exact cw rfl
 rintro af rfl;refine Qv rfl ?_;have aH:=(rh (ts slip l a b l.length)).plain;refine wp_ret (v:=.bD [m9 (ts slip l a b l.length),ax 0]) rfl (by simp[aH]) ⟨_,by rw[he],?_⟩;unfold GH;rw[if_pos he];exact rh _
end
section
open Go Go.RowKit
def T0:Prim->Bool
 |.ins ..=>false
 |_=>true
def oc:Tree->Bool
 |.av p t=>T0 p&&oc t
 |.ite _ a b=>oc a&&oc b
 |.call _ _ t | .kL _ _ t | .pick _ _ t | .loop _ _ t=>oc t
 |.join _ a b=>oc a&&oc b
 |_=>true
section
variable(P:Program)(bM:Array Func)
theorem adi(t:TypeId)(x y:aa):u2 { P with funcs:=bM } t x y=u2 P t x y:=rfl
theorem Rd:∀(l:List Field)(i:Nat)(xs ys:List aa),s3 { P with funcs:=bM } l i xs ys=s3 P l i xs ys
 |[],_,[],[]=>rfl
 |[],_,_::_,_=>rfl
 |[],_,[],_::_=>rfl
 |_::_,_,[],_=>rfl
 |_::_,_,_::_,[]=>rfl
 |f::l,i,x::xs,y::ys=>by simp only[s3,adi,Rd l]
theorem adj(t:TypeId)(xs ys:List aa):za { P with funcs:=bM } t xs ys=za P t xs ys:=by
 have aK:Program.underlying { P with funcs:=bM } t=P.underlying t:=rfl;have aO:Program.depth { P with funcs:=bM }=P.depth:=rfl;simp only[za,Re,Ja,Rd,aK,aO]
theorem adk(op:BinOp)(t:TypeId)(x y:aa):eB { P with funcs:=bM } op t x y=eB P op t x y:=by
 have aK:Program.underlying { P with funcs:=bM } t=P.underlying t:=rfl;simp only[eB,adj,aK]
theorem abD(ρ:List aa){p:Prim}(h:T0 p=true):Prim.run { P with funcs:=bM } ρ p=Prim.run P ρ p:=by
 cases p with
 |ins=>cases h
 |bin op t x y=>exact adk P bM op t _ _
 |conv s d x=>simp only[Prim.run];rfl
 |idx t x i=>simp only[Prim.run];rfl
 |len t x=>simp only[Prim.run];rfl
 |slice t x lo hi=>simp only[Prim.run];rfl
 |_=>simp only[Prim.run]
theorem qS{C:b2->FuncId->List aa->Option aa}{n:Nat}:∀(t:Tree)(ω:b2)(ρ:List aa),oc t=true->eval { P with funcs:=bM } C n t ω ρ=eval P C n t ω ρ
 |.ret _,_,_,_=>rfl
 |.jump _ _,_,_,_=>rfl
 |.av p t,ω,ρ,h=>by
  simp only[oc,Bool.and_eq_true]at h;simp only[eval,abD P bM ρ h.1];congr 1;funext v;exact qS t _ _ h.2
 |.ite _ a b,ω,ρ,h=>by
  simp only[oc,Bool.and_eq_true]at h;simp only[eval,qS a _ _ h.1,qS b _ _ h.2]
 |.call _ _ t,ω,ρ,h=>by
  have e:=λω ρ=>qS (C:=C) (n:=n) t ω ρ h;simp only[eval,e]
 |.kL _ _ t,ω,ρ,h=>by
  have e:=λω ρ=>qS (C:=C) (n:=n) t ω ρ h;simp only[eval,e]
 |.pick _ _ t,ω,ρ,h=>by
  have e:=λω ρ=>qS (C:=C) (n:=n) t ω ρ h;simp only[eval,e]
 |.loop _ _ t,ω,ρ,h=>by
  have e:=λω ρ=>qS (C:=C) (n:=n) t ω ρ h;simp only[eval,e]
 |.join _ a b,ω,ρ,h=>by
  simp only[oc,Bool.and_eq_true]at h;have aK:=λω ρ=>qS (C:=C) (n:=n) a ω ρ h.1;have aO:=λω ρ=>qS (C:=C) (n:=n) b ω ρ h.2;simp only[eval,aK,aO]
 |.die,_,_,_=>rfl
end
theorem abE{C:b2->FuncId->List aa->Option aa}{n:Nat}{t:Tree}(h:oc t=true)(ω:b2)(ρ:List aa):eval cl C n t ω ρ=eval Tryz.prog C n t ω ρ:=qS Tryz.prog cl.funcs t ω ρ h
theorem Rf{k:Nat}{g:FuncId}{args:List aa}{t:Tree}{fn:Func}{Q:aa->Prop}(a1:PP.cA g=some t)(aQ:cl.funcs[g]?=some fn)(gN:dd (flagsOf 23 fn) args=true)(ar:oc t=true)(h:bN Tryz.prog (PP.E cl k) 4096 t args λo=>∃v,o=.val v/\v.plain=true/\Q v):ks (PP.E cl) (k+1) g args Q:=by
 intro ω;obtain⟨o,U,v,rfl,ae,gI⟩:=h ω;refine⟨v,?_,gI⟩;unfold PP.E;simp only[g6,a1,aQ];rw[if_pos gN,abE ar];have bc:=U;unfold PP.E at bc;rw[bc];simp[ae]
theorem adl{g:FuncId}(h:zx g=true):PP.cA g=cA g:=by
 have aT:=h;simp only[zx,Bool.and_eq_true,bne_iff_ne,ne_eq]at aT;obtain⟨t,a1⟩:=Option.isSome_iff_exists.1 aT.1;obtain⟨w,hm,rfl,_⟩:=iN.DW a1;have U:(w.g=91\/w.g=92\/w.g=96\/w.g=121\/w.g=122\/w.g=123\/w.g=130\/w.g=131\/w.g=163)\/w.g=103\/w.g=58:=by
  have key:PP.xW.rows.all (λw=>decide ((w.g=91\/w.g=92\/w.g=96\/w.g=121\/w.g=122\/w.g=123\/w.g=130\/w.g=131\/w.g=163)\/w.g=103\/w.g=58))=true:=by kernel_rfl
  exact of_decide_eq_true (List.all_eq_true.1 key w hm)
 rcases U with U|U|U
 ·have fG:PP.cA 91=cA 91:=(show PP.cA 91=some t91 by kernel_rfl).trans (show cA 91=some t91 by kernel_rfl).symm;have ha:PP.cA 92=cA 92:=(show PP.cA 92=some t92 by kernel_rfl).trans (show cA 92=some t92 by kernel_rfl).symm;have od:PP.cA 96=cA 96:=(show PP.cA 96=some t96 by kernel_rfl).trans (show cA 96=some t96 by kernel_rfl).symm;have FK:PP.cA 121=cA 121:=(show PP.cA 121=some t121 by kernel_rfl).trans (show cA 121=some t121 by kernel_rfl).symm;have FL:PP.cA 122=cA 122:=(show PP.cA 122=some t122 by kernel_rfl).trans (show cA 122=some t122 by kernel_rfl).symm;have zy:PP.cA 123=cA 123:=(show PP.cA 123=some t123 by kernel_rfl).trans (show cA 123=some t123 by kernel_rfl).symm;have ahm:PP.cA 130=cA 130:=(show PP.cA 130=some t130 by kernel_rfl).trans (show cA 130=some t130 by kernel_rfl).symm;have T1:PP.cA 131=cA 131:=(show PP.cA 131=some t131 by kernel_rfl).trans (show cA 131=some t131 by kernel_rfl).symm;have ahn:PP.cA 163=cA 163:=(show PP.cA 163=some t163 by kernel_rfl).trans (show cA 163=some t163 by kernel_rfl).symm;rcases U with e|e|e|e|e|e|e|e|e
  ·rw[e];exact fG
  ·rw[e];exact ha
  ·rw[e];exact od
  ·rw[e];exact FK
  ·rw[e];exact FL
  ·rw[e];exact zy
  ·rw[e];exact ahm
  ·rw[e];exact T1
  ·rw[e];exact ahn
 ·exact absurd U aT.2.1
 ·exact absurd U aT.2.2
theorem abF:PP.xW.rows.all (λw=>match PP.xW.tree w with|some t=>oc t|none=>true)=true:=by kernel_rfl
theorem adm{g:FuncId}{t:Tree}(h:PP.cA g=some t):oc t=true:=by
 obtain⟨w,hm,_,e⟩:=iN.DW h;have:=List.all_eq_true.1 abF w hm;rwa[e]at this
instance ak6:oX (PP.E cl):=⟨λ{k g args t fn Q} aN a1 aQ gN h=>by
 simp only[zx,Bool.and_eq_true,bne_iff_ne,ne_eq]at aN;have T2:PP.cA g=some t:=by rw[adl (by simp[zx,aN])];exact a1
 exact Rf T2 (by rw[Qe aN.2.1 aN.2.2];exact aQ) gN (adm T2) h⟩
theorem No:∀{a b:List aa},hv (a++b)=(hv a&&hv b)
 |[],_=>by simp[hv]
 |x::a,b=>by simp[hv,No,Bool.and_assoc]
theorem aaa(l:List Int):hv (l.map ax)=true:=by
 induction l with
 |nil=>rfl
 |cons a l az=>simp[hv,aa.l1,az]
theorem dI.l1{x:aa}{l:List Int}(h:dI x l):x.l1=true:=by
 rcases h with⟨rfl,_⟩|⟨off,rfl⟩
 ·rfl
 ·simp[aa.l1,aaa]
theorem Xu{l:List aX}(h:∀r∈l,r.ok):hv (dJ l)=true:=by
 induction l with
 |nil=>rfl
 |cons r l az=>
  have e:dJ (r::l)=r.cells++dJ l:=by simp[dJ]
  rw[e,No,az λx aj=>h x (by simp[aj])];simp[aX.cells,hv,aa.l1,(h r (by simp)).c5.l1]
theorem Hand.l1{slip:Int}{b3:aa}{l:List aX}(h:Hand slip b3 l):b3.l1=true:=by
 rcases h.gS with⟨rfl,_⟩|⟨off,rfl⟩
 ·rfl
 ·simp[aa.l1,Xu h.ok]
theorem Rg(k:Nat){slip:Int}{b3:aa}{l:List aX}(h:Hand slip b3 l){p:a7}(ae:p.ok){i:Nat}(hi:i<l.length):ks (PP.E cl) (k+5) 103 [.ca,.bJ none 0 [ax slip,b3],.bJ none 0 [ax i],.bJ none 0 p.cells,.ca] λv=>v=.bD [.bool (kn slip (l.getD i default) p),ax i]:=by
 refine Rf (t:=PP.t103) (by kernel_rfl) (fn:=yW) (by kernel_rfl) (by
  have e:flagsOf 23 yW=[false,false,false,false,false]:=by kernel_rfl
  rw[e];simp[dd,a7.cells,ae.c5.plain,h.plain];rfl) (by kernel_rfl) ?_
 refine(?_:b6 (PP.E cl (k+4)) 4096 PP.t103 5 (dz [.ca,.bJ none 0 [ax slip,b3],.bJ none 0 [ax i],.bJ none 0 p.cells,.ca] []) _).run rfl;have ad:=h.get hi;have du:=m6 h.gS hi;generalize l.getD i default=r at ad du;refine ez (λaf=>af=[]) (cw rfl) ?_;rintro af rfl;refine wp _ rfl ?_;refine wp _ rfl ?_;refine dr (afE (C:=PP.E cl) (k+3) slip) rfl ?_;refine wp _ rfl ?_;refine wp _ rfl ?_;refine wp _ du ?_;refine wp _ rfl ?_;refine dr (afF (C:=PP.E cl) k h.cc h.s1 ad ae) rfl ?_;exact wp_ret rfl rfl rfl
theorem Rh{n:Nat}(h:n<=4)(b:Nat->Bool):rN n b=(List.range n).filter b:=by
 match n,h with
 |0,_=>simp[rN]
 |1,_=>simp only[rN,List.range_succ,List.range_zero,List.nil_append,List.cons_append,List.filter];simp
 |2,_=>simp only[rN,List.range_succ,List.range_zero,List.nil_append,List.cons_append,List.filter];simp
 |3,_=>simp only[rN,List.range_succ,List.range_zero,List.nil_append,List.cons_append,List.filter];simp
 |4,_=>simp only[rN,List.range_succ,List.range_zero,List.nil_append,List.cons_append,List.filter];simp
def oe(slip:Int)(l:List aX)(p:a7)(n:Nat):List Nat:=(List.range n).filter λi=>kn slip (l.getD i default) p
def hy(slip:Int)(l:List aX)(p:a7)(n:Nat):List Int:=(oe slip l p n).map λ(i:Nat)=>(i:Int)
theorem Ei(slip:Int)(l:List aX)(p:a7)(n:Nat):(hy slip l p n).length<=n:=by
 unfold hy oe;rw[List.length_map];exact Nat.le_trans (List.length_filter_le _ _) (by simp)
theorem Qf(l:List Nat):dI (lS l) (l.map λ(i:Nat)=>(i:Int)):=by
 unfold lS;split
 ·rename_i e;cases l with
  |nil=>exact .inl ⟨rfl,rfl⟩
  |cons a l=>cases e
 ·exact .inr ⟨0,by simp⟩
theorem Sl(k:Nat){slip:Int}{b3:aa}{l:List aX}(h:Hand slip b3 l){p:a7}(ae:p.ok):dT (k+1) 58 [.agg [ax slip,b3],.agg p.cells] λv=>v=lS (oe slip l p l.length):=by
 have aw:yX [.agg [ax slip,b3],.agg p.cells] (oe slip l p l.length):=⟨[ax slip,b3],p.cells,b3,l.length,λi=>kn slip (l.getD i default) p,rfl,by simp[hv,aa.l1,h.l1],by simp[a7.cells,hv,aa.l1,ae.c5.l1],by simp[bG,h.plain],by simp[a7.cells,ae.c5.plain],rfl,by
  rcases h.gS with⟨rfl,rfl⟩|⟨off,rfl⟩
  ·exact .inl ⟨rfl,rfl⟩
  ·exact .inr ⟨_,_,_,rfl⟩,h.fI,λi hi ω=>by
   obtain⟨v,ai,rfl⟩:=Rg 4 h ae hi ω;exact ai,(Rh h.fI _).symm⟩
 intro ω;refine⟨_,?_,rfl⟩;have a1:cA 58=none:=by kernel_rfl
 have key:∀aG,yX [.agg [ax slip,b3],.agg p.cells] aG->aG=oe slip l p l.length:=by
  rintro aG ⟨ah,eg,cy,n,bit,iM⟩;obtain⟨aK,aO⟩:[ax slip,b3]=ah/\p.cells=eg:=by have:=iM.a;simpa using this
  subst aK aO;have aH:cy=b3:=by have:=iM.q;simpa using this.symm
  subst aH;have aI:n=l.length:=by
   rcases iM.r with⟨e,rfl⟩|⟨_,_,_,e⟩<;>rcases h.gS with⟨e',aO⟩|⟨off,e'⟩<;>rw[e']at e
   ·rw[aO];rfl
   ·cases e
   ·cases e
   ·injection e with _ _ _ e _;exact e.symm
  rw[iM.l,Rh iM.U4,aI];unfold oe;refine List.filter_congr λi hi=>?_;rw[List.mem_range]at hi;have U:=iM.b i (by omega) ω;obtain⟨v,ai,rfl⟩:=Rg 4 h ae hi ω;rw[ai]at U;simpa using U.symm
 have hex:∃aG,yX [.agg [ax slip,b3],.agg p.cells] aG:=⟨_,aw⟩;have e:pj ω 58 [.agg [ax slip,b3],.agg p.cells]=some (lS (oe slip l p l.length)):=by
  unfold pj;rw[if_pos rfl,dif_pos hex,key _ hex.choose_spec]
 unfold E;simp only[g6,a1];exact e
end
section
open Go Go.RowKit
theorem Ek{slip:Int}{b3:aa}{l:List aX}{ns:List Int}{p:a7}(ad:iq b3 l)(ae:lk p)(h:gn slip l ns [p]=0):Hand slip b3 l/\p.ok:=by
 obtain⟨al,_,bI⟩:=adI h;exact⟨aeL ad al,aeM ae.c5 (Rt bI p (by simp))⟩
def qs(slip:Int)(l:List aX)(ns:List Int)(p:a7):List Int:=if gn slip l ns [p]=0 then hy slip l p l.length else[]
def qt(slip:Int)(l:List aX)(n:Int)(p:a7):Int:=if gn slip l [n] [p]=0 then(if n∈hy slip l p l.length then(if(hy slip l p l.length).length=1 then 1 else 3)else 2)else 0
theorem adH(k:Nat){slip:Int}{b3:aa}{l:List aX}(h:iq b3 l){p:a7}(ae:lk p):dT (k+5) 15 [.agg [ax slip,b3],.agg p.cells] λv=>∃y,v=.bD [y,ax (gn slip l [] [p])]/\dI y (qs slip l [] p):=by
 refine gj (t:=t15) (by kernel_rfl) (fn:=Tryz.f15) (by kernel_rfl) (by simp[dd,flagsOf,h.plain,a7.cells,ae.c5.plain]) ?_;refine eU (by simp only[ag,aD,aM,aS.aP,aR.aP,cF,nth,cM,List.getD_cons_succ,List.getD_cons_zero,aX.cells,a7.cells];rfl) rfl ?_;refine eU (by simp only[ag,aD,aM,aS.aP,aR.aP,cF,nth,cM,List.getD_cons_succ,List.getD_cons_zero,aX.cells,a7.cells];rfl) rfl ?_;refine nN (Sz k (slip:=slip) (x:=.bC) (ns:=[]) (y:=.sl none 5 0 1 p.cells) (ps:=[p]) h EY (by simp) tb (by simpa using ae) (by simp)) rfl ?_;rintro v ⟨a,b,rfl,bL,cD⟩;refine pe (by simp only[ag,aD,aM,aS.aP,aR.aP,cF,nth,cM,List.getD_cons_succ,List.getD_cons_zero,aX.cells,a7.cells,ll];rfl) ?_;refine pe (by simp only[ag,aD,aM,aS.aP,aR.aP,cF,nth,cM,List.getD_cons_succ,List.getD_cons_zero,aX.cells,a7.cells,ll];rfl) ?_;refine eU (by simp only[ag,aD,aM,aS.aP,aR.aP,cF,nth,cM,List.getD_cons_succ,List.getD_cons_zero,aX.cells,a7.cells];rfl) rfl ?_;refine hJ rfl rfl ?_;refine cK rfl (λhe=>?_) (λhe=>?_)
 ·exact wp_ret (v:=.bD [.bC,ax (gn slip l [] [p])]) rfl rfl ⟨.bC,rfl,by unfold qs;rw[if_neg he];exact EY⟩
 replace he:=Decidable.not_not.1 he;obtain⟨rfl,rfl⟩:=bL he;obtain⟨e4,tK⟩:=Ek h ae he;refine dr (Sl (k+3) e4 tK) rfl ?_;have aH:=Qf (oe slip l p l.length);have xv:=aH.plain;exact wp_ret (v:=.bD [lS (oe slip l p l.length),ax 0]) rfl (by simp[xv]) ⟨_,by rw[he],by unfold qs;rw[if_pos he];exact aH⟩
end
section
open Go Go.RowKit
theorem am7{slip:Int}{b3:aa}{l:List aX}{ns:List Int}{p:a7}(h:Hand slip b3 l)(ae:p.ok)(aI:∀n∈ns,0<=n/\n<(l.length:Int))(ak:ns.length<4000):gn slip l ns [p]=0:=by
 have U:=Sz 0 (slip:=slip) (ns:=ns) (ps:=[p]) h.raw (rh ns) ak (tb (p:=p)) (by simpa using ae.raw) (by simp);have ab:=ans 0 h (rh ns) aI ak (ps:=[p]) (by simpa using ae) (by simp);rw[show aa.sl none 5 0 [p].length (uM [p])=.sl none 5 0 1 p.cells by simp[uM]]at ab;have key:∀{g:FuncId}{args:List aa}{Q:aa->Prop}{u:aa},dT 4 g args Q->dT 4 g args (λv=>v=u)->Q u:=λ{g args Q u} a b=>by
  obtain⟨v,ai,aH⟩:=a gP;obtain⟨w,hw,e⟩:=b gP;rw[ai]at hw;injection hw with hw;rw[←e,←hw];exact aH
 obtain⟨a,b,e,_⟩:=key U ab;simp only[aa.bD.injEq,List.cons.injEq,aa.int.injEq]at e;exact e.2.1.2.symm
theorem am3(k:Nat){slip:Int}{b3:aa}{l:List aX}(h:Hand slip b3 l){p:a7}(ae:p.ok):dT (k+5) 15 [.agg [ax slip,b3],.agg p.cells] λv=>∃y,v=.bD [y,ax 0]/\dI y (hy slip l p l.length):=by
 have e:=am7 (ns:=[]) h ae (by simp) (by simp);refine(adH k (slip:=slip) h.raw ae.raw).mono λv ⟨y,U,ab⟩=>⟨y,by rw[U,e],?_⟩;unfold qs at ab;rwa[if_pos e]at ab
def am1(slip:Int)(l:List aX)(n:Nat)(p:a7):Int:=if kn slip (l.getD n default) p then(if(hy slip l p l.length).length=1 then 1 else 3)else 2
theorem am4{slip:Int}{l:List aX}{p:a7}{n N:Nat}(h:n<N):(n:Int)∈hy slip l p N↔kn slip (l.getD n default) p=true:=by
 simp only[hy,oe,List.mem_map,List.mem_filter,List.mem_range];constructor
 ·rintro⟨m,⟨_,hm⟩,e⟩;have e:m=n:=by omega
  rw[←e];exact hm
 ·intro bc;exact⟨n,⟨h,bc⟩,rfl⟩
end
section
open Go Go.RowKit
theorem aaJ{slip:Int}{b3:aa}{l:List aX}{a b:a7}(h:Hand slip b3 l)(au:a.ok)(hb:b.ok):gn slip l [] [a,b]=0:=by
 have aK:=am7 (ns:=[]) h au (by simp) (by simp);have aO:=am7 (ns:=[]) h hb (by simp) (by simp);obtain⟨U,ab,al⟩:=adI aK;obtain⟨_,_,aJ⟩:=adI aO;have bS:=Rt al a (by simp);have b8:=Rt aJ b (by simp);have g:p6 [] 0 ((l.length:Int)-1):=λx aj=>by cases aj
 unfold gn;rw[if_neg (by simp[U]),if_pos g];simp[pI,bS,b8]
theorem Ii(k:Nat){slip:Int}{b3:aa}{l:List aX}(h:Hand slip b3 l){a b:a7}(au:a.ok)(hb:b.ok):dT (k+5) 14 [.agg [ax slip,b3],.agg a.cells,.agg b.cells] λv=>∃y,v=.bD [y,ax 0]/\dI y (ts slip l a b l.length):=by
 have e:=aaJ h au hb;refine(ab8 k (slip:=slip) h.raw au.raw hb.raw).mono λv ⟨y,U,ab⟩=>⟨y,by rw[U,e],?_⟩;unfold GH at ab;rwa[if_pos e]at ab
theorem Cf{slip:Int}{a b:a7}{r:aX}:gY slip a b r=true↔∃x,x∈kl slip r a/\x∈kl slip r b:=by
 unfold gY zH;rw[List.any_eq_true];simp only[decide_eq_true_eq];exact⟨λ⟨x,U,ab⟩=>⟨x,ab,U⟩,λ⟨x,U,ab⟩=>⟨x,ab,U⟩⟩
theorem Vz{slip:Int}{a:a7}{r:aX}:gY slip a a r=kn slip r a:=by
 rw[Bool.eq_iff_iff,Cf];unfold kn;rw[decide_eq_true_eq];constructor
 ·rintro⟨x,h,_⟩;exact List.length_pos_of_mem h
 ·intro h;obtain⟨x,aj⟩:=List.exists_mem_of_length_pos h;exact⟨x,aj,aj⟩
theorem VB{slip:Int}{a b:a7}{r:aX}:gY slip a b r=gY slip b a r:=by
 rw[Bool.eq_iff_iff,Cf,Cf];exact⟨λ⟨x,U,ab⟩=>⟨x,ab,U⟩,λ⟨x,U,ab⟩=>⟨x,ab,U⟩⟩
theorem WS{slip:Int}{l:List aX}{a:a7}{n:Nat}:ts slip l a a n=hy slip l a n:=by
 unfold ts hy oe;simp only[Vz]
theorem WT{slip:Int}{l:List aX}{a b:a7}{n:Nat}:ts slip l a b n=ts slip l b a n:=by
 unfold ts;congr 1;refine List.filter_congr λi hi=>?_;exact VB
theorem aax{slip:Int}{l:List aX}{a b:a7}{n:Nat}{z:Int}(h:z∈ts slip l a b n):∃i:Nat,z=i/\i<n/\gY slip a b (l.getD i default)=true:=by
 simp only[ts,List.mem_map,List.mem_filter,List.mem_range]at h;obtain⟨i,⟨U,ab⟩,e⟩:=h;exact⟨i,e.symm,U,ab⟩
theorem aay{slip:Int}{a b:a7}{r:aX}(h:gY slip a b r=true):kn slip r a=true/\kn slip r b=true:=by
 obtain⟨x,U,ab⟩:=Cf.1 h;exact⟨Rv U,Rv ab⟩
theorem Tx(A B:List (Nat×Bool))(n:Nat)(h:n<A.length):(A.take (n+1)).any (λx=>decide (x∈B))=((A.take n).any (λx=>decide (x∈B))||decide (A.getD n default∈B)):=by rw[take_one h,List.any_append];simp
theorem acf{q:aa}(tG:wY q=true)(xI:q.plain=true):dT 20 3 [q] λv=>v=.bool true:=by
 refine gj (t:=t3) (by kernel_rfl) (fn:=Tryz.f3) (by kernel_rfl) (by simp[dd,flagsOf,xI]) ?_;refine wp q (by simp[Prim.fZ,dz,ag,aS.aP,aR.aP,nth,EX,tG]) ?_;refine nN (agi 14 3 (by omega) (by omega)) rfl ?_;rintro v ⟨slip,b3,l,rfl,cc,vM,F4,gk,bQ,fU⟩;have e4:Hand slip b3 l:=⟨cc,vM,F4,gk,by omega,fU⟩;refine eU (by simp only[ag,aD,aM,aS.aP,aR.aP,cF,nth,cM,List.getD_cons_succ,List.getD_cons_zero,aX.cells,a7.cells];rfl) rfl ?_;refine nN (af9 13 e4) rfl ?_;rintro v ⟨a,rfl,au⟩;try refine eK (by(try simp only[List.length_cons,List.length_nil,Nat.reduceAdd,Nat.zero_add]);rfl) (by(try simp only[dz]);rfl) ?_
 refine nN (af9 13 e4) rfl ?_;rintro v ⟨b,rfl,hb⟩;refine eU (by simp only[ag,aD,aM,aS.aP,aR.aP,cF,nth,cM,List.getD_cons_succ,List.getD_cons_zero,aX.cells,a7.cells];rfl) rfl ?_;refine eU (by simp only[ag,aD,aM,aS.aP,aR.aP,cF,nth,cM,List.getD_cons_succ,List.getD_cons_zero,aX.cells,a7.cells];rfl) rfl ?_;refine nN (Ii 14 e4 au au) rfl ?_;rintro v ⟨jh,rfl,xL⟩;rw[WS]at xL;refine pe (by simp only[ag,aD,aM,aS.aP,aR.aP,cF,nth,cM,List.getD_cons_succ,List.getD_cons_zero,aX.cells,a7.cells,ll];rfl) ?_;refine pe (by simp only[ag,aD,aM,aS.aP,aR.aP,cF,nth,cM,List.getD_cons_succ,List.getD_cons_zero,aX.cells,a7.cells,ll];rfl) ?_;refine nN (am3 14 e4 au) rfl ?_;rintro v ⟨vK,rfl,Lo⟩;refine pe (by simp only[ag,aD,aM,aS.aP,aR.aP,cF,nth,cM,List.getD_cons_succ,List.getD_cons_zero,aX.cells,a7.cells,ll];rfl) ?_;refine pe (by simp only[ag,aD,aM,aS.aP,aR.aP,cF,nth,cM,List.getD_cons_succ,List.getD_cons_zero,aX.cells,a7.cells,ll];rfl) ?_;refine nN (Ii 14 e4 au hb) rfl ?_;rintro v ⟨mP,rfl,IL⟩;refine pe (by simp only[ag,aD,aM,aS.aP,aR.aP,cF,nth,cM,List.getD_cons_succ,List.getD_cons_zero,aX.cells,a7.cells,ll];rfl) ?_;refine pe (by simp only[ag,aD,aM,aS.aP,aR.aP,cF,nth,cM,List.getD_cons_succ,List.getD_cons_zero,aX.cells,a7.cells,ll];rfl) ?_;refine nN (Ii 14 e4 hb au) rfl ?_;rintro v ⟨Vf,rfl,IM⟩;rw[←WT]at IM;refine pe (by simp only[ag,aD,aM,aS.aP,aR.aP,cF,nth,cM,List.getD_cons_succ,List.getD_cons_zero,aX.cells,a7.cells,ll];rfl) ?_;refine pe (by simp only[ag,aD,aM,aS.aP,aR.aP,cF,nth,cM,List.getD_cons_succ,List.getD_cons_zero,aX.cells,a7.cells,ll];rfl) ?_;refine nN (am3 14 e4 hb) rfl ?_;rintro v ⟨LU,rfl,ack⟩;refine pe (by simp only[ag,aD,aM,aS.aP,aR.aP,cF,nth,cM,List.getD_cons_succ,List.getD_cons_zero,aX.cells,a7.cells,ll];rfl) ?_;refine pe (by simp only[ag,aD,aM,aS.aP,aR.aP,cF,nth,cM,List.getD_cons_succ,List.getD_cons_zero,aX.cells,a7.cells,ll];rfl) ?_;have adP:=Ei slip l a l.length;have aeH:=Ei slip l b l.length;have aeI:=Kp slip l a b l.length;refine ez (λaf=>af=[.bool false]) ?_ ?_
 ·refine hJ rfl rfl ?_;refine pW rfl (by omega) ?_;refine hJ rfl rfl ?_;refine pW rfl (by omega) ?_;refine hJ rfl rfl ?_;refine pW rfl (by omega) ?_;refine hJ rfl rfl ?_;refine pW rfl (by omega) ?_;refine hJ rfl rfl ?_;refine pW rfl (by omega) ?_;refine dr (Ki 18 xL Lo (by omega)) rfl ?_;refine wI rfl ?_;refine qV rfl ?_;refine dr (Ki 18 IL IM (by omega)) rfl ?_;refine wI rfl ?_;exact cw rfl
 rintro af rfl;refine qV rfl ?_;have zd:=λ{z:Int}(h:z∈ts slip l a b l.length)=>aax h;have Pq:=λ{n:Nat}(h:n<l.length)=>am4 (slip:=slip) (l:=l) (p:=a) h;have Qt:=λ{n:Nat}(h:n<l.length)=>am4 (slip:=slip) (l:=l) (p:=b) h;refine ez (λaf=>af=[]) ?_ ?_
 ·refine wp_loop (λj af=>∃i:Nat,af=[ax i]/\i+j=(ts slip l a b l.length).length) (ts slip l a b l.length).length (by omega) ⟨0,rfl,by omega⟩ ?_;rintro j af ⟨i,rfl,hi⟩;refine ib rfl (by assumption) ?_;refine hZ rfl rfl ?_;refine cK rfl (λU=>?_) (λU=>?_)
  ·have aU:i<(ts slip l a b l.length).length:=by omega
   have du:=tc IL aU;obtain⟨m,e,hm,bq⟩:=zd (ab9 aU);rw[e]at du;clear IL IM e;obtain⟨SH,SI⟩:=aay bq;have SJ:=(Pq hm).2 SH;have SK:=(Qt hm).2 SI;have Po:=e4.get hm;have ah:(kl slip (l.getD m default) a).any (λx=>decide (x∈kl slip (l.getD m default) b))=true:=by
    obtain⟨x,al,aJ⟩:=Cf.1 bq;exact List.any_eq_true.2 ⟨x,al,by simpa using aJ⟩
   have acm:=Y3 slip Po a;have acn:=Y3 slip Po b;refine ez (λaf=>af=[.bool false]) ?_ ?_
   ·refine wp _ du ?_;refine nN (Pp 18 Lo (by omega) (m:Int)) rfl ?_;rintro v ⟨z,rfl,bO⟩;have iZ:=bO.2 SJ;refine hZ rfl rfl ?_;refine pW rfl (by omega) ?_;refine wp _ du ?_;refine nN (Pp 18 ack (by omega) (m:Int)) rfl ?_;rintro v ⟨dy,rfl,FM⟩;have Cm:=FM.2 SK;refine hZ rfl rfl ?_;exact cw (EZ (q:=dy<0) (by omega)).symm
   rintro af rfl;refine qV rfl ?_;refine wp _ du ?_;refine nN (anf 14 e4 hm au) rfl ?_;rintro v ⟨amL,rfl,Ut⟩;refine pe (by simp only[ag,aD,aM,aS.aP,aR.aP,cF,nth,cM,List.getD_cons_succ,List.getD_cons_zero,aX.cells,a7.cells,ll];rfl) ?_;refine pe (by simp only[ag,aD,aM,aS.aP,aR.aP,cF,nth,cM,List.getD_cons_succ,List.getD_cons_zero,aX.cells,a7.cells,ll];rfl) ?_;refine wp _ du ?_;refine nN (anf 14 e4 hm hb) rfl ?_;rintro v ⟨amM,rfl,aio⟩;refine pe (by simp only[ag,aD,aM,aS.aP,aR.aP,cF,nth,cM,List.getD_cons_succ,List.getD_cons_zero,aX.cells,a7.cells,ll];rfl) ?_;refine pe (by simp only[ag,aD,aM,aS.aP,aR.aP,cF,nth,cM,List.getD_cons_succ,List.getD_cons_zero,aX.cells,a7.cells,ll];rfl) ?_;generalize kl slip (l.getD m default) a=A at *;generalize kl slip (l.getD m default) b=B at *;clear bq Pq Qt SJ SK SH SI;refine ez (λaf=>af=[.bool true]) ?_ ?_
   ·refine wp_loop (λj af=>∃n:Nat,af=[.bool ((A.take n).any λx=>decide (x∈B)),ax n]/\n+j=A.length) A.length (by omega) ⟨0,rfl,by omega⟩ ?_;rintro j5 af ⟨n,rfl,aI⟩;refine aaB rfl (by assumption) ?_;refine hZ rfl rfl ?_;refine cK rfl (λal=>?_) (λal=>?_)
    ·have mB:n<A.length:=by omega
     have h6:=Hi Ut mB;have Cg:=Tx A B n mB;refine ez (λaf=>af=[.bool ((A.take (n+1)).any λx=>decide (x∈B))]) ?_ ?_
     ·refine wq rfl (λaJ=>?_) (λaJ=>?_)
      ·refine cw ?_;rw[Cg,aJ];rfl
      ·refine wp _ h6 ?_;refine dr (aci 18 aio (by omega) _ _) rfl ?_;refine cw ?_;rw[Cg,aJ];rfl
     rintro af rfl;refine ie rfl rfl (by omega) ?_;exact cw ⟨j5-1,by omega,n+1,rfl,by omega⟩
    ·refine ia (by decide) ?_;have e:A.take n=A:=List.take_of_length_le (by omega);rw[e,ah];exact cw rfl
   rintro af rfl;try refine eK (by(try simp only[List.length_cons,List.length_nil,Nat.reduceAdd,Nat.zero_add]);rfl) (by(try simp only[dz]);rfl) ?_
   refine ez (λaf=>af=[.bool false]) ?_ ?_
   ·refine hJ rfl rfl ?_;refine pW rfl (by omega) ?_;refine hJ rfl rfl ?_;refine pW rfl (by omega) ?_;refine wI rfl ?_;exact cw rfl
   rintro af rfl;refine qV rfl ?_;refine ie rfl rfl (by omega) ?_;exact cw ⟨j-1,by omega,i+1,rfl,by omega⟩
  ·refine ia (by decide) ?_;exact cw rfl
 rintro af rfl;refine dr (w:=.bool true) (λω=>⟨_,Qu ω,rfl⟩) rfl ?_;exact wp_ret rfl rfl rfl
theorem aca:∀bz,qu Tryz.prog 6 Tryz.f3.params.toList bz->∀ω,E Tryz.prog 20 ω 3 bz=some (.bool true):=by
 intro bz h ω;rw[show Tryz.f3.params.toList=[22]by kernel_rfl]at h;obtain⟨d,_,rfl,aV,h⟩:=D2 h;have aT:=ace h;subst aT;obtain⟨U,ab,_⟩:=XJ aV;obtain⟨v,ai,rfl⟩:=acf U ab ω;exact ai
end
section
open Go
theorem ruleBackProved:Rows.RuleBackSaid:=Tw aca
#print axioms ruleBackProved
end
end Go.Proofs.YtlminnpaeaganaaGreat
