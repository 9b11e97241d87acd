/- Part of the proof of RuleKnown. No condition. -/
import Derived.Test.YtlminnpaeaganaaGreatMKnownAH
import Derived.Test.YtlminnpaeaganaaGreatMKnownAX
import Derived.Test.YtlminnpaeaganaaGreatMKnownAY
namespace Go.Proofs.YtlminnpaeaganaaGreat
set_option maxRecDepth 100000
set_option linter.all false
section
open Go Go.RowKit
section
variable{P:Program}{C C':b2->FuncId->List aa->Option aa}{n:Nat}
theorem AT{f g:b2->List aa->Option Out}{L:Nat}(h:∀ω af o,f ω af=some o->g ω af=some o):∀(k:Nat)(ω:b2)(af:List aa)(o:Out),iter f L k ω af=some o->iter g L k ω af=some o
 |0,_,_,_,e=>by cases e
 |k+1,ω,af,o,e=>by
  simp only[iter]at e⊢;cases aQ:f ω.l af with
  |none=>rw[aQ]at e;cases e
  |some x=>
   rw[h _ _ _ aQ];rw[aQ]at e;cases x with
   |val v=>exact e
   |jump cL cB=>
    simp only at e⊢;split
    ·rename_i ak;rw[if_pos ak]at e;exact AT h k _ _ _ e
    ·rename_i ak;rw[if_neg ak]at e;exact e
theorem gF(h:∀ω g args v,C ω g args=some v->C' ω g args=some v):∀(t:Tree)(ω:b2)(ρ:List aa)(o:Out),eval P C n t ω ρ=some o->eval P C' n t ω ρ=some o
 |.ret _,_,_,_,e=>e
 |.jump _ _,_,_,_,e=>e
 |.die,_,_,_,e=>e
 |.av p t,ω,ρ,o,e=>by
  simp only[eval]at e⊢;split at e
  ·exact gF h t _ _ _ e
  ·cases e
 |.ite c a b,ω,ρ,o,e=>by
  simp only[eval]at e⊢;split at e
  ·exact gF h a _ _ _ e
  ·exact gF h b _ _ _ e
  ·cases e
 |.call g args t,ω,ρ,o,e=>by
  simp only[eval]at e⊢;split at e
  ·rename_i v ai;rw[h _ _ _ _ ai];exact gF h t _ _ _ e
  ·cases e
 |.kL f args t,ω,ρ,o,e=>by
  simp only[eval]at e⊢;split at e
  ·rename_i g bf aQ;split at e
   ·rename_i v ai;rw[h _ _ _ _ ai];exact gF h t _ _ _ e
   ·cases e
  ·cases e
 |.pick sz c t,ω,ρ,o,e=>by
  simp only[eval]at e⊢;split at e
  ·exact gF h t _ _ _ e
  ·cases e
 |.loop L i b,ω,ρ,o,e=>by
  simp only[eval]at e⊢;exact AT (λω af o e=>gF h b _ _ _ e) _ _ _ _ e
 |.join L b k,ω,ρ,o,e=>by
  simp only[eval]at e⊢;cases hb:eval P C n b ω.l ρ with
  |none=>rw[hb]at e;cases e
  |some x=>
   rw[gF h b _ _ _ hb];rw[hb]at e;cases x with
   |val v=>exact e
   |jump cL af=>
    simp only at e⊢;split
    ·rename_i ak;rw[if_pos ak]at e;exact gF h k _ _ _ e
    ·rename_i ak;rw[if_neg ak]at e;exact e
theorem xi{eM:TypeId}{cA:FuncId->Option Tree}(h:∀ω g args v,C ω g args=some v->C' ω g args=some v):∀(k:Nat)(ω:b2)(g:FuncId)(args:List aa)(v:aa),jD P eM cA C n k ω g args=some v->jD P eM cA C' n k ω g args=some v
 |0,_,_,_,_,e=>by cases e
 |k+1,ω,g,args,v,e=>by
  simp only[jD]at e⊢;cases a1:cA g with
  |none=>rw[a1]at e;exact h _ _ _ _ e
  |some t=>
   rw[a1]at e;simp only at e⊢;cases aQ:P.funcs[g]? with
   |none=>rw[aQ]at e;cases e
   |some fn=>
    rw[aQ]at e;simp only at e⊢;split at e
    ·rename_i gN;rw[if_pos gN];split at e
     ·rename_i x aj;rw[gF (xi h k) _ _ _ _ aj];exact e
     ·cases e
    ·cases e
theorem BQ{eM:TypeId}{cA:FuncId->Option Tree}{k:Nat}{ω:b2}{g:FuncId}{args:List aa}{t:Tree}{fn:Func}{v:aa}(a1:cA g=some t)(aQ:P.funcs[g]?=some fn)(gN:dd (flagsOf eM fn) args=true)
  (h:eval P (jD P eM cA C n k) n t ω args=some (.val v)) (ae:v.plain=true):jD P eM cA C n (k+1) ω g args=some v:=by
 rw[jD];simp only[a1,aQ,gN,if_true,h,ae]
end
end
section
open Go Go.RowKit
def hZ(x:Int):List Int->List Int
 |[]=>[x]
 |y::l=>if x<=y then x::y::l else y::hZ x l
def iV:List Int->List Int
 |[]=>[]
 |x::l=>hZ x (iV l)
theorem q4(x:Int):∀l,(hZ x l).Perm (x::l)
 |[]=>.refl _
 |y::l=>by
  simp only[hZ];split
  ·exact .refl _
  ·exact((q4 x l).cons y).trans (.swap x y l)
theorem xJ:∀l,(iV l).Perm l
 |[]=>.refl _
 |x::l=>(q4 x (iV l)).trans ((xJ l).cons x)
theorem CF(x:Int):∀{l:List Int},l.Pairwise (·<=·)->(hZ x l).Pairwise (·<=·)
 |[],_=>by simp[hZ]
 |y::l,h=>by
  have ah:=List.pairwise_cons.1 h;simp only[hZ];split
  ·rename_i aj;refine List.pairwise_cons.2 ⟨λz bO=>?_,h⟩;rcases List.mem_cons.1 bO with rfl|bO
   ·exact aj
   ·have:=ah.1 z bO;omega
  ·rename_i aj;refine List.pairwise_cons.2 ⟨λz bO=>?_,CF x ah.2⟩;rcases List.mem_cons.1 ((q4 x l).mem_iff.1 bO)with rfl|bO
   ·omega
   ·exact ah.1 z bO
theorem Ce:∀l,(iV l).Pairwise (·<=·)
 |[]=>.nil
 |x::l=>CF x (Ce l)
theorem Sf(l:List Int):l.mergeSort (λx y=>decide (x<=y))=iV l:=by
 refine List.Perm.eq_of_pairwise (le:=λx y:Int=>x<=y) (λa b _ _ U ab=>by omega) ?_ (Ce l) ((List.mergeSort_perm l _).trans (xJ l).symm);have:=List.pairwise_mergeSort (le:=λx y:Int=>decide (x<=y)) (λa b c U ab=>by simp only[decide_eq_true_eq]at *;omega) (λa b=>by simp only[Bool.or_eq_true,decide_eq_true_eq];omega) l;exact this.imp λh=>by simpa using h
def uc(P:Program)(ρ:List aa)(p:Prim):Option aa:=match p with
 |.qz c=>match c.den ρ with
  |.agg cs=>if cs.all zh=true/\cs.length<1099511627776 then some (.agg ((iV (cs.map UT)).map (aa.int .i64)))else none
  |_=>none
 |p=>p.run P ρ
theorem SD(P:Program)(ρ:List aa)(p:Prim):uc P ρ p=p.run P ρ:=by
 cases p<;>try rfl
 rename_i c;simp only[uc,Prim.run,Kv];split<;>simp_all[lP,Sf]
mutual
def dr:aa->aa->Bool
 |.int k a,.int bB b=>decide (k=bB)&&decide (a=b)
 |.bool a,.bool b=>a==b
 |.bC,.bC=>true
 |.ca,.ca=>true
 |.mp it none a l,.mp Mm none a' m=>(it==Mm)&&decide (a=a')&&gn l m
 |.agg l,.agg m=>gn l m
 |.bD l,.bD m=>gn l m
 |.sl none a b c l,.sl none a' a6 c' m=>decide (a=a')&&decide (b=a6)&&decide (c=c')&&gn l m
 |_,_=>false
def gn:List aa->List aa->Bool
 |[],[]=>true
 |x::l,y::m=>dr x y&&gn l m
 |_,_=>false
end
mutual
theorem m9:∀{x y:aa},dr x y=true->x=y
 |.int k a,y,h=>by cases y<;>simp[dr]at h;rw[h.1,h.2]
 |.bool a,y,h=>by cases y<;>simp[dr]at h;rw[h]
 |.bC,y,h=>by cases y<;>simp[dr]at h;rfl
 |.ca,y,h=>by cases y<;>simp[dr]at h;rfl
 |.mp it none a l,y,h=>by
  cases y<;>try (simp[dr]at h;done)
  rename_i Mm id a' m;cases id<;>simp[dr]at h;obtain⟨⟨rfl,rfl⟩,h⟩:=h;rw[hV h]
 |.agg l,y,h=>by cases y<;>simp[dr]at h;rw[hV h]
 |.bD l,y,h=>by cases y<;>simp[dr]at h;rw[hV h]
 |.sl none a b c l,y,h=>by
  cases y<;>try (simp[dr]at h;done)
  rename_i id a' a6 c' m;cases id<;>simp[dr]at h;obtain⟨⟨⟨rfl,rfl⟩,rfl⟩,h⟩:=h;rw[hV h]
 |.sl (some _) _ _ _ _,y,h=>by simp[dr]at h
 |.str _,y,h | .undef,y,h | .bad,y,h | .eL,y,h | .dead _,y,h | .cq _,y,h | .ptr _ _,y,h | .aV _ _ _,y,h | .bJ _ _ _,y,h | .fn _ _,y,h | .mp _ (some _) _ _,y,h=>by simp[dr]at h
theorem hV:∀{x y:List aa},gn x y=true->x=y
 |[],[],_=>rfl
 |x::l,y::m,h=>by
  simp only[gn,Bool.and_eq_true]at h;rw[m9 h.1,hV h.2]
 |[],_::_,h=>by simp[gn]at h
 |_::_,[],h=>by simp[gn]at h
end
def uF:Out->Out->Bool
 |.val a,.val b=>dr a b
 |.jump L a,.jump M b=>decide (L=M)&&gn a b
 |_,_=>false
theorem Tr{x y:Out}(h:uF x y=true):x=y:=by
 cases x<;>cases y<;>simp only[uF,Bool.and_eq_true,decide_eq_true_eq,Bool.false_eq_true]at h
 ·rw[m9 h]
 ·rw[h.1,hV h.2]
def jz(l:List Out):List Out->List Out
 |[]=>l
 |o::os=>if l.any (uF o)=true then jz l os else jz (o::l) os
theorem hY{o:Out}:∀{os l:List Out},o∈l\/o∈os->o∈jz l os
 |[],l,h=>by rcases h with h|h;exact h;cases h
 |x::os,l,h=>by
  simp only[jz];split
  ·rename_i aj;refine hY ?_;rcases h with h|h
   ·exact .inl h
   ·rcases List.mem_cons.1 h with rfl|h
    ·obtain⟨y,aF,e⟩:=List.any_eq_true.1 aj;rw[Tr e];exact .inl aF
    ·exact .inr h
  ·refine hY ?_;rcases h with h|h
   ·exact .inl (by simp[h])
   ·rcases List.mem_cons.1 h with rfl|h
    ·exact .inl (by simp)
    ·exact .inr h
def h9(f:Out->Option (List Out)):List Out->List Out->Option (List Out)
 |[],acc=>some acc
 |o::l,acc=>match f o with
  |some os=>h9 f l (jz acc os)
  |none=>none
theorem pQ{f:Out->Option (List Out)}:∀{l acc r:List Out},h9 f l acc=some r->(∀o∈acc,o∈r)/\∀o∈l,∃os,f o=some os/\∀x∈os,x∈r
 |[],acc,r,h=>by
  simp only[h9,Option.some.injEq]at h;subst h;exact⟨λ_ h=>h,λ_ h=>by cases h⟩
 |o::l,acc,r,h=>by
  simp only[h9]at h;split at h
  ·rename_i os tp;obtain⟨U,ab⟩:=pQ h;refine⟨λx aj=>U x (hY (.inl aj)),λx aj=>?_⟩;rcases List.mem_cons.1 aj with rfl|aj
   ·exact⟨os,tp,λy aF=>U y (hY (.inr aF))⟩
   ·exact ab x aj
  ·cases h
section
variable(P:Program)(H:Tree->Nat->List aa->List aa->Option (List Out))(C:FuncId->List aa->Option aa)(n:Nat)
def kl(L:Nat):Out->Bool
 |.jump M _=>decide (M=L)
 |_=>false
def qs(step:List aa->Option (List Out))(L:Nat):Nat->List Out->Option (List Out)
 |0,_=>none
 |k+1,oc=>match h9 (fun | .jump _ af=>step af|_=>none) oc []with
  |some os=>match os.filter (kl L)with
   |[]=>some os
   |Ys=>(qs step L k Ys).map λr=>jz r (os.filter λo=>!kl L o)
  |none=>none
def outs:Tree->List aa->Option (List Out)
 |.ret v,ρ=>some [.val (v.den ρ)]
 |.jump L l,ρ=>some [.jump L (ep ρ l)]
 |.av p t,ρ=>match uc P ρ p with
  |some v=>outs t (ρ++[v])
  |none=>none
 |.ite c a b,ρ=>match c.den ρ with
  |.bool true=>outs a ρ
  |.bool false=>outs b ρ
  |_=>none
 |.call g args t,ρ=>match C g (ep ρ args)with
  |some v=>outs t (ρ++[v])
  |none=>none
 |.kL f args t,ρ=>match f.den ρ with
  |.fn g bf=>match C g (ep ρ args++bf)with
   |some v=>outs t (ρ++[v])
   |none=>none
  |_=>none
 |.pick sz c t,ρ=>match c.den ρ with
  |.agg cs=>if w6 sz cs=0 then outs t (ρ++[.agg [.bool false]])
   else h9 (fun | .jump i _=>outs t (ρ++[.agg (.bool true::(chunk sz (cs.drop sz) i++hL sz (cs.drop sz) i))])|_=>none) ((List.range (w6 sz cs)).map λi=>.jump i []) []
  |_=>none
 |.loop L init body,ρ=>match H body L ρ (ep ρ init)with
  |some os=>some os
  |none=>qs (λaf=>outs body (ρ++af)) L n [.jump L (ep ρ init)]
 |.join L body k,ρ=>match outs body ρ with
  |some os=>h9 (fun | .jump cL af=>if cL=L then outs k (ρ++af)else some [.jump cL af]|o=>some [o]) os []
  |none=>none
 |.die,_=>none
end
section
variable{P:Program}{H:Tree->Nat->List aa->List aa->Option (List Out)}{C:FuncId->List aa->Option aa}{C':b2->FuncId->List aa->Option aa}{n:Nat}
theorem Ch{f:b2->List aa->Option Out}{step:List aa->Option (List Out)}{L:Nat}(ao:∀af os,step af=some os->∀ω,∃o,f ω af=some o/\o∈os):∀(k:Nat)(oc r:List Out),qs step L k oc=some r->∀M af,.jump M af∈oc->∀ω,∃o,iter f L k ω af=some o/\o∈r
 |0,_,_,h,_,_,_,_=>by cases h
 |k+1,oc,r,h,M,af,hm,ω=>by
  simp only[qs]at h;split at h
  ·rename_i os tp;obtain⟨uG,U,ab⟩:=(pQ tp).2 _ hm;obtain⟨o,al,aJ⟩:=ao af uG U ω.l;have ar:=ab o aJ;simp only[iter,al];split at h
   ·rename_i fK;injection h with h;subst h;cases o with
    |val v=>exact⟨_,rfl,ar⟩
    |jump cL cB=>
     simp only;split
     ·rename_i ak;have:Out.jump cL cB∈os.filter (kl L):=List.mem_filter.2 ⟨ar,by simp[kl,ak]⟩;rw[fK]at this;cases this
     ·exact⟨_,rfl,ar⟩
   ·obtain⟨eh,vz,rfl⟩:=Option.map_eq_some_iff.1 h;cases o with
    |val v=>exact⟨_,rfl,hY (.inr (List.mem_filter.2 ⟨ar,rfl⟩))⟩
    |jump cL cB=>
     simp only;split
     ·rename_i ak;obtain⟨LM,k1,k2⟩:=Ch ao k _ _ vz cL cB (List.mem_filter.2 ⟨ar,by simp[kl,ak]⟩) ω.r;exact⟨LM,k1,hY (.inl k2)⟩
     ·rename_i ak;exact⟨_,rfl,hY (.inr (List.mem_filter.2 ⟨ar,by simp[kl,ak]⟩))⟩
  ·cases h
theorem gK(e4:∀b L ρ af os,H b L ρ af=some os->∀ω,∃o,iter (λω af=>eval P C' n b ω (ρ++af)) L n ω af=some o/\o∈os)(hC:∀g a v,C g a=some v->∀ω,C' ω g a=some v):∀(t:Tree)(ρ:List aa)(os:List Out),outs P H C n t ρ=some os->∀ω,∃o,eval P C' n t ω ρ=some o/\o∈os
 |.ret v,ρ,Q,h,ω=>by simp only[outs,Option.some.injEq]at h;subst h;exact⟨_,rfl,by simp⟩
 |.jump L l,ρ,Q,h,ω=>by simp only[outs,Option.some.injEq]at h;subst h;exact⟨_,rfl,by simp⟩
 |.die,ρ,Q,h,ω=>by cases h
 |.av p t,ρ,Q,h,ω=>by
  simp only[outs,SD]at h;simp only[eval];split at h
  ·rename_i v ai;rw[ai];exact gK e4 hC t _ Q h ω
  ·cases h
 |.ite c a b,ρ,Q,h,ω=>by
  simp only[outs]at h;simp only[eval];split at h
  ·rename_i ai;rw[ai];exact gK e4 hC a _ Q h ω
  ·rename_i ai;rw[ai];exact gK e4 hC b _ Q h ω
  ·cases h
 |.call g args t,ρ,Q,h,ω=>by
  simp only[outs]at h;simp only[eval];split at h
  ·rename_i v ai;rw[hC _ _ _ ai];exact gK e4 hC t _ Q h ω.r
  ·cases h
 |.kL f args t,ρ,Q,h,ω=>by
  simp only[outs]at h;simp only[eval];split at h
  ·rename_i g bf aQ;rw[aQ];simp only;split at h
   ·rename_i v ai;rw[hC _ _ _ ai];exact gK e4 hC t _ Q h ω.r
   ·cases h
  ·cases h
 |.pick sz c t,ρ,Q,h,ω=>by
  simp only[outs]at h;simp only[eval];split at h
  ·rename_i cs ah;rw[ah];unfold y8;simp only;split at h
   ·rename_i aT;rw[if_pos aT];exact gK e4 hC t _ Q h ω.r
   ·rename_i aT;rw[if_neg aT];have aU:=Nat.mod_lt (ω.l []) (show 0<w6 sz cs by omega);obtain⟨os,U,ab⟩:=(pQ h).2 (.jump (ω.l []%w6 sz cs) []) (List.mem_map.2 ⟨_,List.mem_range.2 aU,rfl⟩);obtain⟨o,al,aJ⟩:=gK e4 hC t _ os U ω.r;exact⟨o,al,ab o aJ⟩
  ·cases h
 |.loop L i b,ρ,Q,h,ω=>by
  simp only[outs]at h;simp only[eval];split at h
  ·rename_i os tp;injection h with h;subst h;exact e4 _ _ _ _ _ tp ω
  exact Ch (λaf os (h:outs P H C n b (ρ++af)=some os) ω=>gK e4 hC b (ρ++af) os h ω) n _ _ h L _ (by simp) ω
 |.join L b k,ρ,Q,h,ω=>by
  simp only[outs]at h;split at h
  ·rename_i os tp;obtain⟨o,U,ab⟩:=gK e4 hC b ρ os tp ω.l;obtain⟨uG,al,aJ⟩:=(pQ h).2 o ab;simp only[eval,U];cases o with
   |val v=>
    simp only[Option.some.injEq]at al;subst al;exact⟨_,rfl,aJ _ (by simp)⟩
   |jump cL af=>
    simp only at al⊢;split
    ·rename_i ak;rw[if_pos ak]at al;obtain⟨LM,k1,k2⟩:=gK e4 hC k _ uG al ω.r;exact⟨LM,k1,aJ _ k2⟩
    ·rename_i ak;rw[if_neg ak]at al;simp only[Option.some.injEq]at al;subst al;exact⟨_,rfl,aJ _ (by simp)⟩
  ·cases h
end
end
section
open Go Go.RowKit
def ax(n:Int):aa:=.int .i64 n
def p6:aa:=.sl none 3 0 3 [.sl none 1 0 1 [ax 6],ax 8,ax 30,.sl none 1 0 2 [ax 6,ax 8],ax 6,ax 30,.sl none 1 0 3 [ax 5,ax 7,ax 9],ax 7,ax 40]
def gR:List aa:=[ax 1,p6]
def gj(g:List Int)(w:Int):List aa:=[.sl none 1 0 g.length (g.map ax),ax 0,ax 0,ax w,.bool false]
def EZ:List (List Int×Int×List Nat):=[([20],0,[]),([8],0,[1,2]),([8],31,[1]),([6,6],0,[0,2]),([6,6],31,[0]),([6,9],0,[1,2])]
def su(ω:b2)(g:FuncId)(a:List aa):Option aa:=if g=58 then(match a with
 |[h,p]=>if dr h (.agg gR)=true then(EZ.find? λx=>dr p (.agg (gj x.1 x.2.1))).map λx=>lS x.2.2 else none
 |_=>none)else none
def dk(k:Nat)(g:List Int)(w:Int)(i:Nat)(b:Bool):Prop:=∀ω,PP.E cl k ω 103 [.ca,.bJ none 0 gR,.bJ none 0 [.int .i64 (i:Int)],.bJ none 0 (gj g w),.ca]=some (.bD [.bool b,.int .i64 (i:Int)])
theorem TM:dk 9 [20] 0 0 false/\dk 9 [20] 0 1 false/\dk 9 [20] 0 2 false:=⟨λω=>by kernel_rfl,λω=>by kernel_rfl,λω=>by kernel_rfl⟩
theorem T0:dk 9 [8] 0 0 false/\dk 9 [8] 0 1 true/\dk 9 [8] 0 2 true:=⟨λω=>by kernel_rfl,λω=>by kernel_rfl,λω=>by kernel_rfl⟩
theorem T1:dk 9 [8] 31 0 false/\dk 9 [8] 31 1 true/\dk 9 [8] 31 2 false:=⟨λω=>by kernel_rfl,λω=>by kernel_rfl,λω=>by kernel_rfl⟩
theorem T2:dk 9 [6,6] 0 0 true/\dk 9 [6,6] 0 1 false/\dk 9 [6,6] 0 2 true:=⟨λω=>by kernel_rfl,λω=>by kernel_rfl,λω=>by kernel_rfl⟩
theorem Uq:dk 9 [6,6] 31 0 true/\dk 9 [6,6] 31 1 false/\dk 9 [6,6] 31 2 false:=⟨λω=>by kernel_rfl,λω=>by kernel_rfl,λω=>by kernel_rfl⟩
theorem Ur:dk 9 [6,9] 0 0 false/\dk 9 [6,9] 0 1 true/\dk 9 [6,9] 0 2 true:=⟨λω=>by kernel_rfl,λω=>by kernel_rfl,λω=>by kernel_rfl⟩
theorem ie{g:List Int}{w:Int}{l:List Nat}{gf fj gB:Bool}(h:dk 9 g w 0 gf/\dk 9 g w 1 fj/\dk 9 g w 2 gB)(aV:hv (gj g w)=true)(ae:bG (gj g w)=true)(ak:rN 3 (λi=>if i=0 then gf else if i=1 then fj else gB)=l)(ω:b2):pj ω 58 [.agg gR,.agg (gj g w)]=some (lS l):=by
 have hb:∀i:Nat,i<3->∀ω,PP.E cl 9 ω 103 [.ca,.bJ none 0 gR,.bJ none 0 [.int .i64 (i:Int)],.bJ none 0 (gj g w),.ca]=some (.bD [.bool (if i=0 then gf else if i=1 then fj else gB),.int .i64 (i:Int)]):=by
  intro i aX ω
  match i,aX with
  |0,_=>exact h.1 ω
  |1,_=>exact h.2.1 ω
  |2,_=>exact h.2.2 ω
 have aw:adG [.agg gR,.agg (gj g w)] l gR (gj g w) p6 3 λi=>if i=0 then gf else if i=1 then fj else gB:=
  ⟨rfl,by kernel_rfl,aV,by kernel_rfl,ae,rfl,.inr ⟨_,_,_,rfl⟩,by omega,hb,ak.symm⟩
 have key:∀aG,yX [.agg gR,.agg (gj g w)] aG->aG=l:=by
  rintro aG ⟨ah,eg,cy,n,bit,iM⟩;obtain⟨aK,aO⟩:gR=ah/\gj g w=eg:=by have:=iM.a;simpa using this
  subst aK aO;have aH:cy=p6:=by
   have U:=iM.q;have ab:gR[1]?=some p6:=rfl;rw[ab]at U;injection U with U;exact U.symm
  subst aH;have aI:n=3:=by
   rcases iM.r with⟨e,_⟩|⟨_,_,_,e⟩
   ·cases e
   ·injection e with _ _ _ e _;exact e.symm
  subst aI;rw[iM.l,←ak];have aT:=(iM.b 0 (by omega) ω).symm.trans (hb 0 (by omega) ω);have U:=(iM.b 1 (by omega) ω).symm.trans (hb 1 (by omega) ω);have ab:=(iM.b 2 (by omega) ω).symm.trans (hb 2 (by omega) ω);simp only[Option.some.injEq,aa.bD.injEq,List.cons.injEq,aa.bool.injEq]at aT U ab;refine List.filter_congr λi aX=>?_;by_cases al:i<3
  ·have oK:bit i=if i=0 then gf else if i=1 then fj else gB:=by
    match i,al with
    |0,_=>exact aT.1
    |1,_=>exact U.1
    |2,_=>exact ab.1
   rw[oK]
  ·simp[al]
 have hex:∃aG,yX [.agg gR,.agg (gj g w)] aG:=⟨_,_,_,_,_,_,aw⟩;unfold pj;rw[if_pos rfl,dif_pos hex,key _ hex.choose_spec]
theorem Ry(ω:b2)(g:FuncId)(a:List aa)(v:aa)(h:su ω g a=some v):pj ω g a=some v:=by
 unfold su at h;split at h
 ·rename_i aN;subst aN;split at h
  ·rename_i x y;split at h
   ·rename_i bq;obtain rfl:=m9 bq;obtain⟨z,bO,rfl⟩:=Option.map_eq_some_iff.1 h;have aF:y=.agg (gj z.1 z.2.1):=m9 (by have:=List.find?_some bO;exact this);subst aF;have hm:=List.mem_of_find?_eq_some bO;simp only[EZ,List.mem_cons,List.not_mem_nil,or_false]at hm;rcases hm with rfl|rfl|rfl|rfl|rfl|rfl
    ·exact ie TM (by kernel_rfl) (by kernel_rfl) (by kernel_rfl) ω
    ·exact ie T0 (by kernel_rfl) (by kernel_rfl) (by kernel_rfl) ω
    ·exact ie T1 (by kernel_rfl) (by kernel_rfl) (by kernel_rfl) ω
    ·exact ie T2 (by kernel_rfl) (by kernel_rfl) (by kernel_rfl) ω
    ·exact ie Uq (by kernel_rfl) (by kernel_rfl) (by kernel_rfl) ω
    ·exact ie Ur (by kernel_rfl) (by kernel_rfl) (by kernel_rfl) ω
   ·cases h
  ·cases h
 ·cases h
noncomputable def ib(k:Nat)(ω:b2)(g:FuncId)(a:List aa):Option aa:=jD Tryz.prog 23 cA su 4096 k ω g a
theorem Tx{k:Nat}{ω:b2}{g:FuncId}{a:List aa}{v:aa}(h:ib k ω g a=some v):E Tryz.prog k ω g a=some v:=xi Ry k ω g a v h
end
section
open Go Go.RowKit
def cK:List (Int×Bool)->List aa
 |[]=>[]
 |x::l=>.int .i64 x.1::.bool x.2::cK l
theorem Az:∀l,(cK l).length=2*l.length
 |[]=>rfl
 |x::l=>by simp only[cK,List.length_cons,Az l];omega
theorem AD:∀a b,cK (a++b)=cK a++cK b
 |[],b=>rfl
 |x::a,b=>by simp only[cK,List.cons_append,AD a b]
theorem x3:∀(i:Nat)(l:List (Int×Bool)),(cK l).drop (i*2)=cK (l.drop i)
 |0,l=>by simp
 |i+1,[]=>by simp[cK]
 |i+1,x::l=>by
  rw[show(i+1)*2=i*2+1+1 by omega];simp only[cK,List.drop_succ_cons,x3 i l]
theorem yG:∀(i:Nat)(l:List (Int×Bool)),(cK l).take (i*2)=cK (l.take i)
 |0,l=>by simp[cK]
 |i+1,[]=>by simp[cK]
 |i+1,x::l=>by
  rw[show(i+1)*2=i*2+1+1 by omega];simp only[cK,List.take_succ_cons,yG i l]
def kn:List aa->Option (List (Int×Bool))
 |[]=>some []
 |.int .i64 a::.bool b::l=>(kn l).map λL=>(a,b)::L
 |_=>none
theorem CZ:∀{cs:List aa}{L:List (Int×Bool)},kn cs=some L->cs=cK L
 |[],L,h=>by simp only[kn,Option.some.injEq]at h;subst h;rfl
 |[_],L,h=>by simp[kn]at h
 |x::y::l,L,h=>by
  unfold kn at h;split at h
  ·rename_i e;cases e
  ·rename_i a b aG e;injection e with aK aO;injection aO with aO bS;subst aK aO bS;obtain⟨cL,dg,rfl⟩:=Option.map_eq_some_iff.1 h;rw[CZ dg];rfl
  ·cases h
def Vo:Tree:=.pick 2 (.var 30) (.ite (.proj (.var 31) 0) (.av (.lI (.var 31)) (.av (.mI 2 (.var 32)) (.join 7 (.ite (.var 29) (.jump 7 [.e (.bu (.bool true))]) (.av (.bin .eql 43 (iy 33) (iy 27)) (.jump 7 [ag 34]))) (.jump 6 [ag 34,ag 32])))) (.jump 5 [ag 29]))
theorem Wf(a c:Int)(b d:Bool):eB Tryz.prog .eql 43 (.agg [.int .i64 a,.bool b]) (.agg [.int .i64 c,.bool d])=some (.bool (decide (a=c)&&((b==d)&&true))):=by kernel_rfl
def jA(x:Int×Bool)(L:List (Int×Bool)):Bool:=L.any λz=>decide (z.1=x.1)&&((z.2==x.2)&&true)
theorem zl(x:Int×Bool):∀(L:List (Int×Bool))(j:Nat)(h:j<L.length),jA x L=((decide ((L[j]).1=x.1)&&(((L[j]).2==x.2)&&true))||jA x (L.eraseIdx j))
 |z::L,0,h=>rfl
 |z::L,j+1,h=>by
  have:=zl x L j (by simpa using h);simp only[jA,List.any_cons,List.eraseIdx_cons_succ,List.getElem_cons_succ]at this⊢;rw[this,Bool.or_left_comm]
theorem Uv{k1 k2:aa}(L:List (Int×Bool))(i:Nat)(h:0<L.length):∃(j:Nat)(aC:j<L.length),y8 2 (k1::k2::cK L) i=.agg (.bool true::.int .i64 (L[j]).1::.bool (L[j]).2::cK (L.eraseIdx j)):=by
 have aI:w6 2 (k1::k2::cK L)=L.length:=by
  simp only[w6,List.drop_succ_cons,List.drop_zero,Az];omega
 have aC:i%L.length<L.length:=Nat.mod_lt _ h;refine⟨i%L.length,aC,?_⟩;unfold y8;rw[aI,if_neg (by omega)];simp only[List.drop_succ_cons,List.drop_zero,chunk,hL,x3,yG,←AD,List.eraseIdx_eq_take_drop_succ];rw[List.drop_eq_getElem_cons aC];rfl
section
variable{C:b2->FuncId->List aa->Option aa}{n:Nat}{a0 eD a2 a3 a4 a5 mw mQ mR a9 ks kG a12 kN k6 k9 lj lk ln lo a20 a21 a22 lF a24 lO mj a28:aa}{mN jh:Int}{qD vK b:Bool}{cs rest:List aa}{ω:b2}
theorem Ts(h:y8 2 cs (ω.l [])=.agg [.bool false]):eval Tryz.prog C n Vo ω (([a0,eD,a2,a3,a4,a5,mw,mQ,mR,a9,ks,kG,a12,kN,k6,k9,lj,lk,ln,lo,a20,a21,a22,lF,a24,lO,mj,.agg [.int .i64 mN,.bool qD],a28]:List aa)++[.bool b,.agg cs])=some (.jump 5 [.bool b]):=by
 show eval Tryz.prog C n (.ite (.proj (.var 31) 0) _ (.jump 5 [ag 29])) ω.r (([a0,eD,a2,a3,a4,a5,mw,mQ,mR,a9,ks,kG,a12,kN,k6,k9,lj,lk,ln,lo,a20,a21,a22,lF,a24,lO,mj,.agg [.int .i64 mN,.bool qD],a28]:List aa)++[.bool b,.agg cs]++[y8 2 cs (ω.l [])])=_;rw[h];rfl
theorem Uw(h:y8 2 cs (ω.l [])=.agg (.bool true::.int .i64 jh::.bool vK::rest)):eval Tryz.prog C n Vo ω (([a0,eD,a2,a3,a4,a5,mw,mQ,mR,a9,ks,kG,a12,kN,k6,k9,lj,lk,ln,lo,a20,a21,a22,lF,a24,lO,mj,.agg [.int .i64 mN,.bool qD],a28]:List aa)++[.bool b,.agg cs])=some (.jump 6 [.bool (b||(decide (jh=mN)&&((vK==qD)&&true))),.agg (.int .i64 jh::.bool vK::rest)]):=by
 show eval Tryz.prog C n (.ite (.proj (.var 31) 0) (.av (.lI (.var 31)) (.av (.mI 2 (.var 32)) (.join 7 (.ite (.var 29) (.jump 7 [.e (.bu (.bool true))]) (.av (.bin .eql 43 (iy 33) (iy 27)) (.jump 7 [ag 34]))) (.jump 6 [ag 34,ag 32])))) (.jump 5 [ag 29])) ω.r (([a0,eD,a2,a3,a4,a5,mw,mQ,mR,a9,ks,kG,a12,kN,k6,k9,lj,lk,ln,lo,a20,a21,a22,lF,a24,lO,mj,.agg [.int .i64 mN,.bool qD],a28]:List aa)++[.bool b,.agg cs]++[y8 2 cs (ω.l [])])=_;rw[h];cases b with
 |true=>rfl
 |false=>
  show(match(match eB Tryz.prog .eql 43 (.agg [.int .i64 jh,.bool vK]) (.agg [.int .i64 mN,.bool qD])with
   |some v=>some (Out.jump 7 [v])
   |none=>none)with
   |some (.jump cL af)=>if cL=7 then eval Tryz.prog C n (.jump 6 [ag 34,ag 32]) ω.r.r (([a0,eD,a2,a3,a4,a5,mw,mQ,mR,a9,ks,kG,a12,kN,k6,k9,lj,lk,ln,lo,a20,a21,a22,lF,a24,lO,mj,aa.agg [aa.int IntKind.i64 mN,aa.bool qD],a28]:List aa)++[aa.bool false,aa.agg cs]++[aa.agg (aa.bool true::aa.int IntKind.i64 jh::aa.bool vK::rest)]++[aa.agg (aa.int IntKind.i64 jh::aa.bool vK::rest)]++[aa.agg [aa.int IntKind.i64 jh,aa.bool vK]]++af)else some (.jump cL af)
   |o=>o)=_
  rw[Wf];rfl
theorem D4:∀(k:Nat)(L:List (Int×Bool))(b:Bool)(k1 k2:aa)(ω:b2),L.length<k ->
  iter (λω af=>eval Tryz.prog C n Vo ω (([a0,eD,a2,a3,a4,a5,mw,mQ,mR,a9,ks,kG,a12,kN,k6,k9,lj,lk,ln,lo,a20,a21,a22,lF,a24,lO,mj,.agg [.int .i64 mN,.bool qD],a28]:List aa)++af)) 6 k ω [.bool b,.agg (k1::k2::cK L)]=some (.jump 5 [.bool (b||jA (mN,qD) L)])
 |0,L,b,k1,k2,ω,h=>by omega
 |k+1,[],b,k1,k2,ω,h=>by
  rw[iter,Ts (by simp[y8,w6,cK])];simp[jA]
 |k+1,z::L,b,k1,k2,ω,h=>by
  obtain⟨j,aC,e⟩:=Uv (k1:=k1) (k2:=k2) (z::L) (ω.l.l []) (by simp);rw[iter,Uw e];simp only[if_true];rw[D4 k _ _ _ _ _ (by rw[List.length_eraseIdx_of_lt aC];simp only[List.length_cons]at h⊢;omega),zl (mN,qD) (z::L) j aC,Bool.or_assoc]
end
def sU(t:Tree)(L:Nat)(ρ af:List aa):Option (List Out):=if t.b Vo=true/\L=6 then(match ρ,af with
 |[_,_,_,_,_,_,_,_,_,_,_,_,_,_,_,_,_,_,_,_,_,_,_,_,_,_,_,.agg [.int .i64 mN,.bool qD],_],[.bool b,.agg (k1::k2::cs)]=>match kn cs with
  |some L=>if L.length<4096 then some [.jump 5 [.bool (b||jA (mN,qD) L)]]else none
  |none=>none
 |_,_=>none)else none
theorem Se{C:b2->FuncId->List aa->Option aa}(t:Tree)(L:Nat)(ρ af:List aa)(os:List Out)(h:sU t L ρ af=some os)(ω:b2):∃o,iter (λω af=>eval Tryz.prog C 4096 t ω (ρ++af)) L 4096 ω af=some o/\o∈os:=by
 unfold sU at h;split at h
 ·rename_i ah;obtain⟨U,rfl⟩:=ah;obtain rfl:=Tree.dh U;split at h
  ·split at h
   ·rename_i L dg;split at h
    ·rename_i aU;injection h with h;subst h;obtain rfl:=CZ dg;exact⟨_,D4 4096 L _ _ _ ω aU,by simp⟩
    ·cases h
   ·cases h
  ·cases h
 ·cases h
end
section
open Go Go.RowKit
abbrev eP:aa:=.agg gR
def b3(g:FuncId)(a:List aa)(v:aa):Prop:=∀ω,ib 19 ω g a=some v
def dp(g:FuncId)(a:List aa)(v:aa):Prop:=∀ω,ib 18 ω g a=some v
theorem Ji:dp 56 [eP,.bC,(.sl none 5 0 2 [(.sl none 1 0 2 [ax 6,ax 7]),ax 0,ax 0,ax 0,(.bool false),(.sl none 1 0 1 [ax 6]),ax 0,ax 0,ax 0,(.bool false)])] (.bD [eP,ax 0])/\dp 57 [eP,ax 0,(.agg [(.sl none 1 0 2 [ax 6,ax 7]),ax 0,ax 0,ax 0,(.bool false)])] (.sl none 2 0 6 [ax 0,(.bool false),ax 1,(.bool false),ax 2,(.bool false),ax 3,(.bool false),ax 4,(.bool false),ax 5,(.bool false)])/\True:=⟨λω=>by kernel_rfl,λω=>by kernel_rfl,trivial⟩
theorem Jj:dp 57 [eP,ax 0,(.agg [(.sl none 1 0 1 [ax 6]),ax 0,ax 0,ax 0,(.bool false)])] (.sl none 2 0 7 [ax 0,(.bool false),ax 1,(.bool false),ax 2,(.bool false),ax 3,(.bool false),ax 4,(.bool false),ax 5,(.bool false),ax 6,(.bool false)])/\dp 57 [eP,ax 1,(.agg [(.sl none 1 0 2 [ax 6,ax 7]),ax 0,ax 0,ax 0,(.bool false)])] (.sl none 2 0 2 [ax 0,(.bool false),ax 2,(.bool false)])/\True:=⟨λω=>by kernel_rfl,λω=>by kernel_rfl,trivial⟩
theorem Jk:dp 57 [eP,ax 1,(.agg [(.sl none 1 0 1 [ax 6]),ax 0,ax 0,ax 0,(.bool false)])] (.sl none 2 0 3 [ax 0,(.bool false),ax 2,(.bool false),ax 4,(.bool false)])/\dp 57 [eP,ax 2,(.agg [(.sl none 1 0 2 [ax 6,ax 7]),ax 0,ax 0,ax 0,(.bool false)])] (.sl none 2 0 2 [ax 0,(.bool false),ax 3,(.bool false)])/\True:=⟨λω=>by kernel_rfl,λω=>by kernel_rfl,trivial⟩
theorem Jl:dp 57 [eP,ax 2,(.agg [(.sl none 1 0 1 [ax 6]),ax 0,ax 0,ax 0,(.bool false)])] (.sl none 2 0 4 [ax 0,(.bool false),ax 1,(.bool false),ax 3,(.bool false),ax 4,(.bool false)])/\dp 56 [eP,.bC,(.sl none 5 0 2 [(.sl none 1 0 2 [ax 6,ax 7]),ax 0,ax 0,ax 0,(.bool false),(.sl none 1 0 1 [ax 8]),ax 0,ax 0,ax 0,(.bool false)])] (.bD [eP,ax 0])/\True:=⟨λω=>by kernel_rfl,λω=>by kernel_rfl,trivial⟩
theorem Jm:dp 57 [eP,ax 0,(.agg [(.sl none 1 0 1 [ax 8]),ax 0,ax 0,ax 0,(.bool false)])] .bC/\dp 57 [eP,ax 1,(.agg [(.sl none 1 0 1 [ax 8]),ax 0,ax 0,ax 0,(.bool false)])] (.sl none 2 0 2 [ax 1,(.bool false),ax 3,(.bool false)])/\True:=⟨λω=>by kernel_rfl,λω=>by kernel_rfl,trivial⟩
theorem JM:dp 57 [eP,ax 2,(.agg [(.sl none 1 0 1 [ax 8]),ax 0,ax 0,ax 0,(.bool false)])] (.sl none 2 0 4 [ax 1,(.bool false),ax 2,(.bool false),ax 4,(.bool false),ax 5,(.bool false)])/\dp 56 [eP,.bC,(.sl none 5 0 2 [(.sl none 1 0 2 [ax 6,ax 7]),ax 0,ax 0,ax 31,(.bool false),(.sl none 1 0 1 [ax 8]),ax 0,ax 0,ax 31,(.bool false)])] (.bD [eP,ax 0])/\True:=⟨λω=>by kernel_rfl,λω=>by kernel_rfl,trivial⟩
theorem JN:dp 57 [eP,ax 0,(.agg [(.sl none 1 0 1 [ax 8]),ax 0,ax 0,ax 31,(.bool false)])] .bC/\dp 57 [eP,ax 0,(.agg [(.sl none 1 0 2 [ax 6,ax 7]),ax 0,ax 0,ax 31,(.bool false)])] (.sl none 2 0 6 [ax 0,(.bool false),ax 1,(.bool false),ax 2,(.bool false),ax 3,(.bool false),ax 4,(.bool false),ax 5,(.bool false)])/\True:=⟨λω=>by kernel_rfl,λω=>by kernel_rfl,trivial⟩
theorem JO:dp 57 [eP,ax 1,(.agg [(.sl none 1 0 1 [ax 8]),ax 0,ax 0,ax 31,(.bool false)])] (.sl none 2 0 2 [ax 1,(.bool false),ax 3,(.bool false)])/\dp 57 [eP,ax 1,(.agg [(.sl none 1 0 2 [ax 6,ax 7]),ax 0,ax 0,ax 31,(.bool false)])] (.sl none 2 0 2 [ax 0,(.bool false),ax 2,(.bool false)])/\True:=⟨λω=>by kernel_rfl,λω=>by kernel_rfl,trivial⟩
theorem J1:dp 57 [eP,ax 2,(.agg [(.sl none 1 0 1 [ax 8]),ax 0,ax 0,ax 31,(.bool false)])] .bC/\dp 57 [eP,ax 2,(.agg [(.sl none 1 0 2 [ax 6,ax 7]),ax 0,ax 0,ax 31,(.bool false)])] .bC/\True:=⟨λω=>by kernel_rfl,λω=>by kernel_rfl,trivial⟩
def uM:List (FuncId×List aa×aa):=[(56,[eP,.bC,(.sl none 5 0 2 [(.sl none 1 0 2 [ax 6,ax 7]),ax 0,ax 0,ax 0,(.bool false),(.sl none 1 0 1 [ax 6]),ax 0,ax 0,ax 0,(.bool false)])],(.bD [eP,ax 0])),
 (57,[eP,ax 0,(.agg [(.sl none 1 0 2 [ax 6,ax 7]),ax 0,ax 0,ax 0,(.bool false)])],(.sl none 2 0 6 [ax 0,(.bool false),ax 1,(.bool false),ax 2,(.bool false),ax 3,(.bool false),ax 4,(.bool false),ax 5,(.bool false)])),
 (57,[eP,ax 0,(.agg [(.sl none 1 0 1 [ax 6]),ax 0,ax 0,ax 0,(.bool false)])],(.sl none 2 0 7 [ax 0,(.bool false),ax 1,(.bool false),ax 2,(.bool false),ax 3,(.bool false),ax 4,(.bool false),ax 5,(.bool false),ax 6,(.bool false)])),
 (57,[eP,ax 1,(.agg [(.sl none 1 0 2 [ax 6,ax 7]),ax 0,ax 0,ax 0,(.bool false)])],(.sl none 2 0 2 [ax 0,(.bool false),ax 2,(.bool false)])),
 (57,[eP,ax 1,(.agg [(.sl none 1 0 1 [ax 6]),ax 0,ax 0,ax 0,(.bool false)])],(.sl none 2 0 3 [ax 0,(.bool false),ax 2,(.bool false),ax 4,(.bool false)])),
 (57,[eP,ax 2,(.agg [(.sl none 1 0 2 [ax 6,ax 7]),ax 0,ax 0,ax 0,(.bool false)])],(.sl none 2 0 2 [ax 0,(.bool false),ax 3,(.bool false)])),
 (57,[eP,ax 2,(.agg [(.sl none 1 0 1 [ax 6]),ax 0,ax 0,ax 0,(.bool false)])],(.sl none 2 0 4 [ax 0,(.bool false),ax 1,(.bool false),ax 3,(.bool false),ax 4,(.bool false)])),
 (56,[eP,.bC,(.sl none 5 0 2 [(.sl none 1 0 2 [ax 6,ax 7]),ax 0,ax 0,ax 0,(.bool false),(.sl none 1 0 1 [ax 8]),ax 0,ax 0,ax 0,(.bool false)])],(.bD [eP,ax 0])),
 (57,[eP,ax 0,(.agg [(.sl none 1 0 1 [ax 8]),ax 0,ax 0,ax 0,(.bool false)])],.bC),
 (57,[eP,ax 1,(.agg [(.sl none 1 0 1 [ax 8]),ax 0,ax 0,ax 0,(.bool false)])],(.sl none 2 0 2 [ax 1,(.bool false),ax 3,(.bool false)])),
 (57,[eP,ax 2,(.agg [(.sl none 1 0 1 [ax 8]),ax 0,ax 0,ax 0,(.bool false)])],(.sl none 2 0 4 [ax 1,(.bool false),ax 2,(.bool false),ax 4,(.bool false),ax 5,(.bool false)])),
 (56,[eP,.bC,(.sl none 5 0 2 [(.sl none 1 0 2 [ax 6,ax 7]),ax 0,ax 0,ax 31,(.bool false),(.sl none 1 0 1 [ax 8]),ax 0,ax 0,ax 31,(.bool false)])],(.bD [eP,ax 0])),
 (57,[eP,ax 0,(.agg [(.sl none 1 0 1 [ax 8]),ax 0,ax 0,ax 31,(.bool false)])],.bC),
 (57,[eP,ax 0,(.agg [(.sl none 1 0 2 [ax 6,ax 7]),ax 0,ax 0,ax 31,(.bool false)])],(.sl none 2 0 6 [ax 0,(.bool false),ax 1,(.bool false),ax 2,(.bool false),ax 3,(.bool false),ax 4,(.bool false),ax 5,(.bool false)])),
 (57,[eP,ax 1,(.agg [(.sl none 1 0 1 [ax 8]),ax 0,ax 0,ax 31,(.bool false)])],(.sl none 2 0 2 [ax 1,(.bool false),ax 3,(.bool false)])),
 (57,[eP,ax 1,(.agg [(.sl none 1 0 2 [ax 6,ax 7]),ax 0,ax 0,ax 31,(.bool false)])],(.sl none 2 0 2 [ax 0,(.bool false),ax 2,(.bool false)])),
 (57,[eP,ax 2,(.agg [(.sl none 1 0 1 [ax 8]),ax 0,ax 0,ax 31,(.bool false)])],.bC),
 (57,[eP,ax 2,(.agg [(.sl none 1 0 2 [ax 6,ax 7]),ax 0,ax 0,ax 31,(.bool false)])],.bC)]
theorem S9:∀x∈uM,dp x.1 x.2.1 x.2.2:=by
 simp only[uM,List.forall_mem_cons];exact⟨Ji.1,Ji.2.1,Jj.1,Jj.2.1,Jk.1,Jk.2.1,Jl.1,Jl.2.1,Jm.1,Jm.2.1,JM.1,JM.2.1,JN.1,JN.2.1,JO.1,JO.2.1,J1.1,J1.2.1,λ_ h=>by cases h⟩
def sM(g:FuncId)(a:List aa):Option aa:=(uM.find? λx=>decide (x.1=g)&&gn x.2.1 a).map λx=>x.2.2
theorem Rz(g:FuncId)(a:List aa)(v:aa)(h:sM g a=some v)(ω:b2):ib 18 ω g a=some v:=by
 unfold sM at h;obtain⟨x,aj,rfl⟩:=Option.map_eq_some_iff.1 h;have U:=List.find?_some aj;simp only[Bool.and_eq_true,decide_eq_true_eq]at U;have ab:=S9 x (List.mem_of_find?_eq_some aj) ω;rw[U.1,hV U.2]at ab;exact ab
def Xn(v:aa):Out->Bool
 |.val u=>dr u v
 |_=>false
theorem td{g:FuncId}{a:List aa}{v:aa}{t:Tree}{fn:Func}(a1:cA g=some t)(aQ:Tryz.prog.funcs[g]?=some fn)(gN:dd (flagsOf 23 fn) a=true)(ae:v.plain=true)(h:(outs Tryz.prog sU sM 4096 t a).any (λos=>os.all (Xn v))=true):b3 g a v:=by
 intro ω;obtain⟨os,tp,lh⟩:=(Option.any_eq_true _ _).1 h;obtain⟨o,U,hm⟩:=gK (C':=ib 18) Se Rz t a os tp ω;have ab:=List.all_eq_true.1 lh o hm;cases o with
 |jump L l=>cases ab
 |val u=>
  have:=m9 (show dr u v=true from ab);subst this;exact BQ a1 aQ gN U ae
theorem D3:cA 14=some t14:=by kernel_rfl
theorem Uu:cA 37=some t37:=by kernel_rfl
theorem Ki:b3 15 [eP,(.agg [(.sl none 1 0 2 [ax 6,ax 6]),ax 0,ax 0,ax 0,(.bool false)])] (.bD [(.sl none 1 0 2 [ax 0,ax 2]),ax 0])/\b3 15 [eP,(.agg [(.sl none 1 0 1 [ax 8]),ax 0,ax 0,ax 31,(.bool false)])] (.bD [(.sl none 1 0 1 [ax 1]),ax 0])/\True:=⟨λω=>by kernel_rfl,λω=>by kernel_rfl,trivial⟩
theorem Kk:b3 16 [(.sl none 1 0 7 [ax 0,ax 5,ax 12,ax 21,ax 26,ax 33,ax 42]),(.sl none 1 0 7 [ax 0,ax 5,ax 12,ax 21,ax 26,ax 33,ax 42])] (.bool true)/\b3 16 [(.sl none 1 0 2 [ax 0,ax 2]),(.sl none 1 0 2 [ax 0,ax 2])] (.bool true)/\True:=⟨λω=>by kernel_rfl,λω=>by kernel_rfl,trivial⟩
theorem Kl:b3 16 [(.sl none 1 0 1 [ax 1]),(.sl none 1 0 1 [ax 1])] (.bool true)/\b3 16 [(.sl none 1 0 2 [ax (-1),ax 1]),(.sl none 1 0 2 [ax (-1),ax 1])] (.bool true)/\True:=⟨λω=>by kernel_rfl,λω=>by kernel_rfl,trivial⟩
theorem Km:b3 16 [(.sl none 1 0 3 [ax 0,ax 1,ax 2]),(.sl none 1 0 3 [ax 0,ax 1,ax 2])] (.bool true)/\b3 16 [(.sl none 1 0 1 [ax 2]),(.sl none 1 0 1 [ax 2])] (.bool true)/\True:=⟨λω=>by kernel_rfl,λω=>by kernel_rfl,trivial⟩
theorem Kn:b3 16 [(.sl none 1 0 2 [ax 0,ax 1]),(.sl none 1 0 2 [ax 0,ax 1])] (.bool true)/\b3 16 [(.sl none 1 0 1 [ax 0]),(.sl none 1 0 1 [ax 0])] (.bool true)/\True:=⟨λω=>by kernel_rfl,λω=>by kernel_rfl,trivial⟩
theorem Ko:b3 18 [eP,ax 0,(.agg [(.sl none 1 0 2 [ax 6,ax 7]),ax 0,ax 0,ax 0,(.bool false)])] (.bD [(.sl none 2 0 6 [ax 0,(.bool false),ax 1,(.bool false),ax 2,(.bool false),ax 3,(.bool false),ax 4,(.bool false),ax 5,(.bool false)]),ax 0])/\b3 18 [eP,ax 1,(.agg [(.sl none 1 0 2 [ax 6,ax 7]),ax 0,ax 0,ax 0,(.bool false)])] (.bD [(.sl none 2 0 2 [ax 0,(.bool false),ax 2,(.bool false)]),ax 0])/\True:=⟨λω=>by kernel_rfl,λω=>by kernel_rfl,trivial⟩
theorem KL:b3 18 [eP,ax 2,(.agg [(.sl none 1 0 2 [ax 6,ax 7]),ax 0,ax 0,ax 0,(.bool false)])] (.bD [(.sl none 2 0 2 [ax 0,(.bool false),ax 3,(.bool false)]),ax 0])/\b3 18 [eP,ax 1,(.agg [(.sl none 1 0 1 [ax 8]),ax 0,ax 0,ax 0,(.bool false)])] (.bD [(.sl none 2 0 2 [ax 1,(.bool false),ax 3,(.bool false)]),ax 0])/\True:=⟨λω=>by kernel_rfl,λω=>by kernel_rfl,trivial⟩
theorem Lk:b3 18 [eP,ax 2,(.agg [(.sl none 1 0 1 [ax 8]),ax 0,ax 0,ax 0,(.bool false)])] (.bD [(.sl none 2 0 4 [ax 1,(.bool false),ax 2,(.bool false),ax 4,(.bool false),ax 5,(.bool false)]),ax 0])/\b3 18 [eP,ax 2,(.agg [(.sl none 1 0 2 [ax 9,ax 6]),ax 0,ax 0,ax 0,(.bool false)])] (.bD [(.sl none 2 0 1 [ax 2,(.bool false)]),ax 0])/\True:=⟨λω=>by kernel_rfl,λω=>by kernel_rfl,trivial⟩
theorem Ll:b3 18 [eP,ax 0,(.agg [(.sl none 1 0 1 [ax 6]),ax 7,ax 0,ax 0,(.bool false)])] (.bD [(.sl none 2 0 1 [ax 0,(.bool false)]),ax 0])/\b3 18 [eP,ax 1,(.agg [(.sl none 1 0 1 [ax 6]),ax 0,ax 9,ax 0,(.bool false)])] (.bD [(.sl none 2 0 1 [ax 4,(.bool false)]),ax 0])/\True:=⟨λω=>by kernel_rfl,λω=>by kernel_rfl,trivial⟩
theorem L3:b3 20 [] (.bool true)/\b3 27 [eP,ax 1,(.agg [(.sl none 1 0 1 [ax 8]),ax 0,ax 0,ax 31,(.bool false)])] (.bD [ax 1,ax 0])/\True:=⟨λω=>by kernel_rfl,λω=>by kernel_rfl,trivial⟩
theorem Fu:b3 27 [eP,ax 0,(.agg [(.sl none 1 0 2 [ax 6,ax 6]),ax 0,ax 0,ax 0,(.bool false)])] (.bD [ax 3,ax 0])/\b3 27 [eP,ax 1,(.agg [(.sl none 1 0 2 [ax 6,ax 6]),ax 0,ax 0,ax 0,(.bool false)])] (.bD [ax 2,ax 0])/\True:=⟨λω=>by kernel_rfl,λω=>by kernel_rfl,trivial⟩
theorem Fv:b3 32 [eP,(.sl none 5 0 3 [(.sl none 1 0 2 [ax 6,ax 6]),ax 0,ax 0,ax 0,(.bool false),(.sl none 1 0 1 [ax 8]),ax 0,ax 0,ax 0,(.bool false),(.sl none 1 0 2 [ax 6,ax 9]),ax 0,ax 0,ax 0,(.bool false)])] (.bD [(.sl none 1 0 1 [ax 2]),ax 0])/\b3 32 [eP,(.sl none 5 0 2 [(.sl none 1 0 2 [ax 6,ax 6]),ax 0,ax 0,ax 31,(.bool false),(.sl none 1 0 1 [ax 8]),ax 0,ax 0,ax 31,(.bool false)])] (.bD [(.sl none 1 0 2 [ax 0,ax 1]),ax 0])/\True:=⟨λω=>by kernel_rfl,λω=>by kernel_rfl,trivial⟩
theorem Fw:b3 32 [eP,(.sl none 5 0 1 [(.sl none 1 0 1 [ax 20]),ax 0,ax 0,ax 0,(.bool false)])] (.bD [.bC,ax 11])/\b3 35 [eP,(.agg [(.sl none 1 0 2 [ax 6,ax 7]),ax 0,ax 0,ax 31,(.bool false)]),(.agg [(.sl none 1 0 1 [ax 8]),ax 0,ax 0,ax 31,(.bool false)])] (.bD [(.agg [ax 0,ax 0]),ax 0])/\True:=⟨λω=>by kernel_rfl,λω=>by kernel_rfl,trivial⟩
theorem Fx:b3 35 [eP,(.agg [(.sl none 1 0 1 [ax 6]),ax 0,ax 8,ax 0,(.bool false)]),(.agg [(.sl none 1 0 1 [ax 8]),ax 0,ax 0,ax 0,(.bool false)])] (.bD [(.agg [ax 1,ax 2]),ax 0])/\b3 35 [eP,(.agg [(.sl none 1 0 2 [ax 6,ax 7]),ax 0,ax 0,ax 31,(.bool false)]),(.agg [(.sl none 1 0 1 [ax 20]),ax 0,ax 0,ax 31,(.bool false)])] (.bD [(.agg [ax 0,ax 0]),ax 11])/\True:=⟨λω=>by kernel_rfl,λω=>by kernel_rfl,trivial⟩
theorem Fy:b3 40 [] eP/\b3 41 [eP] (ax 0)/\True:=⟨λω=>by kernel_rfl,λω=>by kernel_rfl,trivial⟩
theorem FK:b3 41 [(.agg [ax 4,(.sl none 3 0 3 [(.sl none 1 0 1 [ax 6]),ax 8,ax 30,(.sl none 1 0 2 [ax 6,ax 8]),ax 6,ax 30,(.sl none 1 0 3 [ax 5,ax 7,ax 9]),ax 7,ax 40])])] (ax 1)/\b3 41 [(.agg [ax 1,.bC])] (ax 7)/\True:=⟨λω=>by kernel_rfl,λω=>by kernel_rfl,trivial⟩
theorem FL:b3 41 [(.agg [ax 1,(.sl none 3 0 3 [(.sl none 1 0 1 [ax 6]),ax 8,ax 30,(.sl none 1 0 2 [ax 6,ax 1]),ax 6,ax 30,(.sl none 1 0 3 [ax 5,ax 7,ax 9]),ax 7,ax 40])])] (ax 1)/\b3 41 [(.agg [ax 1,(.sl none 3 0 3 [(.sl none 1 0 1 [ax 6]),ax 1,ax 30,(.sl none 1 0 2 [ax 6,ax 8]),ax 6,ax 30,(.sl none 1 0 3 [ax 5,ax 7,ax 9]),ax 7,ax 40])])] (ax 1)/\True:=⟨λω=>by kernel_rfl,λω=>by kernel_rfl,trivial⟩
theorem F4:b3 42 [eP,ax 2] (.bD [(.sl none 1 0 7 [ax 0,ax 5,ax 12,ax 21,ax 26,ax 33,ax 42]),ax 0])/\b3 43 [(.sl none 1 0 2 [ax 6,ax 7])] (.agg [(.sl none 1 0 2 [ax 6,ax 7]),ax 0,ax 0,ax 0,(.bool false)])/\True:=⟨λω=>by kernel_rfl,λω=>by kernel_rfl,trivial⟩
theorem Gr:b3 43 [(.sl none 1 0 1 [ax 8])] (.agg [(.sl none 1 0 1 [ax 8]),ax 0,ax 0,ax 0,(.bool false)])/\b3 43 [(.sl none 1 0 2 [ax 9,ax 6])] (.agg [(.sl none 1 0 2 [ax 9,ax 6]),ax 0,ax 0,ax 0,(.bool false)])/\True:=⟨λω=>by kernel_rfl,λω=>by kernel_rfl,trivial⟩
theorem GC:b3 43 [(.sl none 1 0 2 [ax 6,ax 6])] (.agg [(.sl none 1 0 2 [ax 6,ax 6]),ax 0,ax 0,ax 0,(.bool false)])/\b3 43 [(.sl none 1 0 1 [ax 6])] (.agg [(.sl none 1 0 1 [ax 6]),ax 0,ax 0,ax 0,(.bool false)])/\True:=⟨λω=>by kernel_rfl,λω=>by kernel_rfl,trivial⟩
theorem GD:b3 43 [(.sl none 1 0 2 [ax 6,ax 9])] (.agg [(.sl none 1 0 2 [ax 6,ax 9]),ax 0,ax 0,ax 0,(.bool false)])/\b3 43 [(.sl none 1 0 1 [ax 20])] (.agg [(.sl none 1 0 1 [ax 20]),ax 0,ax 0,ax 0,(.bool false)])/\True:=⟨λω=>by kernel_rfl,λω=>by kernel_rfl,trivial⟩
theorem GF:b3 43 [(.sl none 1 0 2 [ax 12,ax 12])] (.agg [(.sl none 1 0 2 [ax 12,ax 12]),ax 0,ax 0,ax 0,(.bool false)])/\b3 43 [(.sl none 1 0 1 [ax 10])] (.agg [(.sl none 1 0 1 [ax 10]),ax 0,ax 0,ax 0,(.bool false)])/\True:=⟨λω=>by kernel_rfl,λω=>by kernel_rfl,trivial⟩
theorem GG:b3 44 [(.sl none 1 0 6 [ax 0,ax 1,ax 2,ax 3,ax 4,ax 5])] (.sl none 2 0 6 [ax 0,(.bool false),ax 1,(.bool false),ax 2,(.bool false),ax 3,(.bool false),ax 4,(.bool false),ax 5,(.bool false)])/\b3 44 [(.sl none 1 0 2 [ax 0,ax 2])] (.sl none 2 0 2 [ax 0,(.bool false),ax 2,(.bool false)])/\True:=⟨λω=>by kernel_rfl,λω=>by kernel_rfl,trivial⟩
theorem GO:b3 44 [(.sl none 1 0 2 [ax 0,ax 3])] (.sl none 2 0 2 [ax 0,(.bool false),ax 3,(.bool false)])/\b3 44 [(.sl none 1 0 2 [ax 1,ax 3])] (.sl none 2 0 2 [ax 1,(.bool false),ax 3,(.bool false)])/\True:=⟨λω=>by kernel_rfl,λω=>by kernel_rfl,trivial⟩
theorem GR:b3 44 [(.sl none 1 0 4 [ax 1,ax 2,ax 4,ax 5])] (.sl none 2 0 4 [ax 1,(.bool false),ax 2,(.bool false),ax 4,(.bool false),ax 5,(.bool false)])/\b3 44 [(.sl none 1 0 1 [ax 2])] (.sl none 2 0 1 [ax 2,(.bool false)])/\True:=⟨λω=>by kernel_rfl,λω=>by kernel_rfl,trivial⟩
theorem GX:b3 44 [(.sl none 1 0 1 [ax 0])] (.sl none 2 0 1 [ax 0,(.bool false)])/\b3 44 [(.sl none 1 0 1 [ax 4])] (.sl none 2 0 1 [ax 4,(.bool false)])/\True:=⟨λω=>by kernel_rfl,λω=>by kernel_rfl,trivial⟩
theorem Hi:b3 45 [(.sl none 2 0 6 [ax 0,(.bool false),ax 1,(.bool false),ax 2,(.bool false),ax 3,(.bool false),ax 4,(.bool false),ax 5,(.bool false)]),(.sl none 2 0 6 [ax 0,(.bool false),ax 1,(.bool false),ax 2,(.bool false),ax 3,(.bool false),ax 4,(.bool false),ax 5,(.bool false)])] (.bool true)/\b3 45 [(.sl none 2 0 2 [ax 0,(.bool false),ax 2,(.bool false)]),(.sl none 2 0 2 [ax 0,(.bool false),ax 2,(.bool false)])] (.bool true)/\True:=⟨λω=>by kernel_rfl,λω=>by kernel_rfl,trivial⟩
theorem HE:b3 45 [(.sl none 2 0 2 [ax 0,(.bool false),ax 3,(.bool false)]),(.sl none 2 0 2 [ax 0,(.bool false),ax 3,(.bool false)])] (.bool true)/\b3 45 [(.sl none 2 0 2 [ax 1,(.bool false),ax 3,(.bool false)]),(.sl none 2 0 2 [ax 1,(.bool false),ax 3,(.bool false)])] (.bool true)/\True:=⟨λω=>by kernel_rfl,λω=>by kernel_rfl,trivial⟩
theorem HW:b3 45 [(.sl none 2 0 4 [ax 1,(.bool false),ax 2,(.bool false),ax 4,(.bool false),ax 5,(.bool false)]),(.sl none 2 0 4 [ax 1,(.bool false),ax 2,(.bool false),ax 4,(.bool false),ax 5,(.bool false)])] (.bool true)/\b3 45 [(.sl none 2 0 1 [ax 2,(.bool false)]),(.sl none 2 0 1 [ax 2,(.bool false)])] (.bool true)/\True:=⟨λω=>by kernel_rfl,λω=>by kernel_rfl,trivial⟩
theorem Ig:b3 45 [(.sl none 2 0 1 [ax 0,(.bool false)]),(.sl none 2 0 1 [ax 0,(.bool false)])] (.bool true)/\b3 45 [(.sl none 2 0 1 [ax 4,(.bool false)]),(.sl none 2 0 1 [ax 4,(.bool false)])] (.bool true)/\True:=⟨λω=>by kernel_rfl,λω=>by kernel_rfl,trivial⟩
theorem Ih:b3 46 [ax 31,(.sl none 1 0 1 [ax 8])] (.agg [(.sl none 1 0 1 [ax 8]),ax 0,ax 0,ax 31,(.bool false)])/\b3 46 [ax 31,(.sl none 1 0 2 [ax 6,ax 7])] (.agg [(.sl none 1 0 2 [ax 6,ax 7]),ax 0,ax 0,ax 31,(.bool false)])/\True:=⟨λω=>by kernel_rfl,λω=>by kernel_rfl,trivial⟩
theorem Ij:b3 46 [ax 31,(.sl none 1 0 1 [ax 20])] (.agg [(.sl none 1 0 1 [ax 20]),ax 0,ax 0,ax 31,(.bool false)])/\b3 46 [ax 31,(.sl none 1 0 2 [ax 6,ax 6])] (.agg [(.sl none 1 0 2 [ax 6,ax 6]),ax 0,ax 0,ax 31,(.bool false)])/\True:=⟨λω=>by kernel_rfl,λω=>by kernel_rfl,trivial⟩
theorem Ik:b3 46 [ax 60,(.sl none 1 0 1 [ax 6])] (.agg [(.sl none 1 0 1 [ax 6]),ax 0,ax 0,ax 60,(.bool false)])/\b3 47 [eP,ax 1,(.agg [(.sl none 1 0 2 [ax 12,ax 12]),ax 0,ax 0,ax 0,(.bool false)])] (.bD [(.sl none 1 0 2 [ax 0,ax 1]),ax 0])/\True:=⟨λω=>by kernel_rfl,λω=>by kernel_rfl,trivial⟩
theorem II:b3 47 [eP,ax 0,(.agg [(.sl none 1 0 1 [ax 6]),ax 0,ax 0,ax 60,(.bool false)])] (.bD [.bC,ax 11])/\b3 48 [eP,ax 1,(.agg [(.sl none 1 0 2 [ax 6,ax 6]),ax 0,ax 0,ax 0,(.bool false)])] (.bD [ax 2,ax 0])/\True:=⟨λω=>by kernel_rfl,λω=>by kernel_rfl,trivial⟩
theorem IJ:b3 48 [eP,ax 0,(.agg [(.sl none 1 0 2 [ax 6,ax 7]),ax 0,ax 0,ax 0,(.bool false)])] (.bD [ax 1,ax 0])/\b3 48 [eP,ax 0,(.agg [(.sl none 1 0 1 [ax 10]),ax 0,ax 0,ax 0,(.bool false)])] (.bD [ax 0,ax 11])/\True:=⟨λω=>by kernel_rfl,λω=>by kernel_rfl,trivial⟩
theorem IK:b3 49 [eP,ax 1,(.sl none 1 0 7 [ax 0,ax 6,ax 14,ax 15,ax 20,ax 28,ax 34])] (.bD [(.sl none 1 0 1 [ax 0]),ax 0])/\b3 50 [eP,ax 1,ax 0] (.bD [ax 1,ax 1,ax 0])/\True:=⟨λω=>by kernel_rfl,λω=>by kernel_rfl,trivial⟩
theorem IN:b3 50 [eP,ax 0,ax 2] (.bD [ax 3,ax 0,ax 0])/\b3 50 [eP,ax 0,ax 0] (.bD [ax 0,ax 0,ax 11])/\True:=⟨λω=>by kernel_rfl,λω=>by kernel_rfl,trivial⟩
theorem Xu:b3 37 [eP,(.agg [(.sl none 1 0 2 [ax 6,ax 7]),ax 0,ax 0,ax 31,(.bool false)]),(.agg [(.sl none 1 0 1 [ax 8]),ax 0,ax 0,ax 31,(.bool false)])] (.bD [(.sl none 1 0 2 [ax (-1),ax 1]),ax 0]):=td (fn:=Tryz.f37) Uu (by kernel_rfl) (by kernel_rfl) (by kernel_rfl) (by kernel_rfl)
theorem XJ:b3 14 [eP,(.agg [(.sl none 1 0 2 [ax 6,ax 7]),ax 0,ax 0,ax 0,(.bool false)]),(.agg [(.sl none 1 0 1 [ax 6]),ax 0,ax 0,ax 0,(.bool false)])] (.bD [(.sl none 1 0 3 [ax 0,ax 1,ax 2]),ax 0]):=td (fn:=Tryz.f14) D3 (by kernel_rfl) (by kernel_rfl) (by kernel_rfl) (by kernel_rfl)
theorem XK:b3 14 [eP,(.agg [(.sl none 1 0 2 [ax 6,ax 7]),ax 0,ax 0,ax 0,(.bool false)]),(.agg [(.sl none 1 0 1 [ax 8]),ax 0,ax 0,ax 0,(.bool false)])] (.bD [.bC,ax 0]):=td (fn:=Tryz.f14) D3 (by kernel_rfl) (by kernel_rfl) (by kernel_rfl) (by kernel_rfl)
def vN:List (FuncId×List aa×aa):=[(15,[eP,(.agg [(.sl none 1 0 2 [ax 6,ax 6]),ax 0,ax 0,ax 0,(.bool false)])],(.bD [(.sl none 1 0 2 [ax 0,ax 2]),ax 0])),
 (15,[eP,(.agg [(.sl none 1 0 1 [ax 8]),ax 0,ax 0,ax 31,(.bool false)])],(.bD [(.sl none 1 0 1 [ax 1]),ax 0])),
 (16,[(.sl none 1 0 7 [ax 0,ax 5,ax 12,ax 21,ax 26,ax 33,ax 42]),(.sl none 1 0 7 [ax 0,ax 5,ax 12,ax 21,ax 26,ax 33,ax 42])],(.bool true)),
 (16,[(.sl none 1 0 2 [ax 0,ax 2]),(.sl none 1 0 2 [ax 0,ax 2])],(.bool true)),
 (16,[(.sl none 1 0 1 [ax 1]),(.sl none 1 0 1 [ax 1])],(.bool true)),
 (16,[(.sl none 1 0 2 [ax (-1),ax 1]),(.sl none 1 0 2 [ax (-1),ax 1])],(.bool true)),
 (16,[(.sl none 1 0 3 [ax 0,ax 1,ax 2]),(.sl none 1 0 3 [ax 0,ax 1,ax 2])],(.bool true)),
 (16,[(.sl none 1 0 1 [ax 2]),(.sl none 1 0 1 [ax 2])],(.bool true)),
 (16,[(.sl none 1 0 2 [ax 0,ax 1]),(.sl none 1 0 2 [ax 0,ax 1])],(.bool true)),
 (16,[(.sl none 1 0 1 [ax 0]),(.sl none 1 0 1 [ax 0])],(.bool true)),
 (18,[eP,ax 0,(.agg [(.sl none 1 0 2 [ax 6,ax 7]),ax 0,ax 0,ax 0,(.bool false)])],(.bD [(.sl none 2 0 6 [ax 0,(.bool false),ax 1,(.bool false),ax 2,(.bool false),ax 3,(.bool false),ax 4,(.bool false),ax 5,(.bool false)]),ax 0])),
 (18,[eP,ax 1,(.agg [(.sl none 1 0 2 [ax 6,ax 7]),ax 0,ax 0,ax 0,(.bool false)])],(.bD [(.sl none 2 0 2 [ax 0,(.bool false),ax 2,(.bool false)]),ax 0])),
 (18,[eP,ax 2,(.agg [(.sl none 1 0 2 [ax 6,ax 7]),ax 0,ax 0,ax 0,(.bool false)])],(.bD [(.sl none 2 0 2 [ax 0,(.bool false),ax 3,(.bool false)]),ax 0])),
 (18,[eP,ax 1,(.agg [(.sl none 1 0 1 [ax 8]),ax 0,ax 0,ax 0,(.bool false)])],(.bD [(.sl none 2 0 2 [ax 1,(.bool false),ax 3,(.bool false)]),ax 0])),
 (18,[eP,ax 2,(.agg [(.sl none 1 0 1 [ax 8]),ax 0,ax 0,ax 0,(.bool false)])],(.bD [(.sl none 2 0 4 [ax 1,(.bool false),ax 2,(.bool false),ax 4,(.bool false),ax 5,(.bool false)]),ax 0])),
 (18,[eP,ax 2,(.agg [(.sl none 1 0 2 [ax 9,ax 6]),ax 0,ax 0,ax 0,(.bool false)])],(.bD [(.sl none 2 0 1 [ax 2,(.bool false)]),ax 0])),
 (18,[eP,ax 0,(.agg [(.sl none 1 0 1 [ax 6]),ax 7,ax 0,ax 0,(.bool false)])],(.bD [(.sl none 2 0 1 [ax 0,(.bool false)]),ax 0])),
 (18,[eP,ax 1,(.agg [(.sl none 1 0 1 [ax 6]),ax 0,ax 9,ax 0,(.bool false)])],(.bD [(.sl none 2 0 1 [ax 4,(.bool false)]),ax 0])),
 (20,[],(.bool true)),
 (27,[eP,ax 1,(.agg [(.sl none 1 0 1 [ax 8]),ax 0,ax 0,ax 31,(.bool false)])],(.bD [ax 1,ax 0])),
 (27,[eP,ax 0,(.agg [(.sl none 1 0 2 [ax 6,ax 6]),ax 0,ax 0,ax 0,(.bool false)])],(.bD [ax 3,ax 0])),
 (27,[eP,ax 1,(.agg [(.sl none 1 0 2 [ax 6,ax 6]),ax 0,ax 0,ax 0,(.bool false)])],(.bD [ax 2,ax 0])),
 (32,[eP,(.sl none 5 0 3 [(.sl none 1 0 2 [ax 6,ax 6]),ax 0,ax 0,ax 0,(.bool false),(.sl none 1 0 1 [ax 8]),ax 0,ax 0,ax 0,(.bool false),(.sl none 1 0 2 [ax 6,ax 9]),ax 0,ax 0,ax 0,(.bool false)])],(.bD [(.sl none 1 0 1 [ax 2]),ax 0])),
 (32,[eP,(.sl none 5 0 2 [(.sl none 1 0 2 [ax 6,ax 6]),ax 0,ax 0,ax 31,(.bool false),(.sl none 1 0 1 [ax 8]),ax 0,ax 0,ax 31,(.bool false)])],(.bD [(.sl none 1 0 2 [ax 0,ax 1]),ax 0])),
 (32,[eP,(.sl none 5 0 1 [(.sl none 1 0 1 [ax 20]),ax 0,ax 0,ax 0,(.bool false)])],(.bD [.bC,ax 11])),
 (35,[eP,(.agg [(.sl none 1 0 2 [ax 6,ax 7]),ax 0,ax 0,ax 31,(.bool false)]),(.agg [(.sl none 1 0 1 [ax 8]),ax 0,ax 0,ax 31,(.bool false)])],(.bD [(.agg [ax 0,ax 0]),ax 0])),
 (35,[eP,(.agg [(.sl none 1 0 1 [ax 6]),ax 0,ax 8,ax 0,(.bool false)]),(.agg [(.sl none 1 0 1 [ax 8]),ax 0,ax 0,ax 0,(.bool false)])],(.bD [(.agg [ax 1,ax 2]),ax 0])),
 (35,[eP,(.agg [(.sl none 1 0 2 [ax 6,ax 7]),ax 0,ax 0,ax 31,(.bool false)]),(.agg [(.sl none 1 0 1 [ax 20]),ax 0,ax 0,ax 31,(.bool false)])],(.bD [(.agg [ax 0,ax 0]),ax 11])),
 (40,[],eP),
 (41,[eP],ax 0),
 (41,[(.agg [ax 4,(.sl none 3 0 3 [(.sl none 1 0 1 [ax 6]),ax 8,ax 30,(.sl none 1 0 2 [ax 6,ax 8]),ax 6,ax 30,(.sl none 1 0 3 [ax 5,ax 7,ax 9]),ax 7,ax 40])])],ax 1),
 (41,[(.agg [ax 1,.bC])],ax 7),
 (41,[(.agg [ax 1,(.sl none 3 0 3 [(.sl none 1 0 1 [ax 6]),ax 8,ax 30,(.sl none 1 0 2 [ax 6,ax 1]),ax 6,ax 30,(.sl none 1 0 3 [ax 5,ax 7,ax 9]),ax 7,ax 40])])],ax 1),
 (41,[(.agg [ax 1,(.sl none 3 0 3 [(.sl none 1 0 1 [ax 6]),ax 1,ax 30,(.sl none 1 0 2 [ax 6,ax 8]),ax 6,ax 30,(.sl none 1 0 3 [ax 5,ax 7,ax 9]),ax 7,ax 40])])],ax 1),
 (42,[eP,ax 2],(.bD [(.sl none 1 0 7 [ax 0,ax 5,ax 12,ax 21,ax 26,ax 33,ax 42]),ax 0])),
 (43,[(.sl none 1 0 2 [ax 6,ax 7])],(.agg [(.sl none 1 0 2 [ax 6,ax 7]),ax 0,ax 0,ax 0,(.bool false)])),
 (43,[(.sl none 1 0 1 [ax 8])],(.agg [(.sl none 1 0 1 [ax 8]),ax 0,ax 0,ax 0,(.bool false)])),
 (43,[(.sl none 1 0 2 [ax 9,ax 6])],(.agg [(.sl none 1 0 2 [ax 9,ax 6]),ax 0,ax 0,ax 0,(.bool false)])),
 (43,[(.sl none 1 0 2 [ax 6,ax 6])],(.agg [(.sl none 1 0 2 [ax 6,ax 6]),ax 0,ax 0,ax 0,(.bool false)])),
 (43,[(.sl none 1 0 1 [ax 6])],(.agg [(.sl none 1 0 1 [ax 6]),ax 0,ax 0,ax 0,(.bool false)])),
 (43,[(.sl none 1 0 2 [ax 6,ax 9])],(.agg [(.sl none 1 0 2 [ax 6,ax 9]),ax 0,ax 0,ax 0,(.bool false)])),
 (43,[(.sl none 1 0 1 [ax 20])],(.agg [(.sl none 1 0 1 [ax 20]),ax 0,ax 0,ax 0,(.bool false)])),
 (43,[(.sl none 1 0 2 [ax 12,ax 12])],(.agg [(.sl none 1 0 2 [ax 12,ax 12]),ax 0,ax 0,ax 0,(.bool false)])),
 (43,[(.sl none 1 0 1 [ax 10])],(.agg [(.sl none 1 0 1 [ax 10]),ax 0,ax 0,ax 0,(.bool false)])),
 (44,[(.sl none 1 0 6 [ax 0,ax 1,ax 2,ax 3,ax 4,ax 5])],(.sl none 2 0 6 [ax 0,(.bool false),ax 1,(.bool false),ax 2,(.bool false),ax 3,(.bool false),ax 4,(.bool false),ax 5,(.bool false)])),
 (44,[(.sl none 1 0 2 [ax 0,ax 2])],(.sl none 2 0 2 [ax 0,(.bool false),ax 2,(.bool false)])),
 (44,[(.sl none 1 0 2 [ax 0,ax 3])],(.sl none 2 0 2 [ax 0,(.bool false),ax 3,(.bool false)])),
 (44,[(.sl none 1 0 2 [ax 1,ax 3])],(.sl none 2 0 2 [ax 1,(.bool false),ax 3,(.bool false)])),
 (44,[(.sl none 1 0 4 [ax 1,ax 2,ax 4,ax 5])],(.sl none 2 0 4 [ax 1,(.bool false),ax 2,(.bool false),ax 4,(.bool false),ax 5,(.bool false)])),
 (44,[(.sl none 1 0 1 [ax 2])],(.sl none 2 0 1 [ax 2,(.bool false)])),
 (44,[(.sl none 1 0 1 [ax 0])],(.sl none 2 0 1 [ax 0,(.bool false)])),
 (44,[(.sl none 1 0 1 [ax 4])],(.sl none 2 0 1 [ax 4,(.bool false)])),
 (45,[(.sl none 2 0 6 [ax 0,(.bool false),ax 1,(.bool false),ax 2,(.bool false),ax 3,(.bool false),ax 4,(.bool false),ax 5,(.bool false)]),(.sl none 2 0 6 [ax 0,(.bool false),ax 1,(.bool false),ax 2,(.bool false),ax 3,(.bool false),ax 4,(.bool false),ax 5,(.bool false)])],(.bool true)),
 (45,[(.sl none 2 0 2 [ax 0,(.bool false),ax 2,(.bool false)]),(.sl none 2 0 2 [ax 0,(.bool false),ax 2,(.bool false)])],(.bool true)),
 (45,[(.sl none 2 0 2 [ax 0,(.bool false),ax 3,(.bool false)]),(.sl none 2 0 2 [ax 0,(.bool false),ax 3,(.bool false)])],(.bool true)),
 (45,[(.sl none 2 0 2 [ax 1,(.bool false),ax 3,(.bool false)]),(.sl none 2 0 2 [ax 1,(.bool false),ax 3,(.bool false)])],(.bool true)),
 (45,[(.sl none 2 0 4 [ax 1,(.bool false),ax 2,(.bool false),ax 4,(.bool false),ax 5,(.bool false)]),(.sl none 2 0 4 [ax 1,(.bool false),ax 2,(.bool false),ax 4,(.bool false),ax 5,(.bool false)])],(.bool true)),
 (45,[(.sl none 2 0 1 [ax 2,(.bool false)]),(.sl none 2 0 1 [ax 2,(.bool false)])],(.bool true)),
 (45,[(.sl none 2 0 1 [ax 0,(.bool false)]),(.sl none 2 0 1 [ax 0,(.bool false)])],(.bool true)),
 (45,[(.sl none 2 0 1 [ax 4,(.bool false)]),(.sl none 2 0 1 [ax 4,(.bool false)])],(.bool true)),
 (46,[ax 31,(.sl none 1 0 1 [ax 8])],(.agg [(.sl none 1 0 1 [ax 8]),ax 0,ax 0,ax 31,(.bool false)])),
 (46,[ax 31,(.sl none 1 0 2 [ax 6,ax 7])],(.agg [(.sl none 1 0 2 [ax 6,ax 7]),ax 0,ax 0,ax 31,(.bool false)])),
 (46,[ax 31,(.sl none 1 0 1 [ax 20])],(.agg [(.sl none 1 0 1 [ax 20]),ax 0,ax 0,ax 31,(.bool false)])),
 (46,[ax 31,(.sl none 1 0 2 [ax 6,ax 6])],(.agg [(.sl none 1 0 2 [ax 6,ax 6]),ax 0,ax 0,ax 31,(.bool false)])),
 (46,[ax 60,(.sl none 1 0 1 [ax 6])],(.agg [(.sl none 1 0 1 [ax 6]),ax 0,ax 0,ax 60,(.bool false)])),
 (47,[eP,ax 1,(.agg [(.sl none 1 0 2 [ax 12,ax 12]),ax 0,ax 0,ax 0,(.bool false)])],(.bD [(.sl none 1 0 2 [ax 0,ax 1]),ax 0])),
 (47,[eP,ax 0,(.agg [(.sl none 1 0 1 [ax 6]),ax 0,ax 0,ax 60,(.bool false)])],(.bD [.bC,ax 11])),
 (48,[eP,ax 1,(.agg [(.sl none 1 0 2 [ax 6,ax 6]),ax 0,ax 0,ax 0,(.bool false)])],(.bD [ax 2,ax 0])),
 (48,[eP,ax 0,(.agg [(.sl none 1 0 2 [ax 6,ax 7]),ax 0,ax 0,ax 0,(.bool false)])],(.bD [ax 1,ax 0])),
 (48,[eP,ax 0,(.agg [(.sl none 1 0 1 [ax 10]),ax 0,ax 0,ax 0,(.bool false)])],(.bD [ax 0,ax 11])),
 (49,[eP,ax 1,(.sl none 1 0 7 [ax 0,ax 6,ax 14,ax 15,ax 20,ax 28,ax 34])],(.bD [(.sl none 1 0 1 [ax 0]),ax 0])),
 (50,[eP,ax 1,ax 0],(.bD [ax 1,ax 1,ax 0])),
 (50,[eP,ax 0,ax 2],(.bD [ax 3,ax 0,ax 0])),
 (50,[eP,ax 0,ax 0],(.bD [ax 0,ax 0,ax 11])),
 (37,[eP,(.agg [(.sl none 1 0 2 [ax 6,ax 7]),ax 0,ax 0,ax 31,(.bool false)]),(.agg [(.sl none 1 0 1 [ax 8]),ax 0,ax 0,ax 31,(.bool false)])],(.bD [(.sl none 1 0 2 [ax (-1),ax 1]),ax 0])),
 (14,[eP,(.agg [(.sl none 1 0 2 [ax 6,ax 7]),ax 0,ax 0,ax 0,(.bool false)]),(.agg [(.sl none 1 0 1 [ax 6]),ax 0,ax 0,ax 0,(.bool false)])],(.bD [(.sl none 1 0 3 [ax 0,ax 1,ax 2]),ax 0])),
 (14,[eP,(.agg [(.sl none 1 0 2 [ax 6,ax 7]),ax 0,ax 0,ax 0,(.bool false)]),(.agg [(.sl none 1 0 1 [ax 8]),ax 0,ax 0,ax 0,(.bool false)])],(.bD [.bC,ax 0]))]
theorem VV:∀x∈vN,b3 x.1 x.2.1 x.2.2:=by
 simp only[vN,List.forall_mem_cons];exact⟨Ki.1,Ki.2.1,Kk.1,Kk.2.1,Kl.1,Kl.2.1,Km.1,Km.2.1,Kn.1,Kn.2.1,Ko.1,Ko.2.1,KL.1,KL.2.1,Lk.1,Lk.2.1,Ll.1,Ll.2.1,L3.1,L3.2.1,Fu.1,Fu.2.1,Fv.1,Fv.2.1,Fw.1,Fw.2.1,Fx.1,Fx.2.1,Fy.1,Fy.2.1,FK.1,FK.2.1,FL.1,FL.2.1,F4.1,F4.2.1,Gr.1,Gr.2.1,GC.1,GC.2.1,GD.1,GD.2.1,GF.1,GF.2.1,GG.1,GG.2.1,GO.1,GO.2.1,GR.1,GR.2.1,GX.1,GX.2.1,Hi.1,Hi.2.1,HE.1,HE.2.1,HW.1,HW.2.1,Ig.1,Ig.2.1,Ih.1,Ih.2.1,Ij.1,Ij.2.1,Ik.1,Ik.2.1,II.1,II.2.1,IJ.1,IJ.2.1,IK.1,IK.2.1,IN.1,IN.2.1,Xu,XJ,XK,λ_ h=>by cases h⟩
def sg(ω:b2)(g:FuncId)(a:List aa):Option aa:=(vN.find? λx=>decide (x.1=g)&&gn x.2.1 a).map λx=>x.2.2
theorem Rx(ω:b2)(g:FuncId)(a:List aa)(v:aa)(h:sg ω g a=some v):ib 19 ω g a=some v:=by
 unfold sg at h;obtain⟨x,aj,rfl⟩:=Option.map_eq_some_iff.1 h;have U:=List.find?_some aj;simp only[Bool.and_eq_true,decide_eq_true_eq]at U;have ab:=VV x (List.mem_of_find?_eq_some aj) ω;rw[U.1,hV U.2]at ab;exact ab
end
section
open Go Go.RowKit
theorem CW(ω:b2):(cA 10).bind (λt=>eval Tryz.prog sg 4096 t ω [])=some (.val (.bool true)):=by kernel_rfl
theorem S8(ω:b2):ib 20 ω 10 []=some (.bool true):=by
 cases a1:cA 10 with
 |none=>have h:=CW ω;rw[a1]at h;cases h
 |some t=>
  have h:=CW ω;rw[a1]at h;have ab:=gF Rx t ω [] _ h;have aQ:Tryz.prog.funcs[10]?=some Tryz.f10:=by kernel_rfl
  have gN:dd (flagsOf 23 Tryz.f10) []=true:=by kernel_rfl
  exact BQ a1 aQ gN ab rfl
theorem Tw:∀bz,qu Tryz.prog 6 Tryz.f10.params.toList bz->∀ω,E Tryz.prog 20 ω 10 bz=some (.bool true):=by
 intro bz h ω;have:bz=[]:=by
  have ae:Tryz.f10.params.toList=[]:=by kernel_rfl
  rw[ae]at h;cases bz with
  |nil=>rfl
  |cons q l=>simp[qu]at h
 subst this;exact Tx (S8 ω)
end
section
open Go
theorem ruleKnownProved:Rows.RuleKnownSaid:=No Tw
#print axioms ruleKnownProved
end
end Go.Proofs.YtlminnpaeaganaaGreat
