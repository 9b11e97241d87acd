/- Part of the proof of RuleBack. No condition. -/
import Derived.Test.YtlminnpaeaganaaGreatMBackAT
namespace Go.Proofs.YtlminnpaeaganaaGreat
set_option maxRecDepth 100000
set_option linter.all false
section
open Go Go.RowKit
variable[cQ]
section
variable{P:Program}{s:aA}
theorem XS{A:Anchor}{N:Nat}{Q:eJ->aA->Prop}{e:Exit}{a:Act}{w:World}(h:EP A N (λe s'=>∃s1,dW s' s1/\Q e s1) e a w):EP A N Q e a w:=by
 obtain⟨ex,s',bn,U,ab,al,aJ,bm,s1,bI,cS⟩:=h;obtain⟨ny,k1,bf⟩:=bI.2 bn w N a ⟨A.gg,A.c9,bn,w⟩ ab ⟨al.st,Rest.refl bn w⟩ bm;exact⟨ex,s1,ny,U,k1,⟨bf.st,al.a8.trans bf.a8⟩,aJ.rest bf.a8,by unfold Old at bm⊢;rw[bI.1];exact bm,cS⟩
theorem GZ{c:Code}{Q:eJ->aA->Prop}(h:ff P c s λe s'=>∃s1,dW s' s1/\Q e s1):ff P c s Q:=
 λA φ w N n r a aV ao au aW hm=>k8 (h A φ w N n r a aV ao au aW hm) λ_ _ _ h=>XS h
theorem Zg{c:Code}{Q:eJ->aA->Prop}(I:aA->Prop)(μ:aA->Nat)(aT:I s)
  (round:∀s,I s->ff P c s λe s'=>match e with
   |.normal=>∃s1,dW s' s1/\I s1/\μ s1<μ s
   |.exit i=>Q (.exit i) s'
   |.ret=>Q .ret s'):ff P (.loop c) s Q:=by
 refine Z3 I μ aT λs ao=>?_;refine GZ (oZ (round s ao) λe s' h=>?_);cases e with
 |normal=>
  obtain⟨s1,U,ab⟩:=h;exact⟨s1,U,.inl ab⟩
 |exit i=>exact⟨s',dW.refl s',h⟩
 |ret=>exact⟨s',dW.refl s',h⟩
end
section
variable{P:Program}{C:b2->FuncId->List aa->Option aa}{n:Nat}{R:Out->Prop}{ρ:List aa}
theorem Pv{step:b2->List aa->Option Out}{L B:Nat}{ex:List Nat}(h:∀ω af cL cB,step ω af=some (.jump cL cB)->cL∈L::ex\/cL<B):∀{k:Nat}{ω:b2}{af:List aa}{cL:Nat}{cB:List aa},iter step L k ω af=some (.jump cL cB)->cL∈ex\/cL<B
 |0,ω,af,cL,cB,hi=>by simp[iter]at hi
 |k+1,ω,af,cL,cB,hi=>by
  simp only[iter]at hi;split at hi
  ·rename_i UE agC ao;split at hi
   ·exact Pv h hi
   ·rename_i bU;injection hi with hi;injection hi with aK aO;subst aK;rcases h _ _ _ _ ao with h|h
    ·rcases List.mem_cons.1 h with h|h
     ·exact absurd h bU
     ·exact .inl h
    ·exact .inr h
  ·rename_i fu;exact absurd hi (fu _ _)
theorem qN{B:Nat}:∀{t:Tree}{ex:List Nat}{ω:b2}{ρ:List aa}{L:Nat}{af:List aa},t.low B ex=true->eval P C n t ω ρ=some (.jump L af)->L∈ex\/L<B
 |.ret v,ex,ω,ρ,L,af,h,he=>by simp[eval]at he
 |.jump cL l,ex,ω,ρ,L,af,h,he=>by
  simp only[eval,Option.some.injEq,Out.jump.injEq]at he;simp only[Tree.low,Bool.or_eq_true,decide_eq_true_eq]at h;rw[←he.1];rcases h with h|h
  ·exact .inl (by simpa[List.contains_iff_mem]using h)
  ·exact .inr h
 |.av p t,ex,ω,ρ,L,af,h,he=>by
  simp only[eval]at he;simp only[Tree.low]at h;split at he
  ·exact qN h he
  ·cases he
 |.ite c a b,ex,ω,ρ,L,af,h,he=>by
  simp only[eval]at he;simp only[Tree.low,Bool.and_eq_true]at h;split at he
  ·exact qN h.1 he
  ·exact qN h.2 he
  ·cases he
 |.call g args t,ex,ω,ρ,L,af,h,he=>by
  simp only[eval]at he;simp only[Tree.low]at h;split at he
  ·exact qN h he
  ·cases he
 |.kL f args t,ex,ω,ρ,L,af,h,he=>by
  simp only[eval]at he;simp only[Tree.low]at h;split at he
  ·split at he
   ·exact qN h he
   ·cases he
  ·cases he
 |.pick sz c t,ex,ω,ρ,L,af,h,he=>by
  simp only[eval]at he;simp only[Tree.low]at h;split at he
  ·exact qN h he
  ·cases he
 |.loop cL init b,ex,ω,ρ,L,af,h,he=>by
  simp only[eval]at he;simp only[Tree.low]at h;exact Pv (λω af UE cB ao=>qN h ao) he
 |.join cL b k,ex,ω,ρ,L,af,h,he=>by
  simp only[eval]at he;simp only[Tree.low,Bool.and_eq_true]at h;split at he
  ·rename_i UE agC hb;split at he
   ·exact qN h.2 he
   ·rename_i bU;injection he with he;injection he with aK aO;subst aK;rcases qN h.1 hb with g|g
    ·rcases List.mem_cons.1 g with g|g
     ·exact absurd g bU
     ·exact .inl g
    ·exact .inr g
  ·rename_i fu;exact absurd he (fu _ _)
 |.die,ex,ω,ρ,L,af,h,he=>by simp[eval]at he
def fV(L:Nat)(J:List aa->Prop)(R:Out->Prop):Out->Prop
 |.jump cL af=>if cL=L then J af else R (.jump cL af)
 |.val v=>R (.val v)
theorem QG{t:Tree}{L:Nat}{J:List aa->Prop}(h:t.low L []=true)(aB:bN P C n t ρ (fV L J R)):bN P C n t ρ R:=by
 intro ω;obtain⟨o,ar,cn⟩:=aB ω;refine⟨o,ar,?_⟩;cases o with
 |val v=>exact cn
 |jump cL af=>
  rcases qN h ar with g|g
  ·cases g
  ·simp only[fV]at cn;rwa[if_neg (by omega)]at cn
theorem QH{L:Nat}{x:M}{t:Tree}(h:xk L x=.ok t):x=.ok t/\t.low L []=true:=by
 unfold xk at h;split at h
 ·split at h
  ·rename_i ak;injection h with h;subst h;exact⟨rfl,ak⟩
  ·cases h
 ·cases h
theorem aaP{L:Nat}{b k:Tree}(h:bN P C n (.join L b k) ρ R):bN P C n b ρ (fV L (λaf=>bN P C n k (ρ++af) R) R):=by
 intro ω;obtain⟨o,ar,cn⟩:=h (b2.mk ω ω);simp only[eval,b2.tf]at ar;split at ar
 ·rename_i cL af hb;refine⟨_,hb,?_⟩;simp only[fV];split
  ·rename_i dg;intro x5;obtain⟨o',eC,ni⟩:=h (b2.mk ω x5);simp only[eval,b2.tf,b2.BD,hb,dg,if_true]at eC;exact⟨o',eC,ni⟩
  ·rename_i dg;rw[if_neg dg]at ar;injection ar with ar;subst ar;exact cn
 ·rename_i fu;refine⟨o,ar,?_⟩;cases o with
  |val v=>exact cn
  |jump cL af=>exact absurd ar (fu _ _)
def Iter(P:Program)(C:b2->FuncId->List aa->Option aa)(n L:Nat)(b:Tree)(ρ:List aa)(R:Out->Prop)(k:Nat)(af:List aa):Prop:=
 ∀ω,∃o,iter (λω af=>eval P C n b ω (ρ++af)) L k ω af=some o/\R o
theorem aaQ{L:Nat}{b:Tree}{init:List aS}(h:bN P C n (.loop L init b) ρ R):Iter P C n L b ρ R n (ep ρ init):=by
 intro ω;obtain⟨o,ar,cn⟩:=h ω;simp only[eval]at ar;exact⟨o,ar,cn⟩
theorem Zh{L:Nat}{b:Tree}{af:List aa}(h:Iter P C n L b ρ R 0 af):False:=by
 obtain⟨o,ar,_⟩:=h gP;simp[iter]at ar
theorem aaR{L:Nat}{b:Tree}{af:List aa}{k:Nat}(h:Iter P C n L b ρ R (k+1) af):bN P C n b (ρ++af) (fV L (λcB=>Iter P C n L b ρ R k cB) R):=by
 intro ω;obtain⟨o,ar,cn⟩:=h (b2.mk ω ω);simp only[iter,b2.tf]at ar;split at ar
 ·rename_i cL cB hb;refine⟨_,hb,?_⟩;simp only[fV];split
  ·rename_i dg;intro x5;obtain⟨o',eC,ni⟩:=h (b2.mk ω x5);simp only[iter,b2.tf,b2.BD,hb,dg,if_true]at eC;exact⟨o',eC,ni⟩
  ·rename_i dg;rw[if_neg dg]at ar;injection ar with ar;subst ar;exact cn
 ·rename_i fu;refine⟨o,ar,?_⟩;cases o with
  |val v=>exact cn
  |jump cL af=>exact absurd ar (fu _ _)
end
end
section
open Go Go.RowKit
variable[cQ]
section
variable{X:Ctx}{W:Hints}{F:cP}{C:b2->FuncId->List aa->Option aa}{n:Nat}{inl yl:fh}{f:FuncId}
theorem adX{S:Sym}{ρ:List aa}{ids:Nat->Option Nat}{s:aA}(h:Rel F S ρ ids s)(l:Nat):Rel F { S with ey:=l } ρ ids s:=
 ⟨h.len,h.cU,h.slot,h.dt,h.old,h.box,h.hO,h.mv,h.arr,h.bg,h.cV,h.kY,h.bb,h.new,h.eP,h.dO,h.lG,h.mS,h.an,h.kZ,h.rc⟩
theorem RH{S br:Sym}{ρ b1:List aa}{l:Nat}(h:Ext { S with ey:=l } ρ br b1):Ext S ρ br b1:=⟨h.pre,h.base,h.dO,h.site,h.ey,h.ys,h.bx,h.g⟩
theorem QI{b4:mz}{ba S:Sym}{bY ρ:List aa}{kP ids:Nat->Option Nat}{s1 s:aA}{L:Nat}{CR:String}{t:Tree}{J:List aa->Prop}{R:Out->Prop}(U:Rel F ba bY kP s1)(ad:Rel F S ρ ids s)(aj:Ext ba bY S ρ)
  (h:FA b4 ba (oC b4 ba) S L CR=.ok t) (aB:bN X.P C n t ρ (fV L J R)):
  ∃s2 af idsH,dW s s2/\Rel F (oC b4 ba) (bY++af) idsH s2/\Ext ba bY (oC b4 ba) (bY++af)/\J af:=by
 obtain⟨s2,gr,p2,ji,kD,oH,t2,f1,f2,f3,f4⟩:=o2 (X:=X) h ad aB;simp only[]at f1;split at f1
 ·rename_i af e0;injection f1 with f1;obtain⟨ps,bz,ck,rfl,aQ⟩:=Ny e0;obtain⟨g1,a2,bZ⟩:=RB U f2 (aj.trans f4) (MD b4 ba) rfl aQ;refine⟨_,_,_,gr.trans g1,a2,bZ,?_⟩;obtain⟨o,ar,cn⟩:=f3 gP;grind [eval,fV]
 ·cases f1
theorem En{p:Nat}{c:Code}{run:Sym->(eJ->Sym->M)->M}
  (ah:∀{S:Sym}{ρ:List aa}{ids:Nat->Option Nat}{s:aA}{t:Tree}{R:Out->Prop}{K:eJ->Sym->M},run S K=.ok t->Rel F S ρ ids s->bN X.P C n t ρ R->ff X.P c s λe s'=>hS X F C n R (K e) S ρ s')
  {S:Sym} {ρ:List aa} {ids:Nat->Option Nat} {s:aA} {t:Tree} {R:Out->Prop} {K:eJ->Sym->M} (h:y1 W p S run K=.ok t) (ad:Rel F S ρ ids s) (aB:bN X.P C n t ρ R):ff X.P c s λe s'=>hS X F C n R (K e) S ρ s':=by
 unfold y1 at h;split at h
 ·grind
 ·obtain⟨s1,cy,dM,ba,bY,kP,t1,U,ab,al,aJ⟩:=o2 (X:=X) h ad aB;obtain⟨body,hb,U⟩:=yH U;obtain⟨k,aq,U⟩:=yH U;injection U with U;subst U;have:=ah hb (adX ab _) (aaP al);refine GP cy (GZ (oZ this λe s' ao=>?_));obtain⟨br,b1,dK,bw,aK,aO,bS,b8⟩:=ao;have low:∀e,xk ba.ey (K e br)=.ok bw->∃s1,dW s' s1/\hS X F C n R (K e) S ρ s1:=λe aK=>by
   obtain⟨en,l9⟩:=QH aK;exact⟨s',dW.refl s',br,b1,dK,bw,en,aO,QG l9 bS,aJ.trans (RH b8)⟩
  cases e with
  |normal=>
   obtain⟨s2,af,idsH,g1,a2,bZ,dR⟩:=QI (X:=X) ab aO (RH b8) aK bS;exact⟨s2,g1,_,_,idsH,k,aq,a2,dR,aJ.trans bZ⟩
  |exit i=>grind
  |ret=>grind
theorem acx{q:Nat}{x:Code}{b4:mz}{ba:Sym}{bY:List aa}{kP:Nat->Option Nat}{s1:aA}{L:Nat}{body:Tree}{CR:String}{R:Out->Prop}{K:eJ->Sym->M}{Ge:List aa}{idsH:Nat->Option Nat}{s2:aA}
  (ah:∀{S:Sym}{ρ:List aa}{ids:Nat->Option Nat}{s:aA}{t:Tree}{R:Out->Prop}{K:eJ->Sym->M},comp X W inl yl f x q S K=.ok t->Rel F S ρ ids s->bN X.P C n t ρ R->ff X.P x s λe s'=>hS X F C n R (K e) S ρ s')
  (h:comp X W inl yl f x q (oC b4 ba) (λe br=>match e with
     |.normal=>FA b4 ba (oC b4 ba) br L CR
     |e=>xk L (K e br))=.ok body)
  (U:Rel F ba bY kP s1) (aj:Ext ba bY (oC b4 ba) (bY++Ge)) (ab:Rel F (oC b4 ba) (bY++Ge) idsH s2) (iM:Iter X.P C n L body bY R n Ge):
  ff X.P (.loop x) s2 λe s'=>hS X F C n R (K e) ba bY s':=by
 let J:Nat->aA->Prop:=λk s=>∃af ids,Rel F (oC b4 ba) (bY++af) ids s/\Iter X.P C n L body bY R k af;have AZ:∀s,∃k:Nat,(∃k,J k s)->J k s/\∀j,J j s->k<=j:=λs=>by
  by_cases h:∃k,J k s;all_goals simp_all[GX]
 let μ:aA->Nat:=λs=>Classical.choose (AZ s);have LH:∀s,(∃k,J k s)->J (μ s) s/\∀j,J j s->μ s<=j:=λs=>Classical.choose_spec (AZ s);refine Zg (λs=>∃k,J k s) μ ⟨n,Ge,idsH,ab,iM⟩ λs ao=>?_;obtain⟨⟨af,ids,g1,a2⟩,_⟩:=LH s ao;have hd:Ext ba bY (oC b4 ba) (bY++af):=⟨List.prefix_append _ _,aj.base,aj.dO,aj.site,aj.ey,aj.ys,aj.bx,aj.g⟩;cases aq:μ s with
 |zero=>grind [Zh]
 |succ k=>
  rw[aq]at a2;refine oZ (ah h g1 (aaR a2)) λe s' tv=>?_;obtain⟨br,b1,dK,bw,aK,aO,bS,b8⟩:=tv;have low:∀e,xk L (K e br)=.ok bw->hS X F C n R (K e) ba bY s':=λe aK=>by
   obtain⟨en,l9⟩:=QH aK;exact⟨br,b1,dK,bw,en,aO,QG l9 bS,hd.trans b8⟩
  cases e with
  |normal=>
   obtain⟨vM,cB,afd,k1,bf,bP,cX⟩:=QI (X:=X) U aO (hd.trans b8) aK bS;have LX:J k vM:=⟨cB,afd,bf,cX⟩;exact⟨vM,k1,⟨k,LX⟩,by have:=(LH vM ⟨k,LX⟩).2 k LX;omega⟩
  |exit i=>grind
  |ret=>grind
mutual
theorem aS.dh:∀{x y:aS},x.b y=true->x=y
 |.e x,y,h=>by
  cases y with
  |e y=>
   simp[aS.b]at h;grind [aR.dh]
  |_=>trivial
 |.agg l,y,h=>by cases y<;>simp[aS.b]at h;rw[nP h]
 |.bD l,y,h=>by cases y<;>simp[aS.b]at h;rw[nP h]
 |.lit a b l,y,h=>by cases y<;>simp[aS.b]at h;rw[h.1.1,h.1.2,nP h.2]
 |.fn f l,y,h=>by cases y<;>simp[aS.b]at h;rw[h.1,nP h.2]
 |.ref l,y,h=>by cases y<;>simp[aS.b]at h;rw[nP h]
theorem nP:∀{l m:List aS},lX l m=true->l=m
 |[],m,h=>by grind [lX]
 |x::l,m,h=>by
  cases m with
  |nil=>trivial
  |cons y m=>
   simp[lX]at h;rw[aS.dh h.1,nP h.2]
end
theorem QJ:∀{l m:List aa},BE l m=true->l=m
 |[],m,h=>by grind [BE]
 |x::l,m,h=>by
  cases m with
  |nil=>trivial
  |cons y m=>
   simp[BE]at h;rw[RI h.1,QJ h.2]
theorem acy:∀{x y:Option aS},BF x y=true->x=y
 |none,y,h=>by grind [BF]
 |some x,y,h=>by cases y<;>simp[BF]at h;rw[aS.dh h]
theorem Prim.dh{p q:Prim}(h:p.b q=true):p=q:=by
 cases p<;>cases q<;>simp[Prim.b]at h<;>simp 
 case bin=>grind [aS.dh]
 case un=>grind [aS.dh]
 case conv=>grind [aS.dh]
 case ext=>grind [aS.dh]
 case agg=>grind [aS.dh]
 case one=>exact aS.dh h
 case row=>grind [aS.dh]
 case idx=>grind [aS.dh]
 case len=>grind [aS.dh]
 case slice=>grind [aS.dh,acy]
 case iz=>grind [nP]
 case j2=>exact nP h
 case mk=>grind [QJ,aS.dh]
 case kX=>grind [aR.dh,aS.dh]
 case put=>grind [aR.dh,nP]
 case push=>grind [aR.dh,aS.dh]
 case deref=>grind [aS.dh]
 case cont=>grind [aS.dh]
 case wZ=>exact aS.dh h
 case ints=>exact aS.dh h
 case ins=>grind [aR.dh,nP]
 case keys=>grind [aS.dh]
 all_goals grind [aR.dh,e9.dh]
theorem Tree.dh:∀{t u:Tree},t.b u=true->t=u
 |.ret v,u,h=>by cases u<;>simp[Tree.b]at h;rw[aS.dh h]
 |.jump L l,u,h=>by cases u<;>simp[Tree.b]at h;grind [nP]
 |.av p t,u,h=>by cases u<;>simp[Tree.b]at h;rw[Prim.dh h.1,Tree.dh h.2]
 |.ite c x y,u,h=>by cases u<;>simp[Tree.b]at h;rw[aR.dh h.1.1,Tree.dh h.1.2,Tree.dh h.2]
 |.call g l t,u,h=>by cases u<;>simp[Tree.b]at h;rw[h.1.1,nP h.1.2,Tree.dh h.2]
 |.kL f l t,u,h=>by cases u<;>simp[Tree.b]at h;rw[aR.dh h.1.1,nP h.1.2,Tree.dh h.2]
 |.pick z c t,u,h=>by cases u<;>simp[Tree.b]at h;rw[h.1.1,aR.dh h.1.2,Tree.dh h.2]
 |.loop L i t,u,h=>by cases u<;>simp[Tree.b]at h;rw[h.1.1,nP h.1.2,Tree.dh h.2]
 |.join L x y,u,h=>by cases u<;>simp[Tree.b]at h;rw[h.1.1,Tree.dh h.1.2,Tree.dh h.2]
 |.die,u,h=>by grind [Tree.b]
theorem aaS{t:Tree}{x:M}(h:SR t x=true):x=.ok t:=by
 cases x with
 |ok u=>rw[Tree.dh (show t.b u=true from h)]
 |error e=>cases h
theorem Ox{P:Program}{ops:Array Oper}{K fy:aA->Prop}(aq:∀s,K s->fy s):∀(m:Nat)(l:Array Bool)(s:aA),ze P ops m l s K->ze P ops m l s fy
 |0,l,s,h=>⟨h.1,aq s h.2⟩
 |m+1,l,s,h=>⟨λe=>aq s (h.1 e),λi hi o ar=>pU (λs' bc=>Ox aq m _ s' bc) [o] s (h.2 i hi o ar)⟩
theorem RJ(aw:F.P=X.P)(aq:ri X F.DI C n inl yl){ops:Array Oper}{e2:Nat}{K:Sym->M}{R:Out->Prop}:∀(m:Nat)(l:Array Bool){S:Sym}{ρ:List aa}{ids:Nat->Option Nat}{s:aA}{t:Tree},wv X inl yl ops e2 m l S K=.ok t->Rel F S ρ ids s->bN X.P C n t ρ R->ze X.P ops m l s λs'=>hS X F C n R K S ρ s'
 |0,l,S,ρ,ids,s,t,h,ad,aB=>by
  simp only[wv]at h;split at h
  ·rename_i he;exact⟨he,S,ρ,ids,t,h,ad,aB,Ext.refl S ρ⟩
  ·cases h
 |m+1,l,S,ρ,ids,s,t,h,ad,aB=>by
  simp only[wv]at h;split at h
  ·exact⟨λ_=>⟨S,ρ,ids,t,h,ad,aB,Ext.refl S ρ⟩,λi hi=>(by grind)⟩
  ·obtain⟨t0,a1,h⟩:=yH h;split at h
   ·injection h with h;subst h;refine⟨λe=>(by grind),λj aC o ar=>?_⟩;have lR:EL X inl yl ops e2 S (λi S=>wv X inl yl ops e2 m (l.setIfInBounds i true) S K) j=.ok t0:=by grind [aaS]
    simp only[EL,ar]at lR;refine pU (λs' ao=>?_) [o] s (AU aw aq [o] j lR ad aB);obtain⟨br,b1,dK,bw,U,ab,al,aJ⟩:=ao;exact Ox (λvM h=>nL aJ h) m _ s' (RJ aw aq m _ U ab al)
   ·cases h
theorem o8(aw:F.P=X.P)(hm:X.P.follows .mixedOrders=true)(aq:ri X F.DI C n inl yl):∀(c:Code){p:Nat}{S:Sym}{ρ:List aa}{ids:Nat->Option Nat}{s:aA}{t:Tree}{R:Out->Prop}{K:eJ->Sym->M},
  comp X W inl yl f c p S K=.ok t->Rel F S ρ ids s->bN X.P C n t ρ R->ff X.P c s λe s'=>hS X F C n R (K e) S ρ s'
 |.skip,p,S,ρ,ids,s,t,R,K,h,ad,aB=>by exact OY ⟨S,ρ,ids,t,h,ad,aB,Ext.refl S ρ⟩
 |.ret,p,S,ρ,ids,s,t,R,K,h,ad,aB=>by exact Iz ⟨S,ρ,ids,t,h,ad,aB,Ext.refl S ρ⟩
 |.exit i,p,S,ρ,ids,s,t,R,K,h,ad,aB=>by exact Z0 ⟨S,ρ,ids,t,h,ad,aB,Ext.refl S ρ⟩
 |.seq x y,p,S,ρ,ids,s,t,R,K,h,ad,aB=>by
  refine o6 (oZ (o8 aw hm aq x h ad aB) λe s' ao=>?_);obtain⟨br,b1,dK,bw,aK,aO,bS,b8⟩:=ao;cases e with
  |normal=>exact oZ (o8 aw hm aq y aK aO bS) λe l6 ao=>nL b8 ao
  |exit i=>exact⟨br,b1,dK,bw,aK,aO,bS,b8⟩
  |ret=>exact⟨br,b1,dK,bw,aK,aO,bS,b8⟩
 |.cond c x y,p,S,ρ,ids,s,t,R,K,h,ad,aB=>by
  refine En (λ{S ρ ids s t R K} h ad aB=>?_) h ad aB;have ai:=ad.ay c;split at h
  ·rename_i b ah;rw[ah]at ai;cases b with
   |true=>exact AA true ai.1 (by exact o8 aw hm aq x (by simpa using h) ad aB)
   |false=>exact AA false ai.1 (by exact o8 aw hm aq y (by simpa using h) ad aB)
  ·rename_i e _ ah;rw[ah]at ai;obtain⟨a,au,h⟩:=yH h;obtain⟨b,hb,h⟩:=yH h;injection h with h;subst h;rcases aB.ite with⟨U,ab⟩|⟨U,ab⟩
   ·exact AA true (ai.1.trans U) (by exact o8 aw hm aq x au ad ab)
   ·exact AA false (ai.1.trans U) (by exact o8 aw hm aq y hb ad ab)
  ·cases h
 |.block id x,p,S,ρ,ids,s,t,R,K,h,ad,aB=>by
  refine En (λ{S ρ ids s t R K} h ad aB=>?_) h ad aB;refine Yz (oZ (o8 aw hm aq x h ad aB) λe s' ao=>?_);obtain⟨br,b1,dK,bw,aK,aO,bS,b8⟩:=ao;cases e with
  |normal=>exact⟨br,b1,dK,bw,aK,aO,bS,b8⟩
  |exit i=>
   simp only at aK⊢;split
   ·rename_i hi;rw[if_pos hi]at aK;exact⟨br,b1,dK,bw,aK,aO,bS,b8⟩
   ·rename_i hi;rw[if_neg hi]at aK;exact⟨br,b1,dK,bw,aK,aO,bS,b8⟩
  |ret=>exact⟨br,b1,dK,bw,aK,aO,bS,b8⟩
 |.region e2 ops false,p,S,ρ,ids,s,t,R,K,h,ad,aB=>by grind [comp,En,qL,AU]
 |.region e2 ops true,p,S,ρ,ids,s,t,R,K,h,ad,aB=>by
  refine En (λ{S ρ ids s t R K} h ad aB=>?_) h ad aB;split at h
  ·rename_i aV;obtain⟨s1,cy,dM,ba,bY,kP,t1,U,ab,al,aJ⟩:=o2 (X:=X) h ad aB;refine GP cy (H9 hm _ aV (n5 X C) ?_);refine Eo.sC (λs' ao=>?_) _ _ (Eo (m0:=s1.m) aw aq _ 0 U ab ⟨ab.dt,Nat.le_refl _,λ_ _=>rfl⟩ al);obtain⟨⟨br,b1,dK,bw,aK,aO,bS,b8⟩,_⟩:=ao;exact pU (λl6 h=>nL (aJ.trans b8) h) _ _ (AU aw aq _ _ aK aO bS)
  grind [abC,RJ]
 |.loop x,p,S,ρ,ids,s,t,R,K,h,ad,aB=>by
  simp only[comp]at h;split at h
  ·cases h
  ·rename_i b4 _;obtain⟨s1,cy,dM,ba,bY,kP,t1,U,ab,al,aJ⟩:=o2 (X:=X) h ad aB;simp only[]at U;split at U
   ·cases U
   ·rename_i af e0;obtain⟨body,hb,U⟩:=yH U;injection U with U;subst U;obtain⟨ps,bz,ck,rfl,aQ⟩:=Ny e0;obtain⟨g1,a2,bZ⟩:=RB ab ab (Ext.refl ba bY) (MD b4 ba) rfl aQ;refine GP (cy.trans g1) (oZ (acx (X:=X) (f:=f) (inl:=inl) (yl:=yl) (W:=W) (λ{S ρ ids s t R K} h ad aB=>o8 aw hm aq x h ad aB) hb ab bZ a2 (aaQ al)) λe s' ao=>nL aJ ao)
 |.rangeFunc g ps a b,p,S,ρ,ids,s,t,R,K,h,ad,aB=>by exact aq.tN F R f g ps a b p K S ρ ids s t aw aq.c aq.new aq.own h ad aB
 |.scope _,p,S,ρ,ids,s,t,R,K,h,ad,aB=>by trivial
 |.label _,p,S,ρ,ids,s,t,R,K,h,ad,aB=>by trivial
 |.goto _,p,S,ρ,ids,s,t,R,K,h,ad,aB=>by trivial
 |.refuse _,p,S,ρ,ids,s,t,R,K,h,ad,aB=>by trivial
end
end
section
open Go Go.RowKit
variable[cQ]
structure rj(F fq:cP):Prop where
 n0:fq.n0=F.n0
 d0:fq.d0=F.d0
 lH:fq.lH=F.lH
 DI:fq.DI=F.DI
 ys:∀(y l:Nat),F.cV.ys[y]?.map eN.l=some l->fq.cV.ys[y]?.map eN.l=some l
mutual
theorem yV{F fq:cP}{E:Env}(h:rj F fq):∀{v:aL}{q:aa},a0 F E v q->a0 fq E v q
 |.e x,q,ad=>by assumption
 |.undef,q,ad=>by assumption
 |.bT,q,ad=>by assumption
 |.ptr i o,q,ad=>by simp only[a0]at ad⊢;rw[h.n0];exact ad
 |.c8,q,ad=>by simp only[a0]at ad⊢;rw[h.n0,h.d0,h.lH,h.DI];exact ad
 |.cq y,q,ad=>by
  obtain⟨l,U,ab⟩:=ad;exact⟨l,h.ys y l U,ab⟩
 |.own k,q,ad=>by assumption
 |.fF k x fo,q,ad=>by assumption
 |.fQ x sz fo,q,ad=>by assumption
 |.ft l fo,q,ad=>by
  obtain⟨aG,U,ab⟩:=ad;exact⟨aG,yI h U,ab⟩
 |.fn f l,q,ad=>by
  obtain⟨aG,U,ab⟩:=ad;exact⟨aG,U,yI h ab⟩
 |.agg l,q,ad=>by
  obtain⟨aG,U,ab⟩:=ad;exact⟨aG,U,yI h ab⟩
 |.bD l,q,ad=>by
  obtain⟨aG,U,ab⟩:=ad;exact⟨aG,U,QK h ab⟩
 |.lit sz len l,q,ad=>by
  obtain⟨aG,U,ab,al⟩:=ad;exact⟨aG,U,yI h ab,al⟩
theorem yI{F fq:cP}{E:Env}(h:rj F fq):∀{l:List aL}{aG:List aa},cJ F E l aG->cJ fq E l aG
 |[],aG,ad=>by assumption
 |v::af,aG,ad=>by
  obtain⟨q,r,U,ab,al,aJ⟩:=ad;exact⟨q,r,U,yV h ab,al,yI h aJ⟩
theorem QK{F fq:cP}{E:Env}(h:rj F fq):∀{l:List aL}{aG:List aa},hk F E l aG->hk fq E l aG
 |[],aG,ad=>by assumption
 |v::af,aG,ad=>by
  obtain⟨q,r,U,ab,aJ⟩:=ad;exact⟨q,r,U,yV h ab,QK h aJ⟩
end
theorem Jp{F fq:cP}{E:Env}(h:rj F fq){b:ga}{c:di}(hb:vQ F E b c):vQ fq E b c:=by
 cases b with
 |cells l=>obtain⟨aG,U,ab⟩:=hb;exact⟨aG,U,yI h ab⟩
 |c8=>exact(show c=.inv fq.DI by rw[h.DI];exact hb)
 |gone=>trivial
structure Bl(n:Nat)(F fq:cP):Prop where
 n0:fq.n0=F.n0
 d0:fq.d0=F.d0
 lH:fq.lH=F.lH
 DI:fq.DI=F.DI
 ys:∀(y l:Nat),y<n->F.cV.ys[y]?.map eN.l=some l->fq.cV.ys[y]?.map eN.l=some l
mutual
theorem RK{n:Nat}{F fq:cP}{E:Env}(h:Bl n F fq):∀{v:aL}{q:aa},a0 F E v q->a0 fq E (v.qx n) q
 |.e x,q,ad=>by assumption
 |.undef,q,ad=>by assumption
 |.bT,q,ad=>by assumption
 |.ptr i o,q,ad=>by simp only[aL.qx];simp only[a0]at ad⊢;rw[h.n0];exact ad
 |.c8,q,ad=>by simp only[aL.qx];simp only[a0]at ad⊢;rw[h.n0,h.d0,h.lH,h.DI];exact ad
 |.cq y,q,ad=>by
  simp only[aL.qx];split
  ·rename_i aF;obtain⟨l,U,ab⟩:=ad;exact⟨l,h.ys y l aF U,ab⟩
  trivial
 |.own k,q,ad=>by assumption
 |.fF k x fo,q,ad=>by assumption
 |.fQ x sz fo,q,ad=>by assumption
 |.ft l fo,q,ad=>by
  obtain⟨aG,U,ab⟩:=ad;exact⟨aG,yJ h U,ab⟩
 |.fn f l,q,ad=>by
  obtain⟨aG,U,ab⟩:=ad;exact⟨aG,U,yJ h ab⟩
 |.agg l,q,ad=>by
  obtain⟨aG,U,ab⟩:=ad;exact⟨aG,U,yJ h ab⟩
 |.bD l,q,ad=>by
  obtain⟨aG,U,ab⟩:=ad;exact⟨aG,U,QL h ab⟩
 |.lit sz len l,q,ad=>by
  obtain⟨aG,U,ab,al⟩:=ad;exact⟨aG,U,yJ h ab,al⟩
theorem yJ{n:Nat}{F fq:cP}{E:Env}(h:Bl n F fq):∀{l:List aL}{aG:List aa},cJ F E l aG->cJ fq E (rC n l) aG
 |[],aG,ad=>by assumption
 |v::af,aG,ad=>by
  obtain⟨q,r,U,ab,al,aJ⟩:=ad;exact⟨q,r,U,RK h ab,al.imp_left (λe=>by grind [aL.qx]),yJ h aJ⟩
theorem QL{n:Nat}{F fq:cP}{E:Env}(h:Bl n F fq):∀{l:List aL}{aG:List aa},hk F E l aG->hk fq E (rC n l) aG
 |[],aG,ad=>by assumption
 |v::af,aG,ad=>by
  obtain⟨q,r,U,ab,aJ⟩:=ad;exact⟨q,r,U,RK h ab,QL h aJ⟩
end
theorem acz(n:Nat)(l:List aL):rC n l=l.map (aL.qx n):=by
 induction l with
 |nil=>rfl
 |cons v l az=>simp[rC,az]
theorem adY{n:Nat}{F fq:cP}{E:Env}(h:Bl n F fq){b:ga}{c:di}(hb:vQ F E b c):vQ fq E (b.map (aL.qx n)) c:=by
 cases b with
 |cells l=>obtain⟨aG,U,ab⟩:=hb;exact⟨aG,U,by rw[←acz];exact yJ h ab⟩
 |c8=>exact(show c=.inv fq.DI by rw[h.DI];exact hb)
 |gone=>trivial
theorem At(l:List aL):q3 l=l.map aL.jS:=by
 induction l with
 |nil=>rfl
 |cons v l az=>simp[q3,az]
mutual
theorem Pw:∀v:aL,v.owns.filter (·%2==0)=[]->v.jS=v
 |.own k,h=>by grind [aL.owns]
 |.fF k _ _,h=>by grind [aL.owns]
 |.fn f l,h=>by simp only[aL.jS,yt l (by assumption)]
 |.ft l o,h=>by simp only[aL.jS,yt l (by assumption)]
 |.agg l,h=>by simp only[aL.jS,yt l (by assumption)]
 |.bD l,h=>by simp only[aL.jS,yt l (by assumption)]
 |.lit a b l,h=>by simp only[aL.jS,yt l (by assumption)]
 |.e _,_ | .undef,_ | .bT,_ | .ptr _ _,_ | .c8,_ | .cq _,_ | .fQ _ _ _,_=>by rfl
theorem yt:∀l:List aL,(nV l).filter (·%2==0)=[]->q3 l=l
 |[],_=>rfl
 |v::l,h=>by
  simp only[nV,List.filter_append,List.append_eq_nil_iff]at h;simp only[q3,Pw v h.1,yt l h.2]
end
theorem ME(v:aL):v.kI=.bT\/(v.kI=v/\v.jS=v):=by
 unfold aL.kI;grind [aL.jS,Pw]
section
variable{X:Ctx}{F:cP}{C:b2->FuncId->List aa->Option aa}{n:Nat}{R:Out->Prop}{S br:Sym}{ρ b1:List aa}{ids dK:Nat->Option Nat}{s s':aA}{E E':Env}
theorem Im(EE:List b9)(mb:E.ρ<+:E'.ρ)(aI:E.fw<=E'.fw):j8 F E E' aL.jS (aa.sub EE):=by
 refine⟨QM EE,mb,λ_=>by rfl,by rfl,by rfl,by rfl,λ_ _ _=>by rfl,λ_=>by rfl,λg c=>by grind [aL.jS,At],λc=>by grind [aL.jS,At],λc=>by grind [aL.jS,At],λ_ _ c=>by grind [aL.jS,At],λc _=>by grind [aL.jS,At],λj o q aH=>?_,λq aH=>?_,λk q aH=>?_,λk x fo q aH=>?_⟩
 ·rw[aH.1,Ep];refine⟨?_,.inr rfl⟩;grind [aL.jS,a0]
 all_goals grind [a0,Ep,aL.jS]
theorem Oy(EE:List b9)(mb:E.ρ<+:E'.ρ)(aI:E.fw<=E'.fw){v:aL}{q:aa}(h:a0 F E v q):a0 F E' v.kI (q.sub EE):=by
 rcases ME v with e|⟨e,e'⟩
 ·grind [a0]
 ·have:=(Im EE mb aI).ow h;grind
def cP.sub(F:cP)(S:Sym)(ρ:List aa)(ids:Nat->Option Nat)(s:aA)(ys:List eN):cP:={ F with cV:=⟨s.m.an,s.m.n,ys⟩,UF:=λk=>S.bd.getD k none,TC:=ids,GI:=ρ }
theorem Io(y:Nat):s.c7[y]?.map eN.l=s.bg.ys[y]?.map eN.l:=by grind [aA.c7,aA.qZ]
theorem Dy(h:s.bg=F.cV)(S:Sym)(ρ:List aa)(ids:Nat->Option Nat)(l:List eN):rj F (F.sub S ρ ids s (s.c7++l)):=
 ⟨rfl,rfl,rfl,rfl,λy k aF=>by
  show(s.c7++l)[y]?.map eN.l=some k;grind [Io,List.getElem?_append_left]⟩
theorem Zi(h:s.bg=F.cV)(S:Sym)(ρ:List aa)(ids:Nat->Option Nat)(l:List eN){n:Nat}(aI:n<=F.cV.ys.length):Bl n (F.sub S ρ ids s (s.c7++l)) F:=
 ⟨rfl,rfl,rfl,rfl,λy k aU aF=>by
  have aF:(s.c7++l)[y]?.map eN.l=some k:=aF;grind [List.getElem?_append_left,Io]⟩
theorem Hm(h:s.bg=F.cV)(S:Sym)(ρ:List aa)(ids:Nat->Option Nat):rj (F.sub S ρ ids s s.c7) F:=
 ⟨rfl,rfl,rfl,rfl,λy k aF=>by
  have aF:s.c7[y]?.map eN.l=some k:=aF;grind [Io]⟩
theorem wx:∀(ys:List cj)(l:List eN),List.zipWith cj.now ys (s.qZ l)=List.zipWith cj.now ys l
 |[],_=>by simp
 |_::_,[]=>by rfl
 |y::ys,r::l=>by
  have:=wx ys l;grind [aA.qZ,List.zipWith_cons_cons,cj.now]
theorem zL.core{y dj:cj}{r:eN}(h:zL F y r)(e:dj.core=y.core):zL F dj r:=by
 obtain⟨g,f,ps,kV,body,p,pend,busy⟩:=y;obtain⟨rfl,rfl,rfl,rfl,rfl,rfl,_⟩:=e;exact⟨h.ps,h.kV,h.body,h.lt,h.LY,h.LZ,h.own,h.g⟩
theorem aaT{Y ys:List cj}(h:Y.map cj.core=ys.map cj.core){i:Nat}{y:cj}(aF:Y[i]?=some y):∃dj,ys[i]?=some dj/\y.core=dj.core:=by
 have:=congrArg (λl=>l[i]?) h;grind
theorem lW.Gf{ys Y:List cj}{rc:List (Nat×Loop)}(h:lW F ys ρ rc)(g4:Y.map cj.core=ys.map cj.core)(ae:ρ<+:b1):lW F Y b1 (List.zipWith cj.now Y F.cV.ys++F.kv):=
 ⟨h.pre.trans ae,by have:=congrArg List.length g4;simp  at this;rw[this];exact h.len,rfl,λi y r aF ad=>by
  obtain⟨dj,U,ab⟩:=aaT g4 aF;exact(h.y i dj r U ad).core ab,h.ne,h.zK⟩
theorem IQ(h:Rel F S ρ ids s){y:cj}{r:eN}(aF:zL F y r)(l:List eN):zL (F.sub S ρ ids s (s.c7++l)) y { r with g:=λt=>(r.g t).sub s.bb }:=by
 refine⟨aF.ps,aF.kV,aF.body,aF.lt,aF.LY,aF.LZ,aF.own,λt=>?_⟩;have:=(Im (F:=F) (E:=⟨F.GI,[],F.cV.n-F.n0,λ_=>none⟩) (E':=⟨ρ,[],s.m.n-F.n0,λ_=>none⟩) s.bb h.rc.pre (by
  have U:=h.dO;have ab:=h.mS;have al:=h.dt;grind)).ow (aF.g t)
 rw[aF.own t]at this;exact yV (Dy h.bg S ρ ids l) this
theorem sE(h:s.bg=F.cV):s.c7=s.qZ F.cV.ys:=by rw[←h];rfl
theorem QN(h:s.bg=F.cV):s.c7.length=F.cV.ys.length:=by grind [sE,aA.qZ]
theorem EM(h:Rel F S ρ ids s):lW (F.sub S ρ ids s s.c7) S.ys ρ s.m.rc:=by
 have e:=sE h.bg;refine⟨List.prefix_refl _,by rw[h.rc.len];exact(QN h.bg).symm,?_,λi y r aF ad=>?_,λi j r bR hi aC ak=>?_,λr ad p ae=>?_⟩
 ·rw[h.rc.rc];show _=List.zipWith cj.now S.ys s.c7++F.kv;rw[e,wx]
 ·have ad:s.c7[i]?=some r:=ad;rw[e]at ad;simp only[aA.qZ,List.getElem?_map]at ad;obtain⟨r0,U,rfl⟩:=Option.map_eq_some_iff.1 ad;have:=IQ h (h.rc.y i y r0 aF U) [];grind
 ·have hi:s.c7[i]?=some r:=hi;have aC:s.c7[j]?=some bR:=aC;rw[e]at hi aC;simp only[aA.qZ,List.getElem?_map]at hi aC;obtain⟨r0,U,rfl⟩:=Option.map_eq_some_iff.1 hi;obtain⟨eh,ab,rfl⟩:=Option.map_eq_some_iff.1 aC;exact h.rc.ne i j r0 eh U ab ak
 ·rw[e]at ad;obtain⟨r0,U,rfl⟩:=List.mem_map.1 ad;exact h.rc.zK r0 U p ae
theorem AV:∀{a:List aL}{a':List aa},jd F E a a'->a.length=a'.length/\∀(j:Nat) v q,a[j]?=some v->a'[j]?=some q->a0 F E v q
 |[],a',h=>by grind [jd]
 |v::a,a',h=>by
  obtain⟨q,r,rfl,U,ab⟩:=h;obtain⟨g1,a2⟩:=AV ab;grind
theorem Ip(h:Rel F S ρ ids s){ys:List eN}{Y:List cj}{rc:List (Nat×Loop)}(mH:rj F (F.sub S ρ ids s ys))(fb:lW (F.sub S ρ ids s ys) Y ρ rc){g:List aL}{jg:Nat->aa}(aN:∀t,a0 (F.sub S ρ ids s ys) (S.env ρ ids) (g.getD t .bT) (jg t))(site:Nat):
  Rel (F.sub S ρ ids s ys) (({ S with ys:=Y }:Sym).sub g site) ρ ids ⟨jg,{ s.m with rc:=rc },⟨s.m.an,s.m.n,ys⟩,[]⟩:=by
 refine⟨h.len,h.cU,aN,h.dt,h.old,λi b hb=>Jp mH (h.box i b hb),h.hO,h.mv,h.arr,rfl,⟨Nat.le_trans h.cV.1 h.an,by show F.n0<=s.m.n;rw[h.dt];omega⟩,λe he=>by simp at he,λ_=>rfl,λ_ k id cr aq=>?_,λ_ k aq=>⟨rfl,rfl⟩,h.dt,Nat.le_refl _,Nat.le_refl _,Nat.le_refl _,h.kZ,fb⟩;exact absurd (h.hO k id cr).2.2 (by have gx:S.bd.length<=k:=aq;omega)
theorem QO{F:cP}{E:Env}{args:List aL}{bz:List aa}(au:jd F E args bz)(N:Nat)(t:Nat):a0 F E ((args++List.replicate (N-args.length) aL.undef).getD t aL.bT) ((bz[t]?).getD aa.undef):=by grind [AV,a0]
theorem Er{F fq:cP}{E:Env}(h:rj F fq):∀{a:List aL}{a':List aa},jd F E a a'->jd fq E a a'
 |[],a',bc=>bc
 |v::a,a',bc=>by
  obtain⟨q,r,rfl,U,ab⟩:=bc;exact⟨q,r,rfl,yV h U,Er h ab⟩
theorem acA(h:Rel F S ρ ids s){args:List aL}{bz:List aa}(au:jd F (S.env ρ ids) args bz)(N site:Nat):Rel (F.sub S ρ ids s s.c7) (S.sub (args++List.replicate (N-args.length) .undef) site) ρ ids (wE s.c7 bz s.m):=by
 have mH:rj F (F.sub S ρ ids s s.c7):=by have:=Dy h.bg S ρ ids [];grind
 exact Ip h mH (EM h) (QO (Er mH au) N) site
theorem HI(h:Rel F S ρ ids s){ys:List eN}(bc:Rel (F.sub S ρ ids s ys) br b1 dK s')(nY:ρ<+:b1)(hb:br.base=S.bd.length)(tk:br.dO=S.bx.length)(nt:S.bx.length<=br.bx.length)
  {bx:List ga} (se:bx.length=br.bx.length) (BX:∀i b,bx[i]?=some b->vQ F (br.env b1 dK) b (s'.m.β (F.n0+i))) {Y:List cj} {rc:List (Nat×Loop)} (fb:lW F Y b1 rc) (g4:Y.map cj.core=S.ys.map cj.core):
  Rel F { S.back br with bx:=bx,ys:=Y } b1 dK (s.after s'.bb { s'.m with rc:=rc })/\Ext S ρ { S.back br with bx:=bx,ys:=Y } b1:=by
 have ej:({ S.back br with bx:=bx,ys:=Y }:Sym).env b1 dK=br.env b1 dK:=by simp[Sym.env,Sym.back,se]
 have hlen:S.bd.length<=br.bd.length:=by rw[←hb];exact bc.lG
 refine⟨?_,nY,rfl,rfl,rfl,rfl,g4,by grind,?_⟩
 ·refine⟨bc.len,bc.cU,λt=>?_,by rw[se];exact bc.dt,bc.old,λi b hb=>by simp_all,bc.hO,bc.mv,λk a au=>by exact bc.arr k a au,h.bg,h.cV,λe he=>?_,λhe=>?_,λhe k id cr aq=>?_,λhe k aq=>?_,h.dO,Nat.le_trans h.lG hlen,Nat.le_trans h.mS (by grind),Nat.le_trans h.an bc.an,h.kZ,fb⟩
  ·rw[ej];show a0 F (br.env b1 dK) ((if br.bb=true then S.g.map aL.kI else S.g).getD t .bT) ((s.g t).sub s'.bb);cases he:br.bb with
   |true=>
    rw[if_pos rfl];have e:(S.g.map aL.kI).getD t .bT=(S.get t).kI:=getD_map (by rfl) t;rw[e];exact Oy (E:=S.env ρ ids) (E':=br.env b1 dK) _ nY nt (h.slot t)
   |false=>
    rw[if_neg (by simp),bc.bb (.inl he)];have hle:(S.env ρ ids).le (br.env b1 dK):=by
     have aU:∀k a,S.bd.getD k none=some a->k<S.bd.length:=λk a au=>by grind
     refine⟨nY,λk a au=>?_,nt,λk a au=>?_⟩
     ·have:=(bc.eP he k (by rw[hb];exact aU k a au)).1;exact this.trans au
     ·exact(bc.eP he k (by rw[hb];exact aU k a au)).2
    exact a0.mono hle (h.slot t)
  ·rcases Hn he with he|he
   ·exact h.kY e he
   ·exact bc.kY e he
  ·show gV s.bg.a s.bb s'.bb=[];have aK:s.bb=[]:=h.bb (A9 he);rw[aK,Ha];rcases he with he|he
   ·have:(S.bb||br.bb)=false:=he;simp  at this;rw[bc.bb (.inl this.2)];rfl
   ·refine Da λe vC=>?_;rw[h.bg,←he];exact(bc.kY e vC).1
  ·have:(S.bb||br.bb)=false:=he;simp  at this;have gx:S.base<=k:=aq;rcases Nat.lt_or_ge k S.bd.length with ak|ak
   ·have:=(bc.eP this.2 k (by grind)).2;exact h.new ‹S.bb=false/\_›.1 k id (this.symm.trans cr) gx
   ·exact Nat.le_trans h.an (bc.new this.2 k id cr (by grind))
  ·have:(S.bb||br.bb)=false:=he;simp  at this;have gx:k<S.base:=aq;obtain⟨k1,bf⟩:=bc.eP this.2 k (by rw[hb];exact Nat.lt_of_lt_of_le gx h.lG);obtain⟨bP,cX⟩:=h.eP this.1 k gx;exact⟨k1.trans bP,bf.trans cX⟩
 ·show(if br.bb=true then S.g.map aL.kI else S.g).length=S.g.length;grind
theorem acB(h:Rel F S ρ ids s)(bc:Rel (F.sub S ρ ids s s.c7) br b1 dK s'):s'.m.rc=List.zipWith cj.now br.ys F.cV.ys++F.kv:=by
 rw[bc.rc.rc];show List.zipWith cj.now br.ys s.c7++F.kv=_;rw[sE h.bg,wx]
theorem acC(h:Rel F S ρ ids s)(bc:Rel (F.sub S ρ ids s s.c7) br b1 dK s')(nY:ρ<+:b1)(hb:br.base=S.bd.length)(tk:br.dO=S.bx.length)(tw:br.ys.map cj.core=S.ys.map cj.core)(nt:S.bx.length<=br.bx.length):
  Rel F (S.back br) b1 dK (s.after s'.bb s'.m)/\Ext S ρ (S.back br) b1:=by
 have fb:=h.rc.Gf tw nY;rw[←acB h bc]at fb;exact HI h bc nY hb tk nt rfl (λi b hb=>Jp (Hm h.bg S ρ ids) (bc.box i b hb)) fb tw
theorem IS(ad:Rel F S ρ ids s):∀{l:List ResultVar}{af:List aL},pA X S l=some af->∃bz,q9 X.P s l=some bz/\jd F (S.env ρ ids) af bz
 |[],af,h=>by
  simp[pA]at h;subst h;exact⟨[],rfl,rfl⟩
 |.tmp t::l,af,h=>by
  obtain⟨cB,U,rfl⟩:=Option.map_eq_some_iff.1 h;obtain⟨bz,ab,al⟩:=IS ad U;exact⟨_,by grind [q9,uQ],_,_,rfl,ad.slot t,al⟩
 |.cell x t::l,af,h=>by
  simp only[pA]at h;split at h
  ·rename_i i off aj;split at h
   ·rename_i v cB ai e0;injection h with h;subst h;obtain⟨bz,ab,al⟩:=IS ad e0;obtain⟨q,aJ,bm⟩:=Px (m0:=s.m) (lx:=none) ad rfl ai;have hB:=ad.slot x;unfold a0 at hB;exact⟨_,by grind [q9,uQ],_,_,rfl,bm,al⟩
   ·cases h
  ·cases h
theorem Es(ad:Rel F S ρ ids s){l:List ResultVar}{af:List aL}(h:pA X S l=some af):∃q,pt X.P s l=some q/\a0 F (S.env ρ ids) (pB af) q:=by
 obtain⟨bz,U,ab⟩:=IS ad h;have bD:∀{af:List aL}{bz:List aa},jd F (S.env ρ ids) af bz->hk F (S.env ρ ids) af bz:=by
  intro af;induction af with
  |nil=>intro bz h;exact h
  |cons v af az=>
   intro bz h;obtain⟨q,r,rfl,g1,a2⟩:=h;grind [hk]
 unfold pt;rw[U]
 match af,bz,ab with
 |[],[],_=>grind [pB,a0]
 |[v],[q],ab=>
  obtain⟨dF,r,e,g1,a2⟩:=ab;injection e with aK aO;subst aK;exact⟨q,rfl,g1⟩
 |v::u::af,q::p::bz,ab=>grind [pB,a0]
 |[],q::bz,ab=>cases ab
 |v::af,[],ab=>obtain⟨_,_,e,_⟩:=ab;cases e
 |[v],q::p::bz,ab=>
  obtain⟨dF,r,e,g1,a2⟩:=ab;injection e with aK aO;subst aO;cases a2
 |v::u::af,[q],ab=>
  obtain⟨dF,r,e,g1,a2⟩:=ab;injection e with aK aO;subst aO;obtain⟨_,_,e,_⟩:=a2;cases e
end
end
section
open Go Go.RowKit
variable[cQ]
section
variable{X:Ctx}{W:Hints}{F:cP}{C:b2->FuncId->List aa->Option aa}{n:Nat}{S br:Sym}{ρ b1:List aa}{ids dK:Nat->Option Nat}{s s':aA}
theorem HJ(ys:List cj)(y:Nat)(b:Bool)(e:Option (Option Nat)):(tg ys y b e).map cj.core=ys.map cj.core:=by
 unfold tg;split
 ·rename_i r ad;refine List.ext_getElem? λi=>?_;simp only[List.getElem?_map,List.getElem?_set];split
  ·rename_i hi;subst hi;split
   ·rw[ad];rfl
   grind
  ·rfl
 ·rfl
theorem D6{α:Type}:∀{L:List α}{i:Nat}{x:α}(_:L[i]?=some x)(bk:α),L=L.take i++x::L.drop (i+1)/\L.set i bk=L.take i++bk::L.drop (i+1)
 |[],i,x,h,bk=>by simp at h
 |a::L,0,x,h,bk=>by grind
 |a::L,i+1,x,h,bk=>by
  obtain⟨U,ab⟩:=D6 (L:=L) (i:=i) (by simpa using h) bk;grind
theorem Py:∀{ys:List cj}{l:List eN}{y:Nat}{r:cj}{eE:eN}(_:ys[y]?=some r)(_:l[y]?=some eE)(b:Bool)(e:Option (Option Nat)),List.zipWith cj.now (ys.set y { r with pend:=e,busy:=b }) l=(List.zipWith cj.now ys l).set y (cj.now { r with pend:=e,busy:=b } eE)
 |[],l,y,r,eE,h,_,b,e=>by simp at h
 |a::ys,[],y,r,eE,_,h,b,e=>by simp at h
 |a::ys,c::l,0,r,eE,h,bc,b,e=>by simp_all
 |a::ys,c::l,y+1,r,eE,h,bc,b,e=>by
  simp ;rw[Py (by grind) (by simpa using bc) b e]
theorem Iq{ys:List cj}{rc:List (Nat×Loop)}(h:lW F ys ρ rc){y:Nat}{r:cj}{eE:eN}(aF:ys[y]?=some r)(ad:F.cV.ys[y]?=some eE):
  ∃rc1 rc2,rc=rc1++cj.now r eE::rc2/\(∀p∈rc1++rc2,p.1≠eE.l)/\∀b e,List.zipWith cj.now (tg ys y b e) F.cV.ys++F.kv=rc1++cj.now { r with pend:=e,busy:=b } eE::rc2:=by
 have dg:(List.zipWith cj.now ys F.cV.ys)[y]?=some (cj.now r eE):=by grind
 have get:∀(i:Nat) p,(List.zipWith cj.now ys F.cV.ys)[i]?=some p->i≠y->p.1≠eE.l:=by
  intro i p ae hi;simp only[List.getElem?_zipWith]at ae;cases U:ys[i]? with
  |none=>grind
  |some jh=>
   cases ab:F.cV.ys[i]? with
   |none=>grind
   |some eh=>
    rw[U,ab]at ae;simp  at ae;subst ae;exact λe=>hi (h.ne i y eh eE ab ad e)
 refine⟨(List.zipWith cj.now ys F.cV.ys).take y,(List.zipWith cj.now ys F.cV.ys).drop (y+1)++F.kv,?_,λp ae=>?_,λb e=>?_⟩
 ·have:=(D6 dg (cj.now r eE)).1;rw[h.rc,←List.cons_append,←List.append_assoc,←this]
 ·simp  at ae;rcases ae with ae|ae|ae
  ·grind [List.mem_iff_getElem?]
  ·grind [List.mem_iff_getElem?]
  ·exact h.zK eE (List.mem_of_getElem? ad) p ae
 ·have aK:tg ys y b e=ys.set y { r with pend:=e,busy:=b }:=by grind [tg]
  rw[aK,Py aF ad b e,(D6 dg (cj.now { r with pend:=e,busy:=b } eE)).2];simp
theorem adZ(h:Rel F S ρ ids s){Y:List cj}{rc:List (Nat×Loop)}(fb:lW F Y ρ rc):Rel F ({ S with ys:=Y }:Sym) ρ ids { s with m:={ s.m with rc:=rc } }:=
 ⟨h.len,h.cU,h.slot,h.dt,h.old,h.box,h.hO,h.mv,h.arr,h.bg,h.cV,h.kY,h.bb,h.new,h.eP,h.dO,h.lG,h.mS,h.an,h.kZ,fb⟩
def IT(X:Ctx)(C:b2->FuncId->List aa->Option aa)(n:Nat)(inl:fh):Prop:=
 ∀(F:cP)(R:Out->Prop)(key:Nat)(g:FuncId)(args:List aL)(K:aL->Sym->M)(S:Sym)(ρ:List aa)(ids:Nat->Option Nat)(t:Tree)(bz:List aa)(ys:List eN)(m:Mem),
  F.P=X.P->jq X.P F.DI C->mu X.P F.DI X.hI->p7 X F.DI C->inl key g args S K=.ok t->args.length=bz.length->(∀N site,Rel F (S.sub (args++List.replicate (N-args.length) .undef) site) ρ ids (wE ys bz m))->bN X.P C n t ρ R ->
  qR X.P ys g bz m λq E m'=>∃v br b1 dK s' bw,E=s'.bb/\m'=s'.m/\K v (S.back br)=.ok bw/\Rel F br b1 dK s'/\a0 F (br.env b1 dK) v q/\bN X.P C n bw b1 R/\∃g site,Ext (S.sub g site) ρ br b1
theorem Mp{inl:fh}(h:IT X C n inl):JR X C n inl:=by
 intro F R key g args K S ρ ids s t bz aw hC gq fe bq ad au aB;refine(h (F.sub S ρ ids s s.c7) R key g args K S ρ ids t bz s.c7 s.m aw hC gq fe bq (AV au).1 (λN site=>acA ad au N site) aB).mono ?_;rintro q E m' ⟨v,br,b1,dK,s',bw,rfl,rfl,k1,bf,bP,cX,g0,site,fi⟩;obtain⟨fj,gB⟩:=acC ad bf fi.pre fi.base fi.dO fi.ys fi.bx;exact⟨v,_,b1,dK,bw,k1,fj,yV (Hm ad.bg S ρ ids) bP,cX,gB⟩
theorem XT(l:List aL)(t:Nat):((l.map aL.kI).getD t .bT).jS=(l.map aL.kI).getD t .bT:=by grind [ME,aL.jS]
theorem Mq{inl:fh}(iM:IT X C n inl):SS X C n inl:=by
 intro F R f bq ps a b p K S ρ ids s t aw hC gq fe h ad aB;unfold HK at h;split at h
 ·rename_i g caps aN;split at h
  ·rename_i fn dX;split at h
   ·cases h
   ·rename_i hs;have eH:=ad.ay bq;rw[aN]at eH;unfold a0 at eH;obtain⟨aG,e,ak⟩:=eH;have hlen:=ad.rc.len;have mB:=QN ad.bg;refine VQ (rc1:=List.zipWith cj.now S.ys F.cV.ys) (rc2:=F.kv) e ⟨fn,dX,λe=>hs (.inl e),(by cases hb:fn.body<;>simp[hb]at hs⊢)⟩ ad.rc.rc ?_;intro l o U ab al aJ bm bI cS et gp;have mH:=Dy ad.bg S ρ ids [⟨l,o,s.g⟩];have FB:=EM ad;have agD:cj.now ⟨S.g.map aL.kI,f,ps.toList,a,b,p,none,false⟩ ⟨l,o,s.g⟩=(l,o):=by
     obtain⟨st,mJ,cC,amO,pa,amU,amP,amQ⟩:=o;simp only at aJ bm;subst aJ;subst bm;rfl
    have c1:∀(i:Nat) r,s.c7[i]?=some r->r.l≠l:=λi r hi=>by
     have aU:=(List.getElem?_eq_some_iff.1 hi).1;have aF:S.ys[i]?=some S.ys[i]:=by simp
     have hm:(List.zipWith cj.now S.ys s.c7)[i]?=some (cj.now S.ys[i] r):=by grind
     refine gp (cj.now S.ys[i] r) ?_;have aK:s.m.rc=List.zipWith cj.now S.ys s.c7++F.kv:=FB.rc;grind
    have fb:lW (F.sub S ρ ids s (s.c7++[⟨l,o,s.g⟩])) (S.ys++[⟨S.g.map aL.kI,f,ps.toList,a,b,p,none,false⟩]) ρ (List.zipWith cj.now S.ys F.cV.ys++(l,o)::F.kv):=by
     refine⟨List.prefix_refl _,by show _=(s.c7++_).length;simp;omega,?_,λi y r aF j3=>?_,λi j r bR hi aC sh=>?_,λr j3 q aH=>?_⟩
     ·show _=List.zipWith cj.now _ (s.c7++_)++F.kv;rw[List.zipWith_append (by omega),sE ad.bg,wx];simp[agD]
     ·have j3:(s.c7++[⟨l,o,s.g⟩])[i]?=some r:=j3;rcases Nat.lt_or_ge i S.ys.length with hi|hi
      ·rw[List.getElem?_append_left hi]at aF;rw[List.getElem?_append_left (by omega),sE ad.bg]at j3;simp only[aA.qZ,List.getElem?_map]at j3;obtain⟨r0,U,rfl⟩:=Option.map_eq_some_iff.1 j3;exact IQ ad (ad.rc.y i y r0 aF U) _
      ·rw[List.getElem?_append_right hi]at aF;rw[List.getElem?_append_right (by omega)]at j3;have jX:i-S.ys.length=0:=by
        have:=(List.getElem?_eq_some_iff.1 aF).1;simp at this;omega
       rw[jX]at aF;rw[show i-s.c7.length=0 by omega]at j3;simp at aF j3;subst aF;subst j3;refine⟨by show o.params.toList=_;rw[U],ab,al,bI,cS,et,XT S.g,λt=>?_⟩;have aK:(S.g.map aL.kI).getD t .bT=(S.get t).kI:=getD_map (by simp[aL.kI,aL.owns]) t;rw[aK];have hb:=ad.dt;have:=Oy (F:=F) (E:=S.env ρ ids) (E':=⟨ρ,[],s.m.n-F.n0,λ_=>none⟩) [] (List.prefix_refl _) (by show S.bx.length<=s.m.n-F.n0;omega) (ad.slot t);exact yV mH this
     ·have key:∀(i:Nat) r,(s.c7++[⟨l,o,s.g⟩])[i]?=some r->s.c7[i]?=some r\/(i=s.c7.length/\r.l=l):=λi r hi=>by
       rcases Nat.lt_or_ge i s.c7.length with h|h
       ·rw[List.getElem?_append_left h]at hi;exact .inl hi
       ·rw[List.getElem?_append_right h]at hi;have jX:i-s.c7.length=0:=by
         have:=(List.getElem?_eq_some_iff.1 hi).1;simp at this;omega
        rw[jX]at hi;simp at hi;subst hi;exact .inr ⟨by omega,rfl⟩
      rcases key i r hi with hi|⟨hi,oN⟩<;>rcases key j bR aC with aC|⟨aC,tl⟩
      ·exact FB.ne i j r bR hi aC sh
      ·exact absurd (sh.trans tl) (c1 i r hi)
      ·exact absurd (sh.symm.trans oN) (c1 j bR aC)
      ·omega
     ·have j3:r∈s.c7++[⟨l,o,s.g⟩]:=j3;simp only[List.mem_append,List.mem_singleton]at j3;rcases j3 with j3|rfl
      ·exact FB.zK r j3 q aH
      ·have aH:q∈F.kv:=aH;exact gp q (by rw[ad.rc.rc];exact List.mem_append_right _ aH)
    have qb:jd (F.sub S ρ ids s (s.c7++[⟨l,o,s.g⟩])) (S.env ρ ids) (.cq S.ys.length::caps) (.cq l::aG):=by
     refine⟨_,_,rfl,?_,Er mH (yj ak)⟩;simp only[a0];refine⟨l,?_,rfl⟩;show(s.c7++[⟨l,o,s.g⟩])[S.ys.length]?.map eN.l=some l;rw[List.getElem?_append_right (by omega),show S.ys.length-s.c7.length=0 by omega];rfl
    have bQ:=(AV qb).1;refine(iM (F.sub S ρ ids s (s.c7++[⟨l,o,s.g⟩])) R _ g _ _ ({ S with ys:=S.ys++[⟨S.g.map aL.kI,f,ps.toList,a,b,p,none,false⟩] }:Sym) ρ ids t (.cq l::aG) (s.c7++[⟨l,o,s.g⟩]) { s.m with rc:=List.zipWith cj.now S.ys F.cV.ys++(l,o)::F.kv } aw hC gq fe h bQ (λN site=>Ip ad mH fb (QO qb N) site) aB).mono ?_;rintro q E m' ⟨v,br,b1,dK,s',bw,rfl,rfl,k1,bf,bP,cX,g0,site,fi⟩;have k1:(match br.ys[S.ys.length]? with
     |some y=>if y.busy then die "range" else K (xl y.pend) { S.back br with bx:=br.bx.map (ga.map (aL.qx S.ys.length)),ys:=br.ys.take S.ys.length }
     |none=>die "range")=.ok bw:=k1
    split at k1
    ·rename_i mK vm;split at k1
     ·cases k1
     ·rename_i JF;have BG:br.ys.map cj.core=(S.ys++[(⟨S.g.map aL.kI,f,ps.toList,a,b,p,none,false⟩:cj)]).map cj.core:=fi.ys;have afe:br.ys.length=S.ys.length+1:=by
       have:=congrArg List.length BG;simpa using this
      have tw:br.ys=br.ys.take S.ys.length++[mK]:=by
       have:=(D6 vm mK).1;rwa[List.drop_eq_nil_of_le (by omega)]at this
      have SU:(br.ys.take S.ys.length).map cj.core=S.ys.map cj.core:=by rw[List.map_take,BG,List.map_append,←@List.length_map _ _ S.ys cj.core,List.take_left]
      have agE:s'.m.rc=List.zipWith cj.now (br.ys.take S.ys.length) F.cV.ys++cj.now mK ⟨l,o,s.g⟩::F.kv:=by
       rw[bf.rc.rc];show List.zipWith cj.now br.ys (s.c7++[⟨l,o,s.g⟩])++F.kv=_;rw[show List.zipWith cj.now br.ys (s.c7++[⟨l,o,s.g⟩])=List.zipWith cj.now (br.ys.take S.ys.length++[mK]) (s.c7++[⟨l,o,s.g⟩])from by rw[←tw],List.zipWith_append (by simp;omega),sE ad.bg,wx];simp 
      have bU:∀p∈List.zipWith cj.now (br.ys.take S.ys.length) F.cV.ys++F.kv,p.1≠l:=by
       intro p ae;simp only[List.mem_append]at ae;rcases ae with ae|ae
       ·obtain⟨i,hi⟩:=List.mem_iff_getElem?.1 ae;rw[←wx (s:=s),←sE ad.bg]at hi;simp only[List.getElem?_zipWith]at hi;cases ab:s.c7[i]? with
        |none=>rw[ab]at hi;cases al:(br.ys.take S.ys.length)[i]?<;>rw[al]at hi<;>simp at hi
        |some eh=>
         cases al:(br.ys.take S.ys.length)[i]? with
         |none=>rw[ab,al]at hi;simp at hi
         |some jh=>
          rw[ab,al]at hi;simp only[Option.some.injEq]at hi;subst hi;exact c1 i eh ab
       ·exact gp p (by rw[ad.rc.rc];exact List.mem_append_right _ ae)
      obtain⟨fj,gB⟩:=HI (bx:=br.bx.map (ga.map (aL.qx S.ys.length))) (Y:=br.ys.take S.ys.length) ad bf fi.pre fi.base fi.dO fi.bx (by simp) (λi b hb=>by
       rw[List.getElem?_map]at hb;obtain⟨gf,ix,rfl⟩:=Option.map_eq_some_iff.1 hb;exact adY (Zi ad.bg S ρ ids _ (by omega)) (bf.box i gf ix)) (ad.rc.Gf SU fi.pre) SU
      refine⟨if mK.busy then .busy else if mK.pend.isSome then .done else .ready,xl mK.pend,_,_,agE,?_,bU,_,b1,dK,bw,k1,fj,cX,gB⟩;rw[if_neg JF];split<;>simp
    ·cases k1
  ·cases h
 ·cases h
theorem RL{F:cP}{E:Env}:∀(ps:List Nat)(args:List aL)(bz:List aa)(g:List aL)(jg:Nat->aa),jd F E args bz->(∀t,a0 F E (g.getD t .bT) (jg t))->∀t,a0 F E ((y2 g ps args).getD t .bT) (uR jg ps bz t)
 |[],args,bz,g,jg,_,h=>by simp_all[y2,uR]
 |p::ps,[],bz,g,jg,au,h=>by simp_all[jd,y2,uR]
 |p::ps,v::args,bz,g,jg,au,h=>by
  obtain⟨q,r,rfl,U,ab⟩:=au;refine RL ps args r (g.set p v) _ ab λt=>?_;grind [a0]
theorem acD(e:eJ):xl (sO e)=e:=by cases e<;>rfl
theorem Zj(e:eJ):(sO e).isSome=!(iH e).isNone:=by cases e<;>rfl
theorem QP(hm:X.P.follows .mixedOrders=true):∀d,IT X C n (vf X W d)/\JS X C n (vg X W d)
 |0=>⟨λF R key g args K S ρ ids t bz ys m aw hC gq fe h hlen lU aB=>(by trivial),λF R key y args K S ρ ids s t bz aw hC gq fe h ad au aB=>(by trivial)⟩
 |d+1=>by
  obtain⟨zD,tE⟩:=QP hm d;have aq:∀{DI},jq X.P DI C->mu X.P DI X.hI->p7 X DI C->ri X DI C n (vf X W d) (vg X W d):=λhC gq fe=>⟨hC,gq,Mp zD,tE,Mq zD,fe⟩;refine⟨λF R key g args K S ρ ids t bz ys m aw hC gq fe h hlen lU aB=>?_,λF R key y args K S ρ ids s t bz aw hC gq fe h ad au aB=>?_⟩
  ·simp only[vf]at h;split at h
   ·cases h
   ·rename_i fn dX;split at h
    ·cases h
    ·rename_i c ah;split at h
     ·cases h
     ·rename_i aV;simp  at aV;split at h
      ·cases h
      ·have Kq:=o8 (X:=X) (F:=F) aw hm (aq hC gq fe) c h (lU fn.ntmps (S.site*1000000+key+1)) aB;refine Mi dX ah (by omega) aV.1.1 aV.1.2 (oZ Kq λe s' ao=>?_);obtain⟨br,b1,dK,bw,aK,aO,bS,b8⟩:=ao;have key:(match pA X br fn.results.toList with
         |some af=>K (pB af) (S.back br)
         |none=>die "x")=.ok bw->∃pv,pt X.P s' fn.results.toList=some pv/\∃kS m',leaves s' pv kS m m'/\∃v pK pL uZ l6 tO,s'.bb=l6.bb/\m'=l6.m/\K v (S.back pK)=.ok tO/\Rel F pK pL uZ l6/\a0 F (pK.env pL uZ) v kS/\bN X.P C n tO pL R/\∃g site,Ext (S.sub g site) ρ pK pL:=λU=>by
        split at U
        ·rename_i af e0;obtain⟨q,g1,a2⟩:=Es (X:=X) aO e0;exact⟨q,g1,q,s'.m,.inl ⟨rfl,rfl⟩,_,br,b1,dK,s',bw,rfl,rfl,U,aO,a2,bS,_,_,b8⟩
        ·cases U
       cases e with
       |normal=>grind
       |exit i=>cases aK
       |ret=>grind
  ·simp only[vg]at h;split at h
   ·cases h
   ·rename_i r aF;split at h
    ·cases h
    ·rename_i ah;simp  at ah;obtain⟨dS,c2,c3,c4,ot⟩:=ah;split at h
     ·cases h
     ·have agF:=(List.getElem?_eq_some_iff.1 aF).1;have aU:y<F.cV.ys.length:=by rw[←ad.rc.len];exact agF
      have j3:F.cV.ys[y]?=some F.cV.ys[y]:=by simp
      generalize F.cV.ys[y]=zM at j3;have Cr:s.c7[y]?=some { zM with g:=λt=>(zM.g t).sub s.bb }:=by rw[sE ad.bg];simp[aA.qZ,j3]
      have mA:=IQ ad (ad.rc.y y r zM aF j3) [];rw[List.append_nil]at mA;generalize agG:({ zM with g:=λt=>(zM.g t).sub s.bb }:eN)=eE at Cr mA;have n9:eE.l=zM.l:=by rw[←agG]
      have mH:rj F (F.sub S ρ ids s s.c7):=by have:=Dy ad.bg S ρ ids [];rwa[List.append_nil]at this
      have amf:=(AV au).1;have zd:eE∈s.c7:=List.mem_of_getElem? Cr;obtain⟨amg,amh,cy,dM,gC⟩:=Iq (EM ad) aF (show(F.sub S ρ ids s s.c7).cV.ys[y]?=some eE from Cr);have SV:eE.o.params.toList.length=bz.length:=by rw[mA.ps];omega
      refine⟨eE,.ready,none,zd,by rw[j3,n9];rfl,?_,by rw[←SV];simp,?_⟩
      ·rw[cy];have:cj.now r eE=(eE.l,{ eE.o with state:=.ready,pending:=none }):=by simp[cj.now,dS,c2,xl,iH]
       rw[this];simp
      refine VO zd (by rw[mA.ps];exact mA.lt) SV (by rw[mA.kV];exact mA.LY) (by rw[mA.body];exact mA.LZ) (by rw[mA.kV];exact c4) (by rw[mA.body];exact ot) ?_;have lU:Rel (F.sub S ρ ids s s.c7) (S.sub (y2 r.g r.ps args) (S.site*1000000+key+1)) ρ ids (ED s.c7 eE.g eE.o.params.toList bz s.m):=by
       refine Ip ad mH (EM ad) (λt=>?_) _;rw[mA.ps];refine RL r.ps args bz r.g eE.g (Er mH au) (λt=>?_) t;have hb:=ad.dt;have:=(Im (F:=F.sub S ρ ids s s.c7) (E:=⟨ρ,[],s.m.n-F.n0,λ_=>none⟩) (E':=S.env ρ ids) [] (List.prefix_refl _) (by show s.m.n-F.n0<=S.bx.length;omega)).ow (mA.g t);rwa[mA.own t]at this
      have aff:=o8 (X:=X) (F:=F.sub S ρ ids s s.c7) aw hm (aq hC gq fe) r.kV h lU aB;rw[mA.kV];refine oZ aff λe s1 kQ=>?_;obtain⟨ba,bY,kP,t1,aK,aO,bS,b8⟩:=kQ;cases e with
      |exit i=>cases aK
      |ret=>cases aK
      |normal=>
       refine⟨rfl,?_⟩;simp only at aK;split at aK
       ·rename_i eh vz;split at aK
        ·cases aK
        ·rename_i hA;simp  at hA;obtain⟨rc1,rc2,gr,p2,p3⟩:=Iq aO.rc vz (show(F.sub S ρ ids s s.c7).cV.ys[y]?=some eE from Cr);have afg:cj.now eh eE=(eE.l,{ eE.o with state:=.ready,pending:=none }):=by simp[cj.now,hA.1,hA.2,xl,iH]
         refine⟨rc1,rc2,none,by rw[gr,afg],p2,?_⟩;have TD:=aO.rc.Gf (HJ ba.ys y true none) (List.prefix_refl bY);have aiK:=p3 true none;rw[aiK]at TD;have afh:=o8 (X:=X) (F:=F.sub S ρ ids s s.c7) aw hm (aq hC gq fe) r.body aK (adZ aO TD) bS;rw[mA.body];refine oZ afh λe s2 Lq=>?_;obtain⟨br,b1,dK,bw,f1,f2,f3,f4⟩:=Lq;have BG:br.ys.map cj.core=S.ys.map cj.core:=(f4.ys.trans (HJ ba.ys y true none)).trans b8.ys;have afe:br.ys.length=S.ys.length:=by
          have:=congrArg List.length BG;simpa using this
         have ir:br.ys[y]?=some br.ys[y]:=by simp
         obtain⟨nZ,n1,j7,iD,L0⟩:=Iq f2.rc ir (show(F.sub S ρ ids s s.c7).cV.ys[y]?=some eE from Cr);have nY:ρ<+:b1:=b8.pre.trans f4.pre;have SW:(tg br.ys y false (sO e)).map cj.core=S.ys.map cj.core:=(HJ br.ys y false (sO e)).trans BG;have TE:=ad.rc.Gf SW nY;have Gg:=L0 false (sO e);have Gg:List.zipWith cj.now (tg br.ys y false (sO e)) s.c7++F.kv=nZ++cj.now { br.ys[y]with pend:=sO e,busy:=false } eE::n1:=Gg;rw[sE ad.bg,wx]at Gg;rw[Gg]at TE;obtain⟨fj,gB⟩:=HI ad f2 nY (f4.base.trans b8.base) (f4.dO.trans b8.dO) (Nat.le_trans b8.bx f4.bx) rfl (λi b hb=>Jp (Hm ad.bg S ρ ids) (f2.box i b hb)) TE SW;have afi:cj.now { br.ys[y]with pend:=sO e,busy:=false } eE=(eE.l,{ eE.o with state:=if(iH e).isNone then .ready else .done,pending:=iH e }):=by
          simp only[cj.now,acD,Zj];cases(iH e).isNone<;>rfl
         rw[afi]at fj;refine⟨nZ,n1,_,_,j7,iD,_,_,b1,dK,bw,f1,fj,?_,f3,gB⟩;unfold a0;exact⟨rfl,rfl⟩
       ·cases aK
end
end
end Go.Proofs.YtlminnpaeaganaaGreat
