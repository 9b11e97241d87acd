/- Part of the proof of RuleKnown. No condition. -/
import Derived.Test.YtlminnpaeaganaaGreatMKnownAV
namespace Go.Proofs.YtlminnpaeaganaaGreat
set_option maxRecDepth 100000
set_option linter.all false
section
open Go Go.RowKit
variable[cQ]
section
variable{X:Ctx}{W:Hints}{F:cP}{C:b2->FuncId->List aa->Option aa}{n:Nat}{inl yl:fh}{f:FuncId}
theorem adX{S:Sym}{ρ:List aa}{ids:Nat->Option Nat}{s:aA}(h:Rel F S ρ ids s)(l:Nat):Rel F { S with ey:=l } ρ ids s:=
 ⟨h.len,h.cU,h.slot,h.dt,h.old,h.box,h.hO,h.mv,h.arr,h.a0,h.cV,h.kY,h.bb,h.new,h.keep,h.dO,h.lG,h.mS,h.an,h.kZ,h.rc⟩
theorem RH{S br:Sym}{ρ b1:List aa}{l:Nat}(h:Ext { S with ey:=l } ρ br b1):Ext S ρ br b1:=⟨h.pre,h.base,h.dO,h.site,h.ey,h.ys,h.bx,h.g⟩
theorem QI{b4:mz}{ba S:Sym}{bY ρ:List aa}{kP ids:Nat->Option Nat}{s1 s:aA}{L:Nat}{CR:String}{t:Tree}{J:List aa->Prop}{R:Out->Prop}(U:Rel F ba bY kP s1)(ad:Rel F S ρ ids s)(aj:Ext ba bY S ρ)
  (h:FA b4 ba (oC b4 ba) S L CR=.ok t) (aB:bN X.P C n t ρ (fV L J R)):
  ∃s2 af idsH,dW s s2/\Rel F (oC b4 ba) (bY++af) idsH s2/\Ext ba bY (oC b4 ba) (bY++af)/\J af:=by
 obtain⟨s2,gr,p2,ji,kD,oH,t2,f1,f2,f3,f4⟩:=o2 (X:=X) h ad aB;simp only[]at f1;split at f1
 ·rename_i af e0;injection f1 with f1;obtain⟨a7,bz,ck,rfl,aQ⟩:=Ny e0;obtain⟨g1,g2,g3⟩:=RB U f2 (aj.trans f4) (MD b4 ba) rfl aQ;refine⟨_,_,_,gr.trans g1,g2,g3,?_⟩;obtain⟨o,ar,cn⟩:=f3 gP;grind [eval,fV]
 ·cases f1
theorem En{p:Nat}{c:Code}{run:Sym->(eJ->Sym->M)->M}
  (ah:∀{S:Sym}{ρ:List aa}{ids:Nat->Option Nat}{s:aA}{t:Tree}{R:Out->Prop}{K:eJ->Sym->M},run S K=.ok t->Rel F S ρ ids s->bN X.P C n t ρ R->ff X.P c s λe s'=>hS X F C n R (K e) S ρ s')
  {S:Sym} {ρ:List aa} {ids:Nat->Option Nat} {s:aA} {t:Tree} {R:Out->Prop} {K:eJ->Sym->M} (h:y1 W p S run K=.ok t) (ad:Rel F S ρ ids s) (aB:bN X.P C n t ρ R):ff X.P c s λe s'=>hS X F C n R (K e) S ρ s':=by
 unfold y1 at h;split at h
 ·grind
 ·obtain⟨s1,cy,dM,ba,bY,kP,t1,U,ab,al,aJ⟩:=o2 (X:=X) h ad aB;obtain⟨body,hb,U⟩:=yH U;obtain⟨k,aq,U⟩:=yH U;injection U with U;subst U;have:=ah hb (adX ab _) (aaP al);refine GP cy (GZ (oZ this λe s' ao=>?_));obtain⟨br,b1,dK,bw,aK,aO,bS,b8⟩:=ao;have low:∀e,xk ba.ey (K e br)=.ok bw->∃s1,dW s' s1/\hS X F C n R (K e) S ρ s1:=λe aK=>by
   obtain⟨en,l9⟩:=QH aK;exact⟨s',dW.refl s',br,b1,dK,bw,en,aO,QG l9 bS,aJ.trans (RH b8)⟩
  cases e with
  |normal=>
   obtain⟨s2,af,idsH,g1,g2,g3,g4⟩:=QI (X:=X) ab aO (RH b8) aK bS;exact⟨s2,g1,_,_,idsH,k,aq,g2,g4,aJ.trans g3⟩
  |exit i=>grind
  |ret=>grind
theorem acx{q:Nat}{x:Code}{b4:mz}{ba:Sym}{bY:List aa}{kP:Nat->Option Nat}{s1:aA}{L:Nat}{body:Tree}{CR:String}{R:Out->Prop}{K:eJ->Sym->M}{Ge:List aa}{idsH:Nat->Option Nat}{s2:aA}
  (ah:∀{S:Sym}{ρ:List aa}{ids:Nat->Option Nat}{s:aA}{t:Tree}{R:Out->Prop}{K:eJ->Sym->M},comp X W inl yl f x q S K=.ok t->Rel F S ρ ids s->bN X.P C n t ρ R->ff X.P x s λe s'=>hS X F C n R (K e) S ρ s')
  (h:comp X W inl yl f x q (oC b4 ba) (λe br=>match e with
     |.normal=>FA b4 ba (oC b4 ba) br L CR
     |e=>xk L (K e br))=.ok body)
  (U:Rel F ba bY kP s1) (aj:Ext ba bY (oC b4 ba) (bY++Ge)) (ab:Rel F (oC b4 ba) (bY++Ge) idsH s2) (iM:Iter X.P C n L body bY R n Ge):
  ff X.P (.loop x) s2 λe s'=>hS X F C n R (K e) ba bY s':=by
 let J:Nat->aA->Prop:=λk s=>∃af ids,Rel F (oC b4 ba) (bY++af) ids s/\Iter X.P C n L body bY R k af;have AZ:∀s,∃k:Nat,(∃k,J k s)->J k s/\∀j,J j s->k<=j:=λs=>by
  by_cases h:∃k,J k s;all_goals simp_all[exists_least]
 let μ:aA->Nat:=λs=>Classical.choose (AZ s);have LH:∀s,(∃k,J k s)->J (μ s) s/\∀j,J j s->μ s<=j:=λs=>Classical.choose_spec (AZ s);refine Zg (λs=>∃k,J k s) μ ⟨n,Ge,idsH,ab,iM⟩ λs ao=>?_;obtain⟨⟨af,ids,g1,g2⟩,_⟩:=LH s ao;have hd:Ext ba bY (oC b4 ba) (bY++af):=⟨List.prefix_append _ _,aj.base,aj.dO,aj.site,aj.ey,aj.ys,aj.bx,aj.g⟩;cases aq:μ s with
 |zero=>grind [Zh]
 |succ k=>
  rw[aq]at g2;refine oZ (ah h g1 (aaR g2)) λe s' tv=>?_;obtain⟨br,b1,dK,bw,aK,aO,bS,b8⟩:=tv;have low:∀e,xk L (K e br)=.ok bw->hS X F C n R (K e) ba bY s':=λe aK=>by
   obtain⟨en,l9⟩:=QH aK;exact⟨br,b1,dK,bw,en,aO,QG l9 bS,hd.trans b8⟩
  cases e with
  |normal=>
   obtain⟨vM,cB,afd,k1,k2,bP,cX⟩:=QI (X:=X) U aO (hd.trans b8) aK bS;have LX:J k vM:=⟨cB,afd,k2,cX⟩;exact⟨vM,k1,⟨k,LX⟩,by have:=(LH vM ⟨k,LX⟩).2 k LX;omega⟩
  |exit i=>grind
  |ret=>grind
mutual
theorem aS.dh:∀{x y:aS},x.b y=true->x=y
 |.e x,y,h=>by
  cases y with
  |e y=>
   simp[aS.b]at h;grind [aR.dh]
  |_=>trivial
 |.agg l,y,h=>by cases y<;>simp[aS.b]at h;rw[nP h]
 |.bD l,y,h=>by cases y<;>simp[aS.b]at h;rw[nP h]
 |.lit a b l,y,h=>by cases y<;>simp[aS.b]at h;rw[h.1.1,h.1.2,nP h.2]
 |.fn f l,y,h=>by cases y<;>simp[aS.b]at h;rw[h.1,nP h.2]
 |.ref l,y,h=>by cases y<;>simp[aS.b]at h;rw[nP h]
theorem nP:∀{l m:List aS},lX l m=true->l=m
 |[],m,h=>by grind [lX]
 |x::l,m,h=>by
  cases m with
  |nil=>trivial
  |cons y m=>
   simp[lX]at h;rw[aS.dh h.1,nP h.2]
end
theorem QJ:∀{l m:List aa},BE l m=true->l=m
 |[],m,h=>by grind [BE]
 |x::l,m,h=>by
  cases m with
  |nil=>trivial
  |cons y m=>
   simp[BE]at h;rw[RI h.1,QJ h.2]
theorem acy:∀{x y:Option aS},BF x y=true->x=y
 |none,y,h=>by grind [BF]
 |some x,y,h=>by cases y<;>simp[BF]at h;rw[aS.dh h]
theorem Prim.dh{p q:Prim}(h:p.b q=true):p=q:=by
 cases p<;>cases q<;>simp[Prim.b]at h<;>simp 
 case bin=>grind [aS.dh]
 case un=>grind [aS.dh]
 case conv=>grind [aS.dh]
 case ext=>grind [aS.dh]
 case agg=>grind [aS.dh]
 case one=>exact aS.dh h
 case row=>grind [aS.dh]
 case idx=>grind [aS.dh]
 case len=>grind [aS.dh]
 case slice=>grind [aS.dh,acy]
 case iz=>grind [nP]
 case j2=>exact nP h
 case mk=>grind [QJ,aS.dh]
 case kX=>grind [aR.dh,aS.dh]
 case put=>grind [aR.dh,nP]
 case push=>grind [aR.dh,aS.dh]
 case deref=>grind [aS.dh]
 case cont=>grind [aS.dh]
 case wZ=>exact aS.dh h
 case ints=>exact aS.dh h
 case ins=>grind [aR.dh,nP]
 case keys=>grind [aS.dh]
 all_goals grind [aR.dh,e9.dh]
theorem Tree.dh:∀{t u:Tree},t.b u=true->t=u
 |.ret v,u,h=>by cases u<;>simp[Tree.b]at h;rw[aS.dh h]
 |.jump L l,u,h=>by cases u<;>simp[Tree.b]at h;grind [nP]
 |.av p t,u,h=>by cases u<;>simp[Tree.b]at h;rw[Prim.dh h.1,Tree.dh h.2]
 |.ite c x y,u,h=>by cases u<;>simp[Tree.b]at h;rw[aR.dh h.1.1,Tree.dh h.1.2,Tree.dh h.2]
 |.call g l t,u,h=>by cases u<;>simp[Tree.b]at h;rw[h.1.1,nP h.1.2,Tree.dh h.2]
 |.kL f l t,u,h=>by cases u<;>simp[Tree.b]at h;rw[aR.dh h.1.1,nP h.1.2,Tree.dh h.2]
 |.pick z c t,u,h=>by cases u<;>simp[Tree.b]at h;rw[h.1.1,aR.dh h.1.2,Tree.dh h.2]
 |.loop L i t,u,h=>by cases u<;>simp[Tree.b]at h;rw[h.1.1,nP h.1.2,Tree.dh h.2]
 |.join L x y,u,h=>by cases u<;>simp[Tree.b]at h;rw[h.1.1,Tree.dh h.1.2,Tree.dh h.2]
 |.die,u,h=>by grind [Tree.b]
theorem aaS{t:Tree}{x:M}(h:SR t x=true):x=.ok t:=by
 cases x with
 |ok u=>rw[Tree.dh (show t.b u=true from h)]
 |error e=>cases h
theorem Ox{P:Program}{ops:Array Oper}{K fy:aA->Prop}(aq:∀s,K s->fy s):∀(m:Nat)(l:Array Bool)(s:aA),ze P ops m l s K->ze P ops m l s fy
 |0,l,s,h=>⟨h.1,aq s h.2⟩
 |m+1,l,s,h=>⟨λe=>aq s (h.1 e),λi aX o ar=>pU (λs' bc=>Ox aq m _ s' bc) [o] s (h.2 i aX o ar)⟩
theorem RJ(aw:F.P=X.P)(aq:ri X F.DI C n inl yl){ops:Array Oper}{e2:Nat}{K:Sym->M}{R:Out->Prop}:∀(m:Nat)(l:Array Bool){S:Sym}{ρ:List aa}{ids:Nat->Option Nat}{s:aA}{t:Tree},wv X inl yl ops e2 m l S K=.ok t->Rel F S ρ ids s->bN X.P C n t ρ R->ze X.P ops m l s λs'=>hS X F C n R K S ρ s'
 |0,l,S,ρ,ids,s,t,h,ad,aB=>by
  simp only[wv]at h;split at h
  ·rename_i he;exact⟨he,S,ρ,ids,t,h,ad,aB,Ext.refl S ρ⟩
  ·cases h
 |m+1,l,S,ρ,ids,s,t,h,ad,aB=>by
  simp only[wv]at h;split at h
  ·exact⟨λ_=>⟨S,ρ,ids,t,h,ad,aB,Ext.refl S ρ⟩,λi aX=>(by grind)⟩
  ·obtain⟨t0,a1,h⟩:=yH h;split at h
   ·injection h with h;subst h;refine⟨λe=>(by grind),λj aC o ar=>?_⟩;have lR:EL X inl yl ops e2 S (λi S=>wv X inl yl ops e2 m (l.setIfInBounds i true) S K) j=.ok t0:=by grind [aaS]
    simp only[EL,ar]at lR;refine pU (λs' ao=>?_) [o] s (AU aw aq [o] j lR ad aB);obtain⟨br,b1,dK,bw,U,ab,al,aJ⟩:=ao;exact Ox (λvM h=>nL aJ h) m _ s' (RJ aw aq m _ U ab al)
   ·cases h
def gb(S br:Sym):Prop:=br={ S with g:=br.g,bx:=br.bx }
theorem rh(S:Sym)(d:Option Tmp)(v:aL):gb S (S.put d v):=by cases d<;>rfl
theorem gb.trans{S ba ji:Sym}(h:gb S ba)(k:gb ba ji):gb S ji:=by
 unfold gb at *;rw[k,h]
theorem QA(S:Sym)(e:b6):gb S (eV S e):=by
 cases e with
 |put d v=>exact rh S d v
 |anB d b k v=>exact rh S d v
 |st b k v=>
  simp only[eV];split<;>rfl
structure eU(es:List b6)(p:Nat->Prop)(S ba:Sym):Prop where
 rest:gb S ba
 uj:ba.bx.length=S.bx.length
 put:∀(i:Nat) e d v,es[i]?=some e->(e=.put (some d) v\/∃b k,e=.anB (some d) b k v)->p i->ba.get d=v
 old:∀t,(∀(i:Nat) e,es[i]?=some e->e.dst=some t->¬p i)->ba.get t=S.get t
 box:∀(b:Nat) cO,S.bx[b]?=some (ga.cells cO)->∃c,ba.bx[b]?=some (ga.cells c)/\c.length=cO.length/\(∀(i k:Nat) v,es[i]?=some (b6.st b k v)->p i->c[k]?=some v)/\∀(k:Nat),(∀(i:Nat) v,es[i]?=some (b6.st b k v)->¬p i)->c[k]?=cO[k]?
 Kp:∀(b:Nat),(∀cO,S.bx[b]?≠some (ga.cells cO))->ba.bx[b]?=S.bx[b]?
theorem iq{es:List b6}(h:hi es=true):∀(i j:Nat) x y,i<j->es[i]?=some x->es[j]?=some y->x.clash y=false:=by
 induction es with
 |nil=>intro i j x y _ aj;simp at aj
 |cons e es az=>
  simp only[hi,Bool.and_eq_true]at h;intro i j x y dL aj aF;obtain⟨j,rfl⟩:∃m,j=m+1:=⟨j-1,by omega⟩;simp only[List.getElem?_cons_succ]at aF;cases i with
  |zero=>
   simp only[List.getElem?_cons_zero,Option.some.injEq]at aj;subst aj;have:=List.all_eq_true.1 h.1 y (List.mem_of_getElem? aF);simpa using this
  |succ i=>
   simp only[List.getElem?_cons_succ]at aj;exact az h.2 i j x y (by omega) aj aF
theorem I6(a:Nat):Nat.beq a a=true:=Nat.beq_refl a
theorem Bs{x y:b6}{d:Nat}(aj:x.dst=some d)(aF:y.dst=some d):x.clash y=true:=by cases x<;>cases y<;>simp only[b6.dst,reduceCtorEq]at aj aF<;>simp[b6.clash,b6.dst,aj,aF,I6]
theorem Tt{es:List b6}(h:hi es=true){i j:Nat}{x y:b6}{d:Nat}(aj:es[i]?=some x)(aF:es[j]?=some y)(U:x.dst=some d)(ab:y.dst=some d):i=j:=by
 rcases Nat.lt_trichotomy i j with dL|dL|dL
 ·have:=iq h i j x y dL aj aF;rw[Bs U ab]at this;cases this
 ·exact dL
 ·have:=iq h j i y x dL aF aj;rw[Bs ab U]at this;cases this
theorem Uy{es:List b6}(h:hi es=true){i j:Nat}{b k:Nat}{v bg:aL}(aj:es[i]?=some (.st b k v))(aF:es[j]?=some (.st b k bg)):i=j:=by
 rcases Nat.lt_trichotomy i j with dL|dL|dL
 ·have:=iq h i j _ _ dL aj aF;simp[b6.clash]at this
 ·exact dL
 ·have:=iq h j i _ _ dL aF aj;simp[b6.clash]at this
theorem D9{es:List b6}(h:hi es=true){i j:Nat}{b k:Nat}{d:Option Tmp}{v bg:aL}(aj:es[i]?=some (.anB d b k v))(aF:es[j]?=some (.st b k bg)):False:=by
 rcases Nat.lt_trichotomy i j with dL|dL|dL
 ·have:=iq h i j _ _ dL aj aF;simp[b6.clash]at this
 ·subst dL;rw[aj]at aF;cases aF
 ·have:=iq h j i _ _ dL aF aj;simp[b6.clash]at this
theorem Dc{es:List b6}{p:Nat->Prop}{S ba:Sym}{i:Nat}{e:b6}{d:Option Tmp}{v:aL}(hw:hi es=true)(h:eU es p S ba)(he:es[i]?=some e)(ai:e=.put d v\/∃b k,e=.anB d b k v):
  eU es (λj=>p j\/j=i) S (ba.put d v):=by
 have bh:∀b k bg,e≠.st b k bg:=by rintro b k bg rfl;rcases ai with h|⟨_,_,h⟩<;>cases h
 have nX:e.dst=d:=by rcases ai with rfl|⟨_,_,rfl⟩<;>rfl
 have nt:(ba.put d v).bx=ba.bx:=by cases d<;>rfl
 refine⟨h.rest.trans (rh _ _ _),by rw[nt,h.uj],?_,?_,?_,?_⟩
 ·intro j e' dq bg oO iw ae;cases d with
  |none=>
   rcases ae with ae|rfl
   ·exact h.put j e' dq bg oO iw ae
   ·rw[he]at oO;injection oO with oO;subst oO;rcases iw with rfl|⟨_,_,rfl⟩<;>simp[b6.dst]at nX
  |some d=>
   rw[get_put];have jv:e'.dst=some dq:=by rcases iw with rfl|⟨_,_,rfl⟩<;>rfl
   by_cases zz:dq=d
   ·subst zz;rw[if_pos rfl];have:=Tt hw he oO nX jv;subst this;rw[he]at oO;injection oO with oO;subst oO;rcases ai with rfl|⟨_,_,rfl⟩<;>rcases iw with iw|⟨_,_,iw⟩<;>injection iw<;>simp_all
   ·rw[if_neg zz];rcases ae with ae|rfl
    ·exact h.put j e' dq bg oO iw ae
    ·rw[he]at oO;injection oO with oO;subst oO;rw[nX]at jv;injection jv with jv;exact absurd jv.symm zz
 ·intro t a1;cases d with
  |none=>exact h.old t λj e' oO jv ae=>a1 j e' oO jv (.inl ae)
  |some d=>
   rw[get_put,if_neg (λk=>a1 i e he (by rw[nX,k]) (.inr rfl))];exact h.old t λj e' oO jv ae=>a1 j e' oO jv (.inl ae)
 ·intro b cO hb;rw[nt];obtain⟨c,U,ab,al,aJ⟩:=h.box b cO hb;refine⟨c,U,ab,λj k bg aC ae=>?_,λk aq=>aJ k λj bg aC ae=>aq j bg aC (.inl ae)⟩;rcases ae with ae|rfl
  ·exact al j k bg aC ae
  ·rw[he]at aC;injection aC with aC;exact absurd aC (bh _ _ _)
 ·intro b hb;rw[nt];exact h.Kp b hb
theorem De{es:List b6}{p:Nat->Prop}{S ba:Sym}{i:Nat}{e:b6}(hw:hi es=true)(h:eU es p S ba)(he:es[i]?=some e)(c1:∀b k v,e=.st b k v->∃c,ba.bx[b]?=some (ga.cells c)/\k<c.length):
  eU es (λj=>p j\/j=i) S (eV ba e):=by
 cases e with
 |put d v=>exact Dc hw h he (.inl rfl)
 |anB d b k v=>exact Dc hw h he (.inr ⟨b,k,rfl⟩)
 |st b k v=>
  obtain⟨c,ah,aq⟩:=c1 b k v rfl;simp only[eV,ah];have se:b<ba.bx.length:=(List.getElem?_eq_some_iff.1 ah).1;refine⟨h.rest.trans rfl,by simp[Sym.hq,h.uj],?_,?_,?_,?_⟩
  ·intro j e' dq bg oO iw ae;rcases ae with ae|rfl
   ·exact h.put j e' dq bg oO iw ae
   ·rw[he]at oO;injection oO with oO;subst oO;rcases iw with iw|⟨_,_,iw⟩<;>cases iw
  ·intro t a1;exact h.old t λj e' oO jv ae=>a1 j e' oO jv (.inl ae)
  ·intro a6 cO dB;obtain⟨c',U,ab,al,aJ⟩:=h.box a6 cO dB;by_cases tk:a6=b
   ·subst tk;rw[ah]at U;injection U with U;injection U with U;subst U;have aN:∀m,(AX c k [v])[m]?=if m=k then some v else c[m]?:=by
     intro m;simp only[AX,List.length_singleton];rcases Nat.lt_trichotomy m k with hm|hm|hm
     ·rw[List.append_assoc,List.getElem?_append_left (by simp;omega),List.getElem?_take_of_lt hm,if_neg (by omega)]
     ·subst hm;rw[List.append_assoc,List.getElem?_append_right (by simp;omega)];simp[Nat.min_eq_left (Nat.le_of_lt aq)]
     ·rw[List.getElem?_append_right (by simp;omega),if_neg (by omega)];simp only[List.length_append,List.length_take,List.length_singleton,Nat.min_eq_left (Nat.le_of_lt aq),List.getElem?_drop];congr 1;omega
    refine⟨AX c k [v],by simp[Sym.hq,se],by simp[AX];omega,λj m bg aC ae=>?_,λm hm=>?_⟩
    ·rw[aN];by_cases gZ:m=k
     ·subst gZ;have:=Uy hw he aC;subst this;rw[he]at aC;injection aC with aC;injection aC with _ _ aC;rw[if_pos rfl,aC]
     ·rw[if_neg gZ];rcases ae with ae|rfl
      ·exact al j m bg aC ae
      ·rw[he]at aC;injection aC with aC;injection aC with _ aC _;exact absurd aC.symm gZ
    ·rw[aN,if_neg (λq=>hm i v (by rw[q];exact he) (.inr rfl))];exact aJ m λj bg aC ae=>hm j bg aC (.inl ae)
   ·refine⟨c',by simp only[Sym.hq,List.getElem?_set];rw[if_neg (λq=>tk q.symm)];exact U,ab,λj m bg aC ae=>?_,λm hm=>aJ m λj bg aC ae=>hm j bg aC (.inl ae)⟩;rcases ae with ae|rfl
    ·exact al j m bg aC ae
    ·rw[he]at aC;injection aC with aC;injection aC with aC _ _;exact absurd aC.symm tk
  ·intro a6 dB;have bU:b≠a6:=by
    rintro rfl;have:=h.Kp b dB;rw[ah]at this;exact dB c this.symm
   simp only[Sym.hq,List.getElem?_set];rw[if_neg bU];exact h.Kp a6 dB
theorem eU.congr{es:List b6}{p q:Nat->Prop}{S ba:Sym}(h:eU es p S ba)(Wc:∀i,i<es.length->(p i↔q i)):eU es q S ba:=by
 have ak:∀{i:Nat}{e},es[i]?=some e->(p i↔q i):=λhe=>Wc _ (List.getElem?_eq_some_iff.1 he).1;refine⟨h.rest,h.uj,λi e d v he ai ae=>h.put i e d v he ai ((ak he).2 ae),λt a1=>h.old t λi e he aV ae=>a1 i e he aV ((ak he).1 ae),λb cO hb=>?_,h.Kp⟩;obtain⟨c,U,ab,al,aJ⟩:=h.box b cO hb;exact⟨c,U,ab,λi k v he ae=>al i k v he ((ak he).2 ae),λk aq=>aJ k λi v he ae=>aq i v he ((ak he).1 ae)⟩
theorem gb.eq{S a b:Sym}(au:gb S a)(hb:gb S b)(ab:a.bx=b.bx):a={ b with g:=a.g }:=by
 unfold gb at au hb;rw[au,hb,ab]
theorem Ei{F:cP}{S:Sym}{g:List (Nat×aL)}{ρ:List aa}{ids:Nat->Option Nat}{s:aA}(h:Rel F { S with g:=g } ρ ids s)(aN:∀t,cF g t=S.get t):Rel F S ρ ids s:=
 ⟨h.len,h.cU,λt=>by rw[←aN];exact h.slot t,h.dt,h.old,h.box,h.hO,h.mv,h.arr,h.a0,h.cV,h.kY,h.bb,h.new,h.keep,h.dO,h.lG,h.mS,h.an,h.kZ,h.rc⟩
theorem SE{es:List b6}{S a b:Sym}(au:eU es (λ_=>True) S a)(hb:eU es (λ_=>True) S b):a={ b with g:=a.g }/\∀t,a.get t=b.get t:=by
 classical
 have aN:∀t,a.get t=b.get t:=by
  intro t;by_cases a1:∃(i:Nat)(e:b6),es[i]?=some e/\e.dst=some t
  ·obtain⟨i,e,he,aV⟩:=a1;cases e with
   |put d v=>simp only[b6.dst]at aV;subst aV;rw[au.put i _ t v he (.inl rfl) trivial,hb.put i _ t v he (.inl rfl) trivial]
   |anB d a6 k v=>simp only[b6.dst]at aV;subst aV;rw[au.put i _ t v he (.inr ⟨_,_,rfl⟩) trivial,hb.put i _ t v he (.inr ⟨_,_,rfl⟩) trivial]
   |st _ _ _=>cases aV
  ·have aI:∀(i:Nat) e,es[i]?=some e->e.dst=some t->¬True:=λi e he aV=>(a1 ⟨i,e,he,aV⟩).elim;rw[au.old t aI,hb.old t aI]
 refine⟨gb.eq au.rest hb.rest (List.ext_getElem? λm=>?_),aN⟩
 ·cases hm:S.bx[m]? with
  |none=>rw[au.Kp m (by rw[hm];simp),hb.Kp m (by rw[hm];simp)]
  |some x=>
   cases x with
   |cells cO=>
    obtain⟨c,U,ab,al,aJ⟩:=au.box m cO hm;obtain⟨c',k1,k2,bP,cX⟩:=hb.box m cO hm;rw[U,k1];congr 2;refine List.ext_getElem? λk=>?_;by_cases aq:∃(i:Nat)(v:aL),es[i]?=some (.st m k v)
    ·obtain⟨i,v,he⟩:=aq;rw[al i k v he trivial,bP i k v he trivial]
    ·have aI:∀(i:Nat) v,es[i]?=some (.st m k v)->¬True:=λi v he=>(aq ⟨i,v,he⟩).elim;rw[aJ k aI,cX k aI]
   |c8=>rw[au.Kp m (by rw[hm];simp),hb.Kp m (by rw[hm];simp)]
   |gone=>rw[au.Kp m (by rw[hm];simp),hb.Kp m (by rw[hm];simp)]
theorem SF{ops:Array Oper}{e2 i:Nat}{o:Oper}{S:Sym}{e:b6}(h:gW X o S=some e)(K:Sym->M):kh X inl yl none ops e2 [o] i S K=K (eV S e):=by
 unfold gW at h;simp only[kh];cases aN:o.guard with
 |some g=>rw[aN]at h;cases h
 |none=>
  rw[aN]at h;simp only at h⊢;unfold sQ;cases ar:o.op<;>rw[ar]at h<;>simp only[reduceCtorEq]at h⊢
  case move x=>injection h with h;rw[←h];rfl
  case assign x=>injection h with h;rw[←h];rfl
  case fieldAddr t x f=>
   unfold HQ;split at h
   ·rename_i fs hu;(try rw[hu]);(try simp only);split at h
    ·rename_i fd aQ;(try rw[aQ]);(try simp only);split at h
     ·cases h
     ·rename_i ah;rw[if_neg ah];split at h
      ·rename_i b off aj;(try rw[aj]);injection h with h;simp only[←h,eV]
      ·cases h
    ·cases h
   ·cases h
  case indexAddr t x j=>
   unfold GW;split at h
   ·rename_i e hu;(try rw[hu]);(try simp only);split at h
    ·rename_i pi Gd;(try rw[Gd]);(try simp only);split at h
     ·cases h
     ·rename_i ah;rw[if_neg ah];split at h
      ·rename_i b sz len aj;(try rw[aj]);(try simp only);split at h
       ·rename_i gJ dZ aC;(try rw[aC]);(try simp only);split at h
        ·rename_i Le;rw[if_pos Le];injection h with h;rw[←h];rfl
        ·cases h
       ·cases h
      ·cases h
    ·cases h
   ·cases h
  case load t x=>
   unfold Iv;split at h
   ·rename_i b off aj;(try rw[aj]);(try simp only);split at h
    ·rename_i au;split at h
     ·rename_i l ak;split at h
      ·rename_i v ai;injection h with h;have:E8 X S none t b off=some v:=by
        unfold E8;first|exact ai|(rw[ak,au];exact ai)
       rw[this];simp only[←h,eV]
      ·cases h
     ·cases h
    ·cases h
   ·cases h
  case store t x y=>
   unfold DC;split at h
   ·cases h
   ·rename_i ah;rw[if_neg ah];split at h
    ·rename_i b off aj;(try rw[aj]);(try simp only);split at h
     ·rename_i v au aF;split at h
      ·rename_i lR;unfold uP;rw[au,aF];simp only[lR,if_true];split at h
       ·rename_i l ak;(try rw[ak]);split at h
        ·rename_i Le;injection h with h;have Wi:[aL.e v].length=X.P.cellsOf t/\[aL.e v].all aL.E5=true/\off+[aL.e v].length<=l.length/\((none:Option Nat).all λa6=>decide (off=0)&&decide (a6<=b)&&decide (l.length=[aL.e v].length))=true:=⟨Le.1,rfl,Le.2,rfl⟩;(try simp only[]);rw[if_pos Wi,←h];simp only[eV,ak]
        ·cases h
       ·cases h
      ·cases h
     ·cases h
    ·cases h
theorem CQ{o:Oper}{S:Sym}{b k:Nat}{v:aL}(h:gW X o S=some (.st b k v)):∃c,S.bx[b]?=some (ga.cells c)/\k<c.length:=by
 unfold gW at h;repeat' split at h
 all_goals first|(cases h;done)|skip
 rename_i l ak Le;injection h with h;injection h with U ab al;subst U ab;exact⟨l,ak,by omega⟩
theorem hy{ba ji:Sym}{x:Operand}(h:∀t∈ns x,ba.get t=ji.get t):ba.ay x=ji.ay x:=by
 cases x with
 |tmp t=>exact h t (by simp[ns])
 |const v=>rfl
 |func f=>rfl
 |global g=>rfl
theorem PT{o:Oper}{ba ji:Sym}{e:b6}(aq:ba.cU=ji.cU)(ao:∀t∈pW o.op,ba.get t=ji.get t)(h:gW X o ji=some e)
  (ak1:∀d b k v c,e=.anB d b k v->ji.bx[b]?=some (ga.cells c)->∃c',ba.bx[b]?=some (ga.cells c')/\c'[k]?=c[k]?)
  (bh:∀b k v c,e=.st b k v->ji.bx[b]?=some (ga.cells c)->∃c',ba.bx[b]?=some (ga.cells c')/\c'.length=c.length):gW X o ba=some e:=by
 unfold gW at h⊢;cases aN:o.guard with
 |some g=>rw[aN]at h;cases h
 |none=>
  rw[aN]at h;simp only at h⊢;cases ar:o.op<;>rw[ar]at h ao<;>simp only[reduceCtorEq,pW,List.mem_append]at h ao⊢
  case move x=>rw[hy ao];exact h
  case assign x=>rw[hy ao];exact h
  case fieldAddr t x f=>rw[hy ao];exact h
  case indexAddr t x y=>rw[hy λt a1=>ao t (.inl a1),hy λt a1=>ao t (.inr a1)];exact h
  case load t x=>
   rw[hy ao];split at h
   ·rename_i b off aj;split at h
    ·rename_i au;split at h
     ·rename_i l ak;split at h
      ·rename_i v ai;injection h with h;obtain⟨c',U,ab⟩:=ak1 _ _ _ _ _ h.symm ak;simp only[U,ab,ai,h]
      ·cases h
     ·cases h
    ·cases h
   ·cases h
  case store t x y=>
   rw[hy λt a1=>ao t (.inl a1),hy λt a1=>ao t (.inr a1)];have lR:∀v,ba.E6 v=ji.E6 v:=λv=>by cases v<;>simp[Sym.E6,aq]
   split at h
   ·cases h
   ·rename_i ah;rw[if_neg ah];split at h
    ·rename_i b off aj;split at h
     ·rename_i v au aF;simp only[lR];split at h
      ·rename_i tP;rw[if_pos tP];split at h
       ·rename_i l ak;split at h
        ·rename_i Le;injection h with h;obtain⟨c',U,ab⟩:=bh _ _ _ _ h.symm ak;simp only[U,ab,if_pos Le,h]
        ·cases h
       ·cases h
      ·cases h
     ·cases h
    ·cases h
theorem DD{o:Oper}{i t:Nat}:∀{es:List b6}{j0:Nat},oe o i t es j0=true->∀(j:Nat) e,es[j]?=some e->e.dst=some t->j0+j<i/\∃dJ∈o.after,Region.binds .any dJ=true/\dJ.on=j0+j
 |[],_,_,j,e,he,_=>by simp at he
 |x::es,j0,h,j,e,he,aV=>by
  simp only[oe,Bool.and_eq_true]at h;cases j with
  |zero=>
   simp only[List.getElem?_cons_zero,Option.some.injEq]at he;subst he;rw[aV]at h;simp only[I6,Bool.not_true,Bool.false_or,Bool.and_eq_true,Array.any_eq_true']at h;obtain⟨⟨U,dJ,hm,ab⟩,_⟩:=h;exact⟨Nat.le_of_ble_eq_true U,dJ,hm,ab.1,Nat.eq_of_beq_eq_true ab.2⟩
  |succ j=>
   simp only[List.getElem?_cons_succ]at he;have:=DD h.2 j e he aV;rw[show j0+(j+1)=j0+1+j by omega];exact this
theorem rX{es:List b6}:∀{os:List Oper}{i0:Nat},qS es os i0=true->∀(i:Nat) o,os[i]?=some o->(∀dJ∈o.after,Region.binds .any dJ=true->dJ.on<i0+i)/\∀t∈pW o.op,oe o (i0+i) t es 0=true
 |[],_,_,i,o,ar=>by simp at ar
 |x::os,i0,h,i,o,ar=>by
  simp only[qS,Bool.and_eq_true]at h;cases i with
  |zero=>
   simp only[List.getElem?_cons_zero,Option.some.injEq]at ar;subst ar;refine⟨λdJ hm hb=>?_,λt a1=>List.all_eq_true.1 h.1.2 t a1⟩;have:=Array.all_eq_true'.1 h.1.1 dJ hm;simp only[hb,Bool.not_true,Bool.false_or]at this;exact Nat.le_of_ble_eq_true this
  |succ i=>
   simp only[List.getElem?_cons_succ]at ar;have:=rX h.2 i o ar;rw[show i0+(i+1)=i0+1+i by omega];exact this
theorem DK{es:List b6}{S:Sym}(hw:hi es=true):∀{os:List Oper}{ba:Sym}{ec pre:List b6},nN X os ba=some ec->es=pre++ec->eU es (·<pre.length) S ba ->
  os.length=ec.length/\eU es (·<es.length) S (ec.foldl eV ba)/\∀(i:Nat) o,os[i]?=some o->∃ov e,ec[i]?=some e/\eU es (·<pre.length+i) S ov/\gW X o ov=some e
 |[],ba,ec,pre,h,he,au=>by
  simp only[nN,Option.some.injEq]at h;subst h;simp only[List.append_nil]at he;subst he;exact⟨rfl,au,λi o ar=>by simp at ar⟩
 |o::os,ba,ec,pre,h,he,au=>by
  simp only[nN]at h;split at h
  ·rename_i e U;split at h
   ·rename_i es2 ab;injection h with h;subst h;have aX:es[pre.length]?=some e:=by rw[he];simp
    have ah6:=(De hw au aX λb k v ai=>CQ (by rw[←ai];exact U)).congr (q:=(·<(pre++[e]).length)) λi _=>by simp;omega
    obtain⟨k1,k2,bP⟩:=DK hw ab (pre:=pre++[e]) (by rw[he];simp) ah6;refine⟨by simp[k1],k2,λi o' ar=>?_⟩;cases i with
    |zero=>
     simp only[List.getElem?_cons_zero,Option.some.injEq]at ar;subst ar;exact⟨ba,e,rfl,au,U⟩
    |succ i=>
     simp only[List.getElem?_cons_succ]at ar;obtain⟨ov,e',g1,g2,g3⟩:=bP i o' ar;exact⟨ov,e',g1,g2.congr λj _=>by simp;omega,g3⟩
   ·cases h
  ·cases h
theorem Sl(aw:F.P=X.P)(aq:ri X F.DI C n inl yl){ops:Array Oper}{S Vs:Sym}{ρ:List aa}{ids:Nat->Option Nat}{s:aA}{K:Sym->M}{R:Out->Prop}{t:Tree}(ah:sV X ops S=some Vs)(h:K Vs=.ok t)(ad:Rel F S ρ ids s)(aB:bN X.P C n t ρ R):
  ze X.P ops ops.size (Array.replicate ops.size false) s λs'=>hS X F C n R K S ρ s':=by
 classical
 simp only[sV]at ah;split at ah
 ·rename_i es hf;split at ah
  ·rename_i aW;simp only[Bool.and_eq_true]at aW;obtain⟨hw,mE⟩:=aW;injection ah with ah;have aT:eU es (·<([]:List b6).length) S S:=⟨rfl,rfl,λi e d v _ _ ae=>absurd ae (by simp),λt _=>rfl,λb cO hb=>⟨cO,hb,rfl,λi k v _ ae=>absurd ae (by simp),λk _=>rfl⟩,λb _=>rfl⟩;obtain⟨hlen,Vg,Wj⟩:=DK hw hf (pre:=[]) rfl aT;have iJ:∀{ba:Sym}{l:Array Bool},l.size=ops.size->eU es (gd l) S ba->Region.ready .any ops l=[]->ba={ Vs with g:=ba.g }/\∀t,ba.get t=Vs.get t:=by
    intro ba l bX au fK;have lh:∀i,i<ops.size->gd l i:=by
     intro i;induction i using Nat.strongRecOn with
     |_ i az=>
      intro aX;apply Decidable.byContradiction;intro aI;have:i∈Region.ready .any ops l:=mem_ready.2 ⟨(yo (by omega)).2 aI,ops[i],by simp[aX],λe he hb=>by
       have:=(rX mE i ops[i] (by simp[aX])).1 e he hb;exact az e.on (by omega) (by omega)⟩
      rw[fK]at this;cases this
    rw[←ah];refine SE (au.congr λi aX=>⟨λ_=>trivial,λ_=>lh i ?_⟩) (Vg.congr λi aX=>⟨λ_=>trivial,λ_=>aX⟩);have:ops.toList.length=es.length:=hlen;simp only[Array.length_toList]at this;omega
   suffices hgo:∀(m:Nat)(l:Array Bool){ba:Sym}{ids:Nat->Option Nat}{s:aA},l.size=ops.size->left l<=m->eU es (gd l) S ba->Rel F ba ρ ids s->Ext S ρ ba ρ->ze X.P ops m l s λs'=>hS X F C n R K S ρ s' by
    refine hgo ops.size _ (by simp) (by simp[left]) (aT.congr λi _=>?_) ad (Ext.refl S ρ);simp only[List.length_nil,Nat.not_lt_zero,false_iff,gd,Array.getD_eq_getD_getElem?,Array.getElem?_replicate];split<;>simp
   intro m;induction m with
   |zero=>
    intro l ba ids s bX ak au ad aj;have fK:Region.ready .any ops l=[]:=by
     cases he:Region.ready .any ops l with
     |nil=>rfl
     |cons i is=>
      exfalso;have hm:i∈Region.ready .any ops l:=by rw[he];simp
      obtain⟨U,o,ar,ab⟩:=mem_ready.1 hm;have aX:i<l.size:=by rw[bX];exact(Array.getElem?_eq_some_iff.1 ar).1
      have:=O5 aX ((yo aX).1 U);omega
    obtain⟨aK,aO⟩:=iJ bX au fK;rw[aK]at ad aj;exact⟨fK,Vs,ρ,ids,t,h,Ei ad aO,aB,⟨aj.pre,aj.base,aj.dO,aj.site,aj.ey,aj.ys,aj.bx,rfl⟩⟩
   |succ m az=>
    intro l ba ids s bX ak au ad aj;refine⟨λfK=>?_,λi aX o ar=>?_⟩
    ·obtain⟨aK,aO⟩:=iJ bX au fK;rw[aK]at ad aj;exact⟨Vs,ρ,ids,t,h,Ei ad aO,aB,⟨aj.pre,aj.base,aj.dO,aj.site,aj.ey,aj.ys,aj.bx,rfl⟩⟩
    ·obtain⟨U,o',eC,ab⟩:=mem_ready.1 aX;rw[ar]at eC;injection eC with eC;subst eC;have aU:i<l.size:=by rw[bX];exact(Array.getElem?_eq_some_iff.1 ar).1
     have Mw:ops.toList[i]?=some o:=by rw[Array.getElem?_toList];exact ar
     obtain⟨ov,e,he,fZ,rB⟩:=Wj i o Mw;have fZ:=fZ.congr (q:=(·<i)) λj _=>by simp
     obtain⟨vz,nq⟩:=rX mE i o Mw;have Ek:gW X o ba=some e:=by
      refine PT (by rw[au.rest,fZ.rest]) (λu hu=>?_) rB (λd b k v c ai hb=>?_) λb k v c ai hb=>?_
      ·have ql:=DD (nq u hu);by_cases hex:∃(j:Nat)(e':b6),es[j]?=some e'/\e'.dst=some u
       ·obtain⟨j,e',oO,jv⟩:=hex;obtain⟨g1,dJ,g2,g3,g4⟩:=ql j e' oO jv;have ak:gd l j:=by have:=ab dJ g2 g3;rw[g4,Nat.zero_add]at this;exact this
        have kT:j<i:=by omega
        cases e' with
        |put d v=>simp only[b6.dst]at jv;subst jv;rw[au.put j _ u v oO (.inl rfl) ak,fZ.put j _ u v oO (.inl rfl) kT]
        |anB d b k v=>simp only[b6.dst]at jv;subst jv;rw[au.put j _ u v oO (.inr ⟨_,_,rfl⟩) ak,fZ.put j _ u v oO (.inr ⟨_,_,rfl⟩) kT]
        |st _ _ _=>cases jv
       ·rw[au.old u λj e' oO jv _=>hex ⟨j,e',oO,jv⟩,fZ.old u λj e' oO jv _=>hex ⟨j,e',oO,jv⟩]
      ·subst ai;cases iB:S.bx[b]? with
       |none=>rw[fZ.Kp b (by rw[iB];simp),iB]at hb;cases hb
       |some x=>
        cases x with
        |cells cO=>
         obtain⟨dS,eD,a2,a3,a4⟩:=au.box b cO iB;obtain⟨c2,fj,gB,dI,LI⟩:=fZ.box b cO iB;rw[hb]at fj;injection fj with fj;injection fj with fj;subst fj;exact⟨dS,eD,by rw[a4 k λj bg aC _=>D9 hw he aC,LI k λj bg aC _=>D9 hw he aC]⟩
        |c8=>rw[fZ.Kp b (by rw[iB];simp),iB]at hb;cases hb
        |gone=>rw[fZ.Kp b (by rw[iB];simp),iB]at hb;cases hb
      ·cases iB:S.bx[b]? with
       |none=>rw[fZ.Kp b (by rw[iB];simp),iB]at hb;cases hb
       |some x=>
        cases x with
        |cells cO=>
         obtain⟨dS,eD,a2,_,_⟩:=au.box b cO iB;obtain⟨c2,fj,gB,_,_⟩:=fZ.box b cO iB;rw[hb]at fj;injection fj with fj;injection fj with fj;subst fj;exact⟨dS,eD,by rw[a2,gB]⟩
        |c8=>rw[fZ.Kp b (by rw[iB];simp),iB]at hb;cases hb
        |gone=>rw[fZ.Kp b (by rw[iB];simp),iB]at hb;cases hb
     have ah6:=De hw au he λb k v ai=>CQ (by rw[←ai];exact Ek);let vO:Sym->M:=λbr=>if br=eV ba e then .ok (.ret (.e (.bu .ca)))else .error ""
     have XL:kh X inl yl none ops 0 [o] i ba vO=.ok (.ret (.e (.bu .ca))):=by
      rw[SF Ek];simp only[vO,if_true]
     refine pU (λs' tv=>?_) [o] s (AU aw aq [o] i XL ad (R:=λ_=>True) (λω=>⟨_,rfl,trivial⟩));obtain⟨br,b1,dK,bw,k1,k2,bP,cX⟩:=tv;have e':br=eV ba e:=by
      simp only[vO]at k1;split at k1
      ·assumption
      ·cases k1
     subst e';have Y8:(eV ba e).cd=ba.cd:=by rw[QA ba e]
     have mb:b1=ρ:=by
      have fI:=k2.len;have ei:=ad.len;exact(cX.pre.eq_of_length (by omega)).symm
     subst mb;refine az _ (by simpa using bX) (by have:=H7 aU ((yo aU).1 U);omega) (ah6.congr λj _=>?_) k2 (aj.trans cX);simp only[gd,Array.getD_eq_getD_getElem?,Array.getElem?_setIfInBounds];by_cases dL:i=j
     ·subst dL;simp[aU]
     ·simp[dL];exact λk=>(dL k.symm).elim
  ·cases ah
 ·cases ah
theorem o8(aw:F.P=X.P)(hm:X.P.follows .mixedOrders=true)(aq:ri X F.DI C n inl yl):∀(c:Code){p:Nat}{S:Sym}{ρ:List aa}{ids:Nat->Option Nat}{s:aA}{t:Tree}{R:Out->Prop}{K:eJ->Sym->M},
  comp X W inl yl f c p S K=.ok t->Rel F S ρ ids s->bN X.P C n t ρ R->ff X.P c s λe s'=>hS X F C n R (K e) S ρ s'
 |.skip,p,S,ρ,ids,s,t,R,K,h,ad,aB=>by
  simp only[comp]at h;exact OY ⟨S,ρ,ids,t,h,ad,aB,Ext.refl S ρ⟩
 |.ret,p,S,ρ,ids,s,t,R,K,h,ad,aB=>by
  simp only[comp]at h;exact Iz ⟨S,ρ,ids,t,h,ad,aB,Ext.refl S ρ⟩
 |.exit i,p,S,ρ,ids,s,t,R,K,h,ad,aB=>by
  simp only[comp]at h;exact Z0 ⟨S,ρ,ids,t,h,ad,aB,Ext.refl S ρ⟩
 |.seq x y,p,S,ρ,ids,s,t,R,K,h,ad,aB=>by
  simp only[comp]at h;refine o6 (oZ (o8 aw hm aq x h ad aB) λe s' ao=>?_);obtain⟨br,b1,dK,bw,aK,aO,bS,b8⟩:=ao;cases e with
  |normal=>exact oZ (o8 aw hm aq y aK aO bS) λe l6 ao=>nL b8 ao
  |exit i=>exact⟨br,b1,dK,bw,aK,aO,bS,b8⟩
  |ret=>exact⟨br,b1,dK,bw,aK,aO,bS,b8⟩
 |.cond c x y,p,S,ρ,ids,s,t,R,K,h,ad,aB=>by
  simp only[comp]at h;refine En (λ{S ρ ids s t R K} h ad aB=>?_) h ad aB;have ai:=ad.ay c;split at h
  ·rename_i b ah;rw[ah]at ai;unfold bZ at ai;cases b with
   |true=>exact AA true ai.1 (by simp only[if_true];exact o8 aw hm aq x (by simpa using h) ad aB)
   |false=>exact AA false ai.1 (by simp only[Bool.false_eq_true,if_false];exact o8 aw hm aq y (by simpa using h) ad aB)
  ·rename_i e _ ah;rw[ah]at ai;unfold bZ at ai;obtain⟨a,au,h⟩:=yH h;obtain⟨b,hb,h⟩:=yH h;injection h with h;subst h;rcases aB.ite with⟨U,ab⟩|⟨U,ab⟩
   ·exact AA true (ai.1.trans U) (by simp only[if_true];exact o8 aw hm aq x au ad ab)
   ·exact AA false (ai.1.trans U) (by simp only[Bool.false_eq_true,if_false];exact o8 aw hm aq y hb ad ab)
  ·cases h
 |.block id x,p,S,ρ,ids,s,t,R,K,h,ad,aB=>by
  simp only[comp]at h;refine En (λ{S ρ ids s t R K} h ad aB=>?_) h ad aB;refine Yz (oZ (o8 aw hm aq x h ad aB) λe s' ao=>?_);obtain⟨br,b1,dK,bw,aK,aO,bS,b8⟩:=ao;cases e with
  |normal=>exact⟨br,b1,dK,bw,aK,aO,bS,b8⟩
  |exit i=>
   simp only at aK⊢;split
   ·rename_i aX;rw[if_pos aX]at aK;exact⟨br,b1,dK,bw,aK,aO,bS,b8⟩
   ·rename_i aX;rw[if_neg aX]at aK;exact⟨br,b1,dK,bw,aK,aO,bS,b8⟩
  |ret=>exact⟨br,b1,dK,bw,aK,aO,bS,b8⟩
 |.region e2 ops false,p,S,ρ,ids,s,t,R,K,h,ad,aB=>by
  simp only[comp]at h;refine En (λ{S ρ ids s t R K} h ad aB=>?_) h ad aB;exact qL (AU aw aq ops.toList 0 h ad aB)
 |.region e2 ops true,p,S,ρ,ids,s,t,R,K,h,ad,aB=>by
  simp only[comp]at h;refine En (λ{S ρ ids s t R K} h ad aB=>?_) h ad aB;split at h
  ·rename_i aV;obtain⟨s1,cy,dM,ba,bY,kP,t1,U,ab,al,aJ⟩:=o2 (X:=X) h ad aB;refine GP cy (H9 hm _ aV (n5 X C) ?_);refine Eo.sC (λs' ao=>?_) _ _ (Eo (m0:=s1.m) aw aq _ 0 U ab ⟨ab.dt,Nat.le_refl _,λ_ _=>rfl⟩ al);obtain⟨⟨br,b1,dK,bw,aK,aO,bS,b8⟩,_⟩:=ao;exact pU (λl6 h=>nL (aJ.trans b8) h) _ _ (AU aw aq _ _ aK aO bS)
  ·split at h
   ·rename_i Vs aH;exact abC hm (Sl aw aq aH h ad aB)
   ·exact abC hm (RJ aw aq _ _ h ad aB)
 |.loop x,p,S,ρ,ids,s,t,R,K,h,ad,aB=>by
  simp only[comp]at h;split at h
  ·cases h
  ·rename_i b4 _;obtain⟨s1,cy,dM,ba,bY,kP,t1,U,ab,al,aJ⟩:=o2 (X:=X) h ad aB;simp only[]at U;split at U
   ·cases U
   ·rename_i af e0;obtain⟨body,hb,U⟩:=yH U;injection U with U;subst U;obtain⟨a7,bz,ck,rfl,aQ⟩:=Ny e0;obtain⟨g1,g2,g3⟩:=RB ab ab (Ext.refl ba bY) (MD b4 ba) rfl aQ;refine GP (cy.trans g1) (oZ (acx (X:=X) (f:=f) (inl:=inl) (yl:=yl) (W:=W) (λ{S ρ ids s t R K} h ad aB=>o8 aw hm aq x h ad aB) hb ab g3 g2 (aaQ al)) λe s' ao=>nL aJ ao)
 |.rangeFunc g a7 a b,p,S,ρ,ids,s,t,R,K,h,ad,aB=>by
  simp only[comp]at h;exact aq.tN F R f g a7 a b p K S ρ ids s t aw aq.c aq.new aq.own h ad aB
 |.scope x,p,S,ρ,ids,s,t,R,K,h,ad,aB=>by
  simp only[comp]at h;exact aeV (o8 aw hm aq x h ad aB)
 |.label _,p,S,ρ,ids,s,t,R,K,h,ad,aB=>by
  simp only[comp]at h;exact aeO ⟨S,ρ,ids,t,h,ad,aB,Ext.refl S ρ⟩
 |.goto _,p,S,ρ,ids,s,t,R,K,h,ad,aB=>by simp only[comp]at h;cases h
 |.refuse _,p,S,ρ,ids,s,t,R,K,h,ad,aB=>by simp only[comp]at h;cases h
end
end
section
open Go Go.RowKit
variable[cQ]
structure rj(F fq:cP):Prop where
 n0:fq.n0=F.n0
 d0:fq.d0=F.d0
 lH:fq.lH=F.lH
 DI:fq.DI=F.DI
 ys:∀(y l:Nat),F.cV.ys[y]?.map eN.l=some l->fq.cV.ys[y]?.map eN.l=some l
mutual
theorem yV{F fq:cP}{E:Env}(h:rj F fq):∀{v:aL}{q:aa},bZ F E v q->bZ fq E v q
 |.e x,q,ad=>by simpa only[bZ]using ad
 |.undef,q,ad=>by simpa only[bZ]using ad
 |.bT,q,ad=>by simp only[bZ]
 |.ptr i o,q,ad=>by simp only[bZ]at ad⊢;rw[h.n0];exact ad
 |.aV i o z,q,ad=>by simp only[bZ]at ad⊢;rw[h.n0];exact ad
 |.c8,q,ad=>by simp only[bZ]at ad⊢;rw[h.n0,h.d0,h.lH,h.DI];exact ad
 |.cq y,q,ad=>by
  simp only[bZ]at ad⊢;obtain⟨l,U,ab⟩:=ad;exact⟨l,h.ys y l U,ab⟩
 |.own k,q,ad=>by simpa only[bZ]using ad
 |.fF k x fo,q,ad=>by simpa only[bZ]using ad
 |.fQ x sz fo,q,ad=>by simpa only[bZ]using ad
 |.ft l fo,q,ad=>by
  simp only[bZ]at ad⊢;obtain⟨aG,U,ab⟩:=ad;exact⟨aG,yI h U,ab⟩
 |.fn f l,q,ad=>by
  simp only[bZ]at ad⊢;obtain⟨aG,U,ab⟩:=ad;exact⟨aG,U,yI h ab⟩
 |.agg l,q,ad=>by
  simp only[bZ]at ad⊢;obtain⟨aG,U,ab⟩:=ad;exact⟨aG,U,yI h ab⟩
 |.bD l,q,ad=>by
  simp only[bZ]at ad⊢;obtain⟨aG,U,ab⟩:=ad;exact⟨aG,U,QK h ab⟩
 |.lit sz len l,q,ad=>by
  simp only[bZ]at ad⊢;obtain⟨aG,U,ab,al⟩:=ad;exact⟨aG,U,yI h ab,al⟩
theorem yI{F fq:cP}{E:Env}(h:rj F fq):∀{l:List aL}{aG:List aa},cJ F E l aG->cJ fq E l aG
 |[],aG,ad=>by simpa only[cJ]using ad
 |v::af,aG,ad=>by
  simp only[cJ]at ad⊢;obtain⟨q,r,U,ab,al,aJ⟩:=ad;exact⟨q,r,U,yV h ab,al,yI h aJ⟩
theorem QK{F fq:cP}{E:Env}(h:rj F fq):∀{l:List aL}{aG:List aa},hk F E l aG->hk fq E l aG
 |[],aG,ad=>by simpa only[hk]using ad
 |v::af,aG,ad=>by
  simp only[hk]at ad⊢;obtain⟨q,r,U,ab,aJ⟩:=ad;exact⟨q,r,U,yV h ab,QK h aJ⟩
end
theorem Jp{F fq:cP}{E:Env}(h:rj F fq){b:ga}{c:di}(hb:vQ F E b c):vQ fq E b c:=by
 cases b with
 |cells l=>obtain⟨aG,U,ab⟩:=hb;exact⟨aG,U,yI h ab⟩
 |c8=>exact(show c=.inv fq.DI by rw[h.DI];exact hb)
 |gone=>trivial
structure Bl(n:Nat)(F fq:cP):Prop where
 n0:fq.n0=F.n0
 d0:fq.d0=F.d0
 lH:fq.lH=F.lH
 DI:fq.DI=F.DI
 ys:∀(y l:Nat),y<n->F.cV.ys[y]?.map eN.l=some l->fq.cV.ys[y]?.map eN.l=some l
mutual
theorem RK{n:Nat}{F fq:cP}{E:Env}(h:Bl n F fq):∀{v:aL}{q:aa},bZ F E v q->bZ fq E (v.qx n) q
 |.e x,q,ad=>by simp only[aL.qx];simpa only[bZ]using ad
 |.undef,q,ad=>by simp only[aL.qx];simpa only[bZ]using ad
 |.bT,q,ad=>by simp only[aL.qx,bZ]
 |.ptr i o,q,ad=>by simp only[aL.qx];simp only[bZ]at ad⊢;rw[h.n0];exact ad
 |.aV i o z,q,ad=>by simp only[aL.qx];simp only[bZ]at ad⊢;rw[h.n0];exact ad
 |.c8,q,ad=>by simp only[aL.qx];simp only[bZ]at ad⊢;rw[h.n0,h.d0,h.lH,h.DI];exact ad
 |.cq y,q,ad=>by
  simp only[aL.qx];split
  ·rename_i aF;simp only[bZ]at ad⊢;obtain⟨l,U,ab⟩:=ad;exact⟨l,h.ys y l aF U,ab⟩
  ·simp only[bZ]
 |.own k,q,ad=>by simp only[aL.qx];simpa only[bZ]using ad
 |.fF k x fo,q,ad=>by simp only[aL.qx];simpa only[bZ]using ad
 |.fQ x sz fo,q,ad=>by simp only[aL.qx];simpa only[bZ]using ad
 |.ft l fo,q,ad=>by
  simp only[aL.qx];simp only[bZ]at ad⊢;obtain⟨aG,U,ab⟩:=ad;exact⟨aG,yJ h U,ab⟩
 |.fn f l,q,ad=>by
  simp only[aL.qx];simp only[bZ]at ad⊢;obtain⟨aG,U,ab⟩:=ad;exact⟨aG,U,yJ h ab⟩
 |.agg l,q,ad=>by
  simp only[aL.qx];simp only[bZ]at ad⊢;obtain⟨aG,U,ab⟩:=ad;exact⟨aG,U,yJ h ab⟩
 |.bD l,q,ad=>by
  simp only[aL.qx];simp only[bZ]at ad⊢;obtain⟨aG,U,ab⟩:=ad;exact⟨aG,U,QL h ab⟩
 |.lit sz len l,q,ad=>by
  simp only[aL.qx];simp only[bZ]at ad⊢;obtain⟨aG,U,ab,al⟩:=ad;exact⟨aG,U,yJ h ab,al⟩
theorem yJ{n:Nat}{F fq:cP}{E:Env}(h:Bl n F fq):∀{l:List aL}{aG:List aa},cJ F E l aG->cJ fq E (rC n l) aG
 |[],aG,ad=>by simp only[rC];simpa only[cJ]using ad
 |v::af,aG,ad=>by
  simp only[rC];simp only[cJ]at ad⊢;obtain⟨q,r,U,ab,al,aJ⟩:=ad;exact⟨q,r,U,RK h ab,al.imp_left (λe=>by subst e;simp only[aL.qx]),yJ h aJ⟩
theorem QL{n:Nat}{F fq:cP}{E:Env}(h:Bl n F fq):∀{l:List aL}{aG:List aa},hk F E l aG->hk fq E (rC n l) aG
 |[],aG,ad=>by simp only[rC];simpa only[hk]using ad
 |v::af,aG,ad=>by
  simp only[rC];simp only[hk]at ad⊢;obtain⟨q,r,U,ab,aJ⟩:=ad;exact⟨q,r,U,RK h ab,QL h aJ⟩
end
theorem acz(n:Nat)(l:List aL):rC n l=l.map (aL.qx n):=by
 induction l with
 |nil=>rfl
 |cons v l az=>simp[rC,az]
theorem adY{n:Nat}{F fq:cP}{E:Env}(h:Bl n F fq){b:ga}{c:di}(hb:vQ F E b c):vQ fq E (b.map (aL.qx n)) c:=by
 cases b with
 |cells l=>obtain⟨aG,U,ab⟩:=hb;exact⟨aG,U,by rw[←acz];exact yJ h ab⟩
 |c8=>exact(show c=.inv fq.DI by rw[h.DI];exact hb)
 |gone=>trivial
theorem At(l:List aL):q3 l=l.map aL.jS:=by
 induction l with
 |nil=>rfl
 |cons v l az=>simp[q3,az]
mutual
theorem Pw:∀v:aL,v.owns.filter (·%2==0)=[]->v.jS=v
 |.own k,h=>by simp[aL.owns,show(k+k)%2=0 by omega]at h
 |.fF k _ _,h=>by simp[aL.owns,show(k+k)%2=0 by omega]at h
 |.fn f l,h=>by simp only[aL.jS,yt l (by simpa only[aL.owns]using h)]
 |.ft l o,h=>by simp only[aL.jS,yt l (by simpa only[aL.owns]using h)]
 |.agg l,h=>by simp only[aL.jS,yt l (by simpa only[aL.owns]using h)]
 |.bD l,h=>by simp only[aL.jS,yt l (by simpa only[aL.owns]using h)]
 |.lit a b l,h=>by simp only[aL.jS,yt l (by simpa only[aL.owns]using h)]
 |.e _,_ | .undef,_ | .bT,_ | .ptr _ _,_ | .aV _ _ _,_ | .c8,_ | .cq _,_ | .fQ _ _ _,_=>by simp only[aL.jS]
theorem yt:∀l:List aL,(nV l).filter (·%2==0)=[]->q3 l=l
 |[],_=>rfl
 |v::l,h=>by
  simp only[nV,List.filter_append,List.append_eq_nil_iff]at h;simp only[q3,Pw v h.1,yt l h.2]
end
theorem ME(v:aL):v.kI=.bT\/(v.kI=v/\v.jS=v):=by
 unfold aL.kI;grind [aL.jS,Pw]
section
variable{X:Ctx}{F:cP}{C:b2->FuncId->List aa->Option aa}{n:Nat}{R:Out->Prop}{S br:Sym}{ρ b1:List aa}{ids dK:Nat->Option Nat}{s s':aA}{E E':Env}
theorem Im(EE:List b9)(mb:E.ρ<+:E'.ρ)(aI:E.fw<=E'.fw):j8 F E E' aL.jS (aa.sub EE):=by
 refine⟨QM EE,mb,λ_=>by simp only[aL.jS],by simp only[aL.jS],by simp only[aL.jS],by simp only[aL.jS],λ_ _ _=>by simp only[aL.jS],λ_=>by simp only[aL.jS],λg c=>by simp only[aL.jS,At],λc=>by simp only[aL.jS,At],λc=>by simp only[aL.jS,At],λ_ _ c=>by simp only[aL.jS,At],λc _=>by simp only[aL.jS,At],λj o q aH=>?_,λj o z q aH=>?_,λq aH=>?_,λk q aH=>?_,λk x fo q aH=>?_⟩
 ·unfold bZ at aH;rw[aH.1,Ep];refine⟨?_,.inr rfl⟩;simp only[aL.jS];unfold bZ;exact⟨rfl,Nat.lt_of_lt_of_le aH.2 aI⟩
 ·unfold bZ at aH;rw[aH.1,DL];refine⟨?_,.inr rfl⟩;simp only[aL.jS];unfold bZ;exact⟨rfl,Nat.lt_of_lt_of_le aH.2 aI⟩
 ·unfold bZ at aH;rw[aH.1,Ep]
 ·simp only[aL.jS];exact⟨by simp only[bZ],.inl trivial⟩
 ·simp only[aL.jS];exact⟨by simp only[bZ],.inl trivial⟩
theorem Oy(EE:List b9)(mb:E.ρ<+:E'.ρ)(aI:E.fw<=E'.fw){v:aL}{q:aa}(h:bZ F E v q):bZ F E' v.kI (q.sub EE):=by
 rcases ME v with e|⟨e,e'⟩
 ·grind [bZ]
 ·have:=(Im EE mb aI).ow h;grind
def cP.sub(F:cP)(S:Sym)(ρ:List aa)(ids:Nat->Option Nat)(s:aA)(ys:List eN):cP:={ F with cV:=⟨s.m.an,s.m.n,ys⟩,UF:=λk=>S.bd.getD k none,TC:=ids,GI:=ρ }
theorem Io(y:Nat):s.c7[y]?.map eN.l=s.a0.ys[y]?.map eN.l:=by grind [aA.c7,aA.qZ]
theorem Dy(h:s.a0=F.cV)(S:Sym)(ρ:List aa)(ids:Nat->Option Nat)(l:List eN):rj F (F.sub S ρ ids s (s.c7++l)):=
 ⟨rfl,rfl,rfl,rfl,λy k aF=>by
  show(s.c7++l)[y]?.map eN.l=some k;grind [Io,List.getElem?_append_left]⟩
theorem Zi(h:s.a0=F.cV)(S:Sym)(ρ:List aa)(ids:Nat->Option Nat)(l:List eN){n:Nat}(aI:n<=F.cV.ys.length):Bl n (F.sub S ρ ids s (s.c7++l)) F:=
 ⟨rfl,rfl,rfl,rfl,λy k aU aF=>by
  have aF:(s.c7++l)[y]?.map eN.l=some k:=aF;grind [List.getElem?_append_left,Io]⟩
theorem Hm(h:s.a0=F.cV)(S:Sym)(ρ:List aa)(ids:Nat->Option Nat):rj (F.sub S ρ ids s s.c7) F:=
 ⟨rfl,rfl,rfl,rfl,λy k aF=>by
  have aF:s.c7[y]?.map eN.l=some k:=aF;grind [Io]⟩
theorem wx:∀(ys:List cj)(l:List eN),List.zipWith cj.now ys (s.qZ l)=List.zipWith cj.now ys l
 |[],_=>by simp
 |_::_,[]=>by rfl
 |y::ys,r::l=>by
  have:=wx ys l;grind [aA.qZ,List.zipWith_cons_cons,cj.now]
theorem zL.core{y dj:cj}{r:eN}(h:zL F y r)(e:dj.core=y.core):zL F dj r:=by
 obtain⟨g,f,a7,kV,body,p,pend,busy⟩:=y;obtain⟨rfl,rfl,rfl,rfl,rfl,rfl,_⟩:=e;exact⟨h.a7,h.kV,h.body,h.lt,h.LY,h.LZ,h.own,h.g⟩
theorem aaT{Y ys:List cj}(h:Y.map cj.core=ys.map cj.core){i:Nat}{y:cj}(aF:Y[i]?=some y):∃dj,ys[i]?=some dj/\y.core=dj.core:=by
 have:=congrArg (λl=>l[i]?) h;grind
theorem lW.Gf{ys Y:List cj}{rc:List (Nat×Loop)}(h:lW F ys ρ rc)(fA:Y.map cj.core=ys.map cj.core)(ae:ρ<+:b1):lW F Y b1 (List.zipWith cj.now Y F.cV.ys++F.kv):=
 ⟨h.pre.trans ae,by have:=congrArg List.length fA;simp  at this;rw[this];exact h.len,rfl,λi y r aF ad=>by
  obtain⟨dj,U,ab⟩:=aaT fA aF;exact(h.y i dj r U ad).core ab,h.ne,h.zK⟩
theorem IQ(h:Rel F S ρ ids s){y:cj}{r:eN}(aF:zL F y r)(l:List eN):zL (F.sub S ρ ids s (s.c7++l)) y { r with g:=λt=>(r.g t).sub s.bb }:=by
 refine⟨aF.a7,aF.kV,aF.body,aF.lt,aF.LY,aF.LZ,aF.own,λt=>?_⟩;have:=(Im (F:=F) (E:=⟨F.GI,[],F.cV.n-F.n0,λ_=>none⟩) (E':=⟨ρ,[],s.m.n-F.n0,λ_=>none⟩) s.bb h.rc.pre (by
  have U:=h.dO;have ab:=h.mS;have al:=h.dt;grind)).ow (aF.g t)
 rw[aF.own t]at this;exact yV (Dy h.a0 S ρ ids l) this
theorem sE(h:s.a0=F.cV):s.c7=s.qZ F.cV.ys:=by rw[←h];rfl
theorem QN(h:s.a0=F.cV):s.c7.length=F.cV.ys.length:=by grind [sE,aA.qZ]
theorem EM(h:Rel F S ρ ids s):lW (F.sub S ρ ids s s.c7) S.ys ρ s.m.rc:=by
 have e:=sE h.a0;refine⟨List.prefix_refl _,by rw[h.rc.len];exact(QN h.a0).symm,?_,λi y r aF ad=>?_,λi j r bR aX aC ak=>?_,λr ad p ae=>?_⟩
 ·rw[h.rc.rc];show _=List.zipWith cj.now S.ys s.c7++F.kv;rw[e,wx]
 ·have ad:s.c7[i]?=some r:=ad;rw[e]at ad;simp only[aA.qZ,List.getElem?_map]at ad;obtain⟨r0,U,rfl⟩:=Option.map_eq_some_iff.1 ad;have:=IQ h (h.rc.y i y r0 aF U) [];grind
 ·have aX:s.c7[i]?=some r:=aX;have aC:s.c7[j]?=some bR:=aC;rw[e]at aX aC;simp only[aA.qZ,List.getElem?_map]at aX aC;obtain⟨r0,U,rfl⟩:=Option.map_eq_some_iff.1 aX;obtain⟨eh,ab,rfl⟩:=Option.map_eq_some_iff.1 aC;exact h.rc.ne i j r0 eh U ab ak
 ·rw[e]at ad;obtain⟨r0,U,rfl⟩:=List.mem_map.1 ad;exact h.rc.zK r0 U p ae
theorem AV:∀{a:List aL}{a':List aa},jd F E a a'->a.length=a'.length/\∀(j:Nat) v q,a[j]?=some v->a'[j]?=some q->bZ F E v q
 |[],a',h=>by grind [jd]
 |v::a,a',h=>by
  obtain⟨q,r,rfl,U,ab⟩:=h;obtain⟨g1,g2⟩:=AV ab;grind
theorem Ip(h:Rel F S ρ ids s){ys:List eN}{Y:List cj}{rc:List (Nat×Loop)}(mH:rj F (F.sub S ρ ids s ys))(fb:lW (F.sub S ρ ids s ys) Y ρ rc){g:List (Nat×aL)}{jg:Nat->aa}(aN:∀t,bZ (F.sub S ρ ids s ys) (S.env ρ ids) (cF g t) (jg t))(site:Nat):
  Rel (F.sub S ρ ids s ys) (({ S with ys:=Y }:Sym).sub g site) ρ ids ⟨jg,{ s.m with rc:=rc },⟨s.m.an,s.m.n,ys⟩,[]⟩:=by
 refine⟨h.len,h.cU,aN,h.dt,h.old,λi b hb=>Jp mH (h.box i b hb),h.hO,h.mv,h.arr,rfl,⟨Nat.le_trans h.cV.1 h.an,by show F.n0<=s.m.n;rw[h.dt];omega⟩,λe he=>by simp at he,λ_=>rfl,λ_ k id cr aq=>?_,λ_ k aq=>⟨rfl,rfl⟩,h.dt,Nat.le_refl _,Nat.le_refl _,Nat.le_refl _,h.kZ,fb⟩;exact absurd (h.hO k id cr).2.2 (by have gx:S.bd.length<=k:=aq;omega)
theorem rR:∀(l:List aL)(i t:Nat),i<=t->cF (hj i l) t=l.getD (t-i) .bT
 |[],_,_,_=>by simp[hj,cF]
 |v::l,i,t,h=>by
  simp only[hj,cF];split
  ·rename_i e;have:=Nat.eq_of_beq_eq_true e;subst this;simp
  ·rename_i e;have bU:i≠t:=λk=>e (by subst k;exact Nat.beq_refl _);rw[rR l (i+1) t (by omega),show t-i=(t-(i+1))+1 by omega];simp
theorem QO{F:cP}{E:Env}{args:List aL}{bz:List aa}(au:jd F E args bz)(t:Nat):bZ F E (cF (hj 0 args) t) ((bz[t]?).getD aa.undef):=by
 obtain⟨g1,g2⟩:=AV au;rw[rR args 0 t (Nat.zero_le _),List.getD_eq_getElem?_getD,Nat.sub_zero];rcases Nat.lt_or_ge t args.length with ak|ak
 ·have aK:args[t]?=some args[t]:=by simp[ak]
  have aO:bz[t]?=some bz[t]:=by simp[show t<bz.length by omega]
  rw[aK,aO];exact g2 t _ _ aK aO
 ·rw[List.getElem?_eq_none ak];simp only[Option.getD_none,bZ]
theorem Er{F fq:cP}{E:Env}(h:rj F fq):∀{a:List aL}{a':List aa},jd F E a a'->jd fq E a a'
 |[],a',bc=>bc
 |v::a,a',bc=>by
  obtain⟨q,r,rfl,U,ab⟩:=bc;exact⟨q,r,rfl,yV h U,Er h ab⟩
theorem acA(h:Rel F S ρ ids s){args:List aL}{bz:List aa}(au:jd F (S.env ρ ids) args bz)(site:Nat):Rel (F.sub S ρ ids s s.c7) (S.sub (hj 0 args) site) ρ ids (wE s.c7 bz s.m):=by
 have mH:rj F (F.sub S ρ ids s s.c7):=by have:=Dy h.a0 S ρ ids [];rwa[List.append_nil]at this
 exact Ip h mH (EM h) (QO (Er mH au)) site
theorem HI(h:Rel F S ρ ids s){ys:List eN}(bc:Rel (F.sub S ρ ids s ys) br b1 dK s')(nY:ρ<+:b1)(hb:br.base=S.bd.length)(tk:br.dO=S.bx.length)(nt:S.bx.length<=br.bx.length)
  {bx:List ga} (se:bx.length=br.bx.length) (BX:∀i b,bx[i]?=some b->vQ F (br.env b1 dK) b (s'.m.β (F.n0+i))) {Y:List cj} {rc:List (Nat×Loop)} (fb:lW F Y b1 rc) (fA:Y.map cj.core=S.ys.map cj.core):
  Rel F { S.back br with bx:=bx,ys:=Y } b1 dK (s.after s'.bb { s'.m with rc:=rc })/\Ext S ρ { S.back br with bx:=bx,ys:=Y } b1:=by
 have ej:({ S.back br with bx:=bx,ys:=Y }:Sym).env b1 dK=br.env b1 dK:=by simp[Sym.env,Sym.back,se]
 have hlen:S.bd.length<=br.bd.length:=by rw[←hb];exact bc.lG
 refine⟨?_,nY,rfl,rfl,rfl,rfl,fA,by show S.bx.length<=bx.length;omega,?_⟩
 ·refine⟨bc.len,bc.cU,λt=>?_,by show s'.m.n=F.n0+bx.length;rw[se];exact bc.dt,bc.old,λi b hb=>by rw[ej];exact BX i b hb,bc.hO,bc.mv,λk a au=>by rw[ej];exact bc.arr k a au,h.a0,h.cV,λe he=>?_,λhe=>?_,λhe k id cr aq=>?_,λhe k aq=>?_,h.dO,Nat.le_trans h.lG hlen,Nat.le_trans h.mS (by show S.bx.length<=bx.length;omega),Nat.le_trans h.an bc.an,h.kZ,fb⟩
  ·rw[ej];show bZ F (br.env b1 dK) (cF (if br.bb=true then mapA aL.kI S.g else S.g) t) ((s.g t).sub s'.bb);cases he:br.bb with
   |true=>
    rw[if_pos rfl];have e:cF (mapA aL.kI S.g) t=(S.get t).kI:=hJ (by simp[aL.kI,aL.owns]) _ t;rw[e];exact Oy (E:=S.env ρ ids) (E':=br.env b1 dK) _ nY nt (h.slot t)
   |false=>
    rw[if_neg (by simp),bc.bb (.inl he)];have hle:(S.env ρ ids).le (br.env b1 dK):=by
     have aU:∀k a,S.bd.getD k none=some a->k<S.bd.length:=λk a au=>by
      rw[List.getD_eq_getElem?_getD]at au;rcases Nat.lt_or_ge k S.bd.length with ak|ak
      ·exact ak
      ·rw[List.getElem?_eq_none ak]at au;cases au
     refine⟨nY,λk a au=>?_,nt,λk a au=>?_⟩
     ·have:=(bc.keep he k (by rw[hb];exact aU k a au)).1;exact this.trans au
     ·exact(bc.keep he k (by rw[hb];exact aU k a au)).2
    exact bZ.mono hle (h.slot t)
  ·rcases Hn he with he|he
   ·exact h.kY e he
   ·exact bc.kY e he
  ·show gV s.a0.a s.bb s'.bb=[];have aK:s.bb=[]:=h.bb (A9 he);rw[aK,Ha];rcases he with he|he
   ·have:(S.bb||br.bb)=false:=he;simp only[Bool.or_eq_false_iff]at this;rw[bc.bb (.inl this.2)];rfl
   ·refine Da λe vC=>?_;rw[h.a0,←he];exact(bc.kY e vC).1
  ·have:(S.bb||br.bb)=false:=he;simp only[Bool.or_eq_false_iff]at this;have gx:S.base<=k:=aq;rcases Nat.lt_or_ge k S.bd.length with ak|ak
   ·have:=(bc.keep this.2 k (by rw[hb];exact ak)).2;exact h.new ‹S.bb=false/\_›.1 k id (this.symm.trans cr) gx
   ·exact Nat.le_trans h.an (bc.new this.2 k id cr (by rw[hb];exact ak))
  ·have:(S.bb||br.bb)=false:=he;simp only[Bool.or_eq_false_iff]at this;have gx:k<S.base:=aq;obtain⟨k1,k2⟩:=bc.keep this.2 k (by rw[hb];exact Nat.lt_of_lt_of_le gx h.lG);obtain⟨bP,cX⟩:=h.keep this.1 k gx;exact⟨k1.trans bP,k2.trans cX⟩
 ·rfl
theorem acB(h:Rel F S ρ ids s)(bc:Rel (F.sub S ρ ids s s.c7) br b1 dK s'):s'.m.rc=List.zipWith cj.now br.ys F.cV.ys++F.kv:=by
 rw[bc.rc.rc];show List.zipWith cj.now br.ys s.c7++F.kv=_;rw[sE h.a0,wx]
theorem acC(h:Rel F S ρ ids s)(bc:Rel (F.sub S ρ ids s s.c7) br b1 dK s')(nY:ρ<+:b1)(hb:br.base=S.bd.length)(tk:br.dO=S.bx.length)(tw:br.ys.map cj.core=S.ys.map cj.core)(nt:S.bx.length<=br.bx.length):
  Rel F (S.back br) b1 dK (s.after s'.bb s'.m)/\Ext S ρ (S.back br) b1:=by
 have fb:=h.rc.Gf tw nY;rw[←acB h bc]at fb;exact HI h bc nY hb tk nt rfl (λi b hb=>Jp (Hm h.a0 S ρ ids) (bc.box i b hb)) fb tw
theorem IS(ad:Rel F S ρ ids s):∀{l:List ResultVar}{af:List aL},pA X S l=some af->∃bz,q9 X.P s l=some bz/\jd F (S.env ρ ids) af bz
 |[],af,h=>by
  simp[pA]at h;subst h;exact⟨[],rfl,rfl⟩
 |.tmp t::l,af,h=>by
  obtain⟨cB,U,rfl⟩:=Option.map_eq_some_iff.1 h;obtain⟨bz,ab,al⟩:=IS ad U;exact⟨_,by grind [q9,uQ],_,_,rfl,ad.slot t,al⟩
 |.cell x t::l,af,h=>by
  simp only[pA]at h;split at h
  ·rename_i i off aj;split at h
   ·rename_i v cB ai e0;injection h with h;subst h;obtain⟨bz,ab,al⟩:=IS ad e0;obtain⟨q,aJ,bm⟩:=Px (m0:=s.m) (lx:=none) ad rfl ai;have hB:=ad.slot x;unfold bZ at hB;exact⟨_,by grind [q9,uQ],_,_,rfl,bm,al⟩
   ·cases h
  ·cases h
theorem Es(ad:Rel F S ρ ids s){l:List ResultVar}{af:List aL}(h:pA X S l=some af):∃q,pt X.P s l=some q/\bZ F (S.env ρ ids) (pB af) q:=by
 obtain⟨bz,U,ab⟩:=IS ad h;have bD:∀{af:List aL}{bz:List aa},jd F (S.env ρ ids) af bz->hk F (S.env ρ ids) af bz:=by
  intro af;induction af with
  |nil=>intro bz h;exact h
  |cons v af az=>
   intro bz h;obtain⟨q,r,rfl,g1,g2⟩:=h;grind [hk]
 unfold pt;rw[U]
 match af,bz,ab with
 |[],[],_=>grind [pB,bZ]
 |[v],[q],ab=>
  obtain⟨dF,r,e,g1,g2⟩:=ab;injection e with aK aO;subst aK;exact⟨q,rfl,g1⟩
 |v::u::af,q::p::bz,ab=>grind [pB,bZ]
 |[],q::bz,ab=>cases ab
 |v::af,[],ab=>obtain⟨_,_,e,_⟩:=ab;cases e
 |[v],q::p::bz,ab=>
  obtain⟨dF,r,e,g1,g2⟩:=ab;injection e with aK aO;subst aO;cases g2
 |v::u::af,[q],ab=>
  obtain⟨dF,r,e,g1,g2⟩:=ab;injection e with aK aO;subst aO;obtain⟨_,_,e,_⟩:=g2;cases e
end
end
end Go.Proofs.YtlminnpaeaganaaGreat
