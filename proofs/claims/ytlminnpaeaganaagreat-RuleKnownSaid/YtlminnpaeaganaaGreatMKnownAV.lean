/- Part of the proof of RuleKnown. No condition. -/
import Derived.Test.YtlminnpaeaganaaGreatMKnownAU
namespace Go.Proofs.YtlminnpaeaganaaGreat
set_option maxRecDepth 100000
set_option linter.all false
section
open Go Go.RowKit
variable[cQ]
theorem QF(ρ:List aa)(l:List aS):ep ρ l=l.map (aS.den ρ):=by
 induction l with
 |nil=>rfl
 |cons x l az=>simp[ep,az]
def zo(S:Sym)(p:Pos)(cu:aS)(fC:Option Nat):Prop:=
 (p.own=none/\(S.at p).cu=some cu/\fC=none) \/
 (∃sz b k a,p.own=some (sz,b)/\S.at p=.own k/\S.arr k=some a/\a.sz=sz/\a.born=b/\b.still=true/\cu=.e a.c/\fC=some k) \/
 (∃sz,p.own=some (sz,.cZ)/\0<sz/\S.at p=.e (.bu .bC)/\cu=.e (.bu (.agg []))/\fC=none)
theorem Nz{S:Sym}:∀{l:List Pos}{a7:List aS}{ck:List (Option Nat)},yU S l=some (a7,ck) ->
  a7.length=l.length/\ck.length=l.length/\(∀(j:Nat) p,l[j]?=some p->∃cu fC,a7[j]?=some cu/\ck[j]?=some fC/\zo S p cu fC)/\(∀(i j:Nat) k,ck[i]?=some (some k)->ck[j]?=some (some k)->i=j)
 |[],a7,ck,h=>by grind [yU]
 |p::l,a7,ck,h=>by
  simp only[yU]at h;split at h
  ·cases h
  ·rename_i iv CC ai;obtain⟨U,ab,al,aJ⟩:=Nz ai;have mk:∀cu fC,zo S p cu fC->(∀k:Nat,fC=some k->CC.contains (some k)=false)->(cu::iv).length=(p::l).length/\(fC::CC).length=(p::l).length/\(∀(j:Nat) q,(p::l)[j]?=some q->∃UW UX,(cu::iv)[j]?=some UW/\(fC::CC)[j]?=some UX/\zo S q UW UX)/\(∀(i j:Nat) k,(fC::CC)[i]?=some (some k)->(fC::CC)[j]?=some (some k)->i=j):=by
    intro cu fC ae aq;refine⟨by simp[U],by simp[ab],λj q aC=>?_,λi j k aX aC=>?_⟩
    ·grind
    grind
   split at h
   ·rename_i ju;split at h
    ·rename_i q aH;injection h with h;injection h with au hb;subst au;subst hb;exact mk _ _ (.inl ⟨ju,aH,rfl⟩) (λk e=>by cases e)
    ·cases h
   ·rename_i sz b k ju dA;split at h
    ·rename_i a ag1;split at h
     ·rename_i ah;injection h with h;injection h with au hb;subst au;subst hb;exact mk _ _ (.inr (.inl ⟨sz,b,k,a,ju,dA,ag1,ah.1,e9.dh ah.2.1,ah.2.2.1,rfl,rfl⟩)) (λbB e=>by grind)
     ·cases h
    ·cases h
   ·rename_i sz ju dA;split at h
    ·rename_i bX;injection h with h;injection h with au hb;subst au;subst hb;exact mk _ _ (.inr (.inr ⟨sz,ju,bX,dA,rfl,rfl⟩)) (λk e=>by cases e)
    ·cases h
   ·cases h
theorem Oq{ba S:Sym}:∀{l:List Nat}{a7:List aS},y0 ba S l=some a7->a7.length=l.length/\∀(j k:Nat),l[j]?=some k->∃h a,ba.arr k=some h/\S.arr k=some a/\a7[j]?=some (.e a.c)/\a.sz=h.sz/\a.born=h.born
 |[],a7,h=>by grind [y0]
 |k::l,a7,h=>by
  simp only[y0]at h;split at h
  ·rename_i x a iv U ab al;split at h
   ·injection h with h;obtain⟨g1,g2⟩:=Oq al;grind [e9.dh]
   ·cases h
  ·cases h
def TB(H:Sym)(n v:Nat)(p:Pos):Prop:=
 (p.own=none/\H.at p=.e (.var v))\/∃sz b K,p.own=some (sz,b)/\H.at p=.own K/\n<=K/\H.arr K=some ⟨sz,b,.var v⟩
theorem Ot{H:Sym}{n:Nat}:∀{l:List Pos}{v:Nat},Bi H n v l=true->∀(j:Nat) p,l[j]?=some p->TB H n (v+j) p
 |[],v,h,j,p,aC=>by simp at aC
 |q::l,v,h,j,p,aC=>by
  simp[Bi]at h;cases j with
  |zero=>
   simp at aC;subst aC;obtain⟨h,_⟩:=h;split at h
   ·rename_i ar;exact .inl ⟨ar,aL.dh h⟩
   ·rename_i sz b ar;split at h
    ·rename_i K eP;simp  at h;obtain⟨U,ab⟩:=h;split at ab
     ·rename_i a au;refine .inr ⟨sz,b,K,ar,eP,U,?_⟩;cases a;grind [e9.dh,aR.dh]
     ·cases ab
    ·cases h
  |succ j=>
   have:=Ot h.2 j p (by grind);grind
theorem NA{H ba:Sym}:∀{l:List Nat}{v:Nat},A8 H ba v l=true->(∀(j k:Nat),l[j]?=some k->∃a,ba.arr k=some a/\H.arr k=some ⟨a.sz,a.born,.var (v+j)⟩)
 |[],v,h,j,k,aC=>by simp at aC
 |q::l,v,h,j,k,aC=>by
  simp[A8]at h;obtain⟨⟨U,ab⟩,al⟩:=h;cases j with
  |zero=>
   simp at aC;subst aC;split at U
   ·rename_i x a aj au;cases x;grind [e9.dh,aR.dh]
   ·cases U
  |succ j=>
   have:=NA al j k (by grind);grind
theorem Dg{H:Sym}:∀{l:List Pos}{j:Nat}{p:Pos},l[j]?=some p->(nS H l)[j]?=some (match p.own,H.at p with|some _,.own K=>some K|_,_=>none)
 |[],j,p,h=>by simp at h
 |q::l,j,p,h=>by
  cases j with
  |zero=>simp at h;subst h;rfl
  |succ j=>simp[nS];exact Dg (by grind)
theorem Mo{H:Sym}(l:List Pos):(nS H l).length=l.length:=by
 induction l with
 |nil=>rfl
 |cons p l az=>simp[nS,az]
theorem GS:∀{l:List (Option Nat)},sr l=true->∀(i j:Nat) k,l[i]?=some (some k)->l[j]?=some (some k)->i=j
 |[],h,i,j,k,aX,aC=>by simp at aX
 |none::l,h,i,j,k,aX,aC=>by
  simp only[sr]at h;cases i with
  |zero=>simp at aX
  |succ i=>
   cases j with
   |zero=>simp at aC
   |succ j=>exact congrArg (·+1) (GS h i j k (by grind) (by grind))
 |some q::l,h,i,j,k,aX,aC=>by
  simp[sr]at h;cases i with
  |zero=>grind
  |succ i=>
   cases j with
   |zero=>grind
   |succ j=>exact congrArg (·+1) (GS h.2 i j k (by grind) (by grind))
def uY:List (Option Nat)->List (Option Nat)->Nat->Option Nat
 |K::nH,bB::ck,k=>if K=some k then bB else uY nH ck k
 |_,_,_=>none
theorem Ov:∀{nH ck:List (Option Nat)}{j k:Nat}{fC:Option Nat},(∀(i j:Nat) k,nH[i]?=some (some k)->nH[j]?=some (some k)->i=j)->nH[j]?=some (some k)->ck[j]?=some fC->uY nH ck k=fC
 |[],ck,j,k,fC,aV,h,bc=>by simp at h
 |K::nH,[],j,k,fC,aV,h,bc=>by simp at bc
 |K::nH,bB::ck,j,k,fC,aV,h,bc=>by
  simp only[uY];cases j with
  |zero=>simp at h bc;rw[if_pos h];exact bc
  |succ j=>
   have bU:K≠some k:=λe=>by
    have:=aV 0 (j+1) k (by simp[e]) h;omega
   rw[if_neg bU];exact Ov (λi j k aX aC=>by have:=aV (i+1) (j+1) k (by simpa using aX) (by simpa using aC);omega) (by simpa using h) (by simpa using bc)
theorem NC:∀{nH ck:List (Option Nat)}{k bB:Nat},uY nH ck k=some bB->∃j:Nat,nH[j]?=some (some k)/\ck[j]?=some (some bB)
 |[],ck,k,bB,h=>by simp[uY]at h
 |K::nH,[],k,bB,h=>by simp[uY]at h
 |K::nH,q::ck,k,bB,h=>by
  simp only[uY]at h;split at h
  ·rename_i e;exact⟨0,by simp[e],by simp[h]⟩
  ·obtain⟨j,U,ab⟩:=NC h;exact⟨j+1,by simpa using U,by simpa using ab⟩
theorem Ow{l:List Pos}{box:Bool}{i j:Nat}(h:sY l box i j=true):∃(n:Nat)(p:Pos),l[n]?=some p/\p.box=box/\p.i=i/\(box=true->p.j=j):=by
 unfold sY at h;obtain⟨p,ae,ah⟩:=List.any_eq_true.1 h;simp only[Bool.and_eq_true,beq_iff_eq,decide_eq_true_eq,Bool.or_eq_true,Bool.not_eq_true']at ah;obtain⟨n,aI⟩:=List.mem_iff_getElem?.1 ae;exact⟨n,p,aI,ah.1.1,ah.1.2,λhb=>ah.2.resolve_left (by rw[hb];simp)⟩
theorem HH{P:Nat->Bool}{H:Sym}{n:Nat}:∀{ao us af:List aL}{t:Nat},pq P H n t ao us af=true->ao.length=us.length/\ao.length=af.length/\∀(j:Nat) h u v,ao[j]?=some h->us[j]?=some u->af[j]?=some v->P (t+j)=true\/BC H n h u v=true
 |[],[],[],t,_=>by simp
 |h::ao,u::us,v::af,t,bq=>by
  simp only[pq,Bool.and_eq_true,Bool.or_eq_true]at bq;obtain⟨g1,g2,g3⟩:=HH bq.2;refine⟨by simp[g1],by simp[g2],λj a b c au hb ah=>?_⟩;cases j with
  |zero=>simp at au hb ah;subst au;subst hb;subst ah;exact bq.1
  |succ j=>
   have:=g3 j a b c (by simpa using au) (by simpa using hb) (by simpa using ah);rwa[show t+1+j=t+(j+1)by omega]at this
 |[],[],_::_,t,h=>by simp[pq]at h
 |[],_::_,_,t,h=>by simp[pq]at h
 |_::_,[],_,t,h=>by simp[pq]at h
 |_::_,_::_,[],t,h=>by simp[pq]at h
theorem NB{H:Sym}{n:Nat}{h u v:aL}(bq:BC H n h u v=true):h=.bT\/(h=u/\h=v/\h.qj H n=true):=by
 unfold BC at bq;split at bq
 ·exact .inl rfl
 ·simp only[Bool.and_eq_true]at bq;exact .inr ⟨aL.dh bq.1.1,aL.dh bq.1.2,bq.2⟩
theorem Bh:∀{l:List (Nat×aL)}{t:Nat},(∀p∈l,p.1≠t)->cF l t=.bT
 |[],_,_=>rfl
 |(d,v)::l,t,h=>by
  simp only[cF];rw[if_neg λe=>h (d,v) (by simp) (Nat.eq_of_beq_eq_true e)];exact Bh λp ae=>h p (by simp[ae])
theorem A6{P:Nat->Bool}{H ba S:Sym}{n:Nat}:∀{l:List (Nat×aL)},ng P H ba S n l=true->∀p∈l,P p.1=true\/BC H n (H.get p.1) (ba.get p.1) (S.get p.1)=true
 |[],_,p,ae=>by cases ae
 |q::l,h,p,ae=>by
  simp only[ng,Bool.and_eq_true,Bool.or_eq_true]at h;rcases List.mem_cons.1 ae with rfl|ae
  ·exact h.1
  ·exact A6 h.2 p ae
def Fc(l:List Pos)(H:Sym)(n i:Nat):ga->ga->ga->Prop
 |.cells ao,.cells us,.cells af=>pq (sY l true i) H n 0 ao us af=true
 |.c8,.c8,.c8=>True
 |.gone,_,_=>True
 |_,_,_=>False
theorem Ou{l:List Pos}{H:Sym}{n:Nat}:∀{a b c:List ga}{i:Nat},jR l H n i a b c=true->a.length=b.length/\a.length<=c.length/\∀(j:Nat) x y z,a[j]?=some x->b[j]?=some y->c[j]?=some z->Fc l H n (i+j) x y z
 |[],[],c,i,h=>by simp
 |[],_::_,c,i,h=>by simp[jR]at h
 |x::a,[],c,i,h=>by cases x<;>simp[jR]at h
 |x::a,y::b,[],i,h=>by cases x<;>cases y<;>simp[jR]at h
 |x::a,y::b,z::c,i,h=>by
  have key:Fc l H n i x y z/\jR l H n (i+1) a b c=true:=by
   cases x with
   |cells ao=>cases y with
    |cells us=>cases z with
     |cells af=>simpa[jR,Fc]using h
     |c8=>simp[jR]at h
     |gone=>simp[jR]at h
    |c8=>simp[jR]at h
    |gone=>simp[jR]at h
   |c8=>cases y with
    |c8=>cases z with
     |c8=>simpa[jR,Fc]using h
     |cells _=>simp[jR]at h
     |gone=>simp[jR]at h
    |cells _=>simp[jR]at h
    |gone=>simp[jR]at h
   |gone=>exact⟨trivial,by simpa[jR]using h⟩
  obtain⟨g1,g2,g3⟩:=Ou key.2;refine⟨by simp[g1],by simp;omega,λj p q r ae aH ad=>?_⟩;cases j with
  |zero=>simp at ae aH ad;subst ae;subst aH;subst ad;exact key.1
  |succ j=>
   have:=g3 j p q r (by simpa using ae) (by simpa using aH) (by simpa using ad);rwa[show i+1+j=i+(j+1)by omega]at this
end
section
open Go Go.RowKit
variable[cQ]
structure js(S H:Sym):Prop where
 base:H.base=S.base
 dO:H.dO=S.dO
 site:H.site=S.site
 cU:H.cU=S.cU
 ys:H.ys=S.ys
theorem js.refl(S:Sym):js S S:=⟨rfl,rfl,rfl,rfl,rfl⟩
theorem js.trans{S ba ji:Sym}(h:js S ba)(k:js ba ji):js S ji:=⟨k.base.trans h.base,k.dO.trans h.dO,k.site.trans h.site,k.cU.trans h.cU,k.ys.trans h.ys⟩
theorem Nx:∀(l:List Nat)(S:Sym),js S (S.xj l)
 |[],S=>js.refl S
 |k::l,S=>by
  have h:js S { S.dD (aL.q2 k true)with bd:=S.bd.set k none }:=⟨rfl,rfl,rfl,rfl,rfl⟩;exact h.trans (Nx l _)
theorem MX(S:Sym)(p:Pos)(v:aL):js S (S.setAt p v):=by
 unfold Sym.setAt;split
 ·split
  ·exact⟨rfl,rfl,rfl,rfl,rfl⟩
  ·exact js.refl S
 ·exact⟨rfl,rfl,rfl,rfl,rfl⟩
theorem G5:∀(l:List Pos)(S:Sym),js S (S.fresh l)
 |[],S=>js.refl S
 |p::l,S=>by
  simp only[Sym.fresh];split
  ·have h:=MX S p (.e (.var S.cd));have bc:js S { S.setAt p (.e (.var S.cd))with cd:=S.cd+1 }:=⟨h.base,h.dO,h.site,h.cU,h.ys⟩;exact bc.trans (G5 l _)
  ·rename_i sz b _;have h:=MX S p (.own S.bd.length);have bc:js S { S.setAt p (.own S.bd.length)with bd:=S.bd++[some ⟨sz,b,.var S.cd⟩],cd:=S.cd+1 }:=⟨h.base,h.dO,h.site,h.cU,h.ys⟩;exact bc.trans (G5 l _)
theorem GY:∀(l:List Nat)(S:Sym),js S (S.A7 l)
 |[],S=>js.refl S
 |k::l,S=>by
  simp only[Sym.A7];split
  ·rename_i a _;have bc:js S { S with bd:=S.bd.set k (some { a with c:=.var S.cd }),cd:=S.cd+1 }:=⟨rfl,rfl,rfl,rfl,rfl⟩;exact bc.trans (GY l _)
  ·have bc:js S { S with cd:=S.cd+1 }:=⟨rfl,rfl,rfl,rfl,rfl⟩;exact bc.trans (GY l _)
theorem MD(b4:mz)(S:Sym):js S (oC b4 S):=by
 have U:=Nx (ve S b4.pos) S;have ab:js (S.xj (ve S b4.pos)) ((S.xj (ve S b4.pos)).keep b4.live):=⟨rfl,rfl,rfl,rfl,rfl⟩;have al:=G5 b4.pos ((S.xj (ve S b4.pos)).keep b4.live);have aJ:=GY b4.iI (Sym.fresh ((S.xj (ve S b4.pos)).keep b4.live) b4.pos);have h:=((U.trans ab).trans al).trans aJ;exact⟨h.base,h.dO,h.site,h.cU,h.ys⟩
structure TA(b4:mz)(ba H S:Sym)(a7 bz:List aS)(ck:List (Option Nat)):Prop where
 v:yU S b4.pos=some (a7,ck)
 a:y0 ba S b4.iI=some bz
 cd:H.cd=ba.cd+b4.pos.length+b4.iI.length
 pos:Bi H ba.bd.length ba.cd b4.pos=true
 iI:A8 H ba (ba.cd+b4.pos.length) b4.iI=true
 agA:sr (nS H b4.pos)=true
 fresh:IP (nS H b4.pos) ba.bd.length H.bd.length=true
 le:ba.bd.length<=H.bd.length
 g:ng (λt=>sY b4.pos false t 0) H ba S ba.bd.length H.g=true
 b:jR b4.pos H ba.bd.length 0 H.bx ba.bx S.bx=true
 sa:JP ck b4.iI H ba S ba.bd.length=true
 amN:∀k∈b4.iI,k<ba.bd.length
 y:Bj H.ys S.ys=true
 e:b4.bb=true\/S.bb=false/\Jn H ba S ck b4.iI=true
theorem Ny{b4:mz}{ba H S:Sym}{af:List aS}(h:Em b4 ba H S=some af):∃a7 bz ck,af=a7++bz/\TA b4 ba H S a7 bz ck:=by
 unfold Em at h;split at h
 ·rename_i a7 ck ai;split at h
  ·rename_i bz au;split at h
   ·rename_i ah;injection h with h;simp  at ah;obtain⟨⟨⟨⟨⟨⟨⟨⟨⟨⟨⟨U,ab⟩,al⟩,aJ⟩,bm⟩,bI⟩,cS⟩,et⟩,gp⟩,h7⟩,mF⟩,nv⟩:=ah;exact⟨a7,bz,ck,h.symm,ai,au,U,ab,al,aJ,bm,bI,cS,et,gp,h7,mF,nv⟩
   ·cases h
  ·cases h
 ·cases h
section
variable{F:cP}{S ba H:Sym}{ρ bY:List aa}{ids kP:Nat->Option Nat}{s s1:aA}{a7 bz:List aS}{ck:List (Option Nat)}{b4:mz}{ρH:List aa}{idsH:Nat->Option Nat}
theorem QE{p:Pos}{cu:aS}{fC:Option Nat}{v sz:Nat}{b:e9}{K:Nat}(h:Rel F S ρ ids s)(ju:p.own=some (sz,b))(ew:zo S p cu fC)(rA:ρH.getD v .bad=cu.den ρ)(cr:idsH K=fC.bind ids):
  ∃cs,c6.rel (H.env ρH idsH) K ⟨sz,b,.var v⟩ cs/\∀q,bZ F (S.env ρ ids) (S.at p) q->q=mO b (idsH K) sz cs/\bG cs=true:=by
 rcases ew with⟨U,_⟩|⟨iL,a6,k,a,U,ab,al,aJ,bm,bI,rfl,rfl⟩|⟨iL,U,ab,al,rfl,rfl⟩
 ·rw[ju]at U;cases U
 ·rw[ju]at U;injection U with U;injection U with aK aO;subst aK;subst aO;obtain⟨cs,ad⟩:=h.arr k a al;obtain⟨eh,r2,nF,x4,nG,LV⟩:=ad;have mb:(S.env ρ ids).ρ=ρ:=rfl;rw[mb]at eh r2 nG;have ae:bG cs=true:=by have:=aR.jJ eh;rw[r2]at this;simpa only[aa.plain]using this
  have h2:ρH.getD v .bad=.agg cs:=by rw[rA];simp only[aS.den,r2]
  have fK:∀b1,isNil b1 a.born cs=isNil ρ a.born cs:=λb1=>by
   cases hb:a.born with
   |dyn x=>rw[←bm,hb]at bI;cases bI
   |map=>rw[←bm,hb]at bI;cases bI
   |it=>rw[←bm,hb]at bI;cases bI
   |real=>rfl
   |cZ=>rfl
  refine⟨cs,⟨?_,h2,by rw[←aJ];exact nF,by rw[←aJ];exact x4,?_,λx e=>?_⟩,λq aH=>⟨?_,ae⟩⟩
  ·show(ρH.getD v .bad).plain=true;rw[h2];simpa only[aa.plain]using ae
  ·show isNil ρH b cs=some (idsH K).isNone;rw[cr,←bm,fK ρH,nG];rfl
  ·simp only at e;rw[←bm]at bI;rw[bm,e]at bI;cases bI
  ·rw[ab]at aH;unfold bZ at aH;obtain⟨a',cs',g1,g2,g3⟩:=aH;have:S.arr k=some a':=g1;rw[al]at this;injection this with this;subst this;have:=c6.EK g2 ⟨eh,r2,nF,x4,nG,LV⟩;subst this;rw[g3,cr,←aJ,←bm];rfl
 ·rw[ju]at U;injection U with U;injection U with aK aO;subst aK;subst aO;refine⟨[],⟨?_,?_,ab,by simp,?_,λx e=>by cases e⟩,λq aH=>⟨?_,rfl⟩⟩
  ·show(ρH.getD v .bad).plain=true;rw[rA];rfl
  ·show ρH.getD v .bad=.agg [];rw[rA];rfl
  ·show isNil ρH .cZ []=some (idsH K).isNone;rw[cr];rfl
  ·rw[al]at aH;unfold bZ at aH;rw[cr,aH.1];rfl
theorem adV{p:Pos}{cu:aS}{fC:Option Nat}{v hn N:Nat}(h:Rel F S ρ ids s)(ub:TB H hn v p)(ew:zo S p cu fC)(rA:ρH.getD v .bad=cu.den ρ)(cr:∀K,H.at p=.own K->idsH K=fC.bind ids){q:aa}(aH:bZ F (S.env ρ ids) (S.at p) q):
  bZ F (H.env ρH idsH) (H.at p) (q.cH N)/\(q.one=true->(q.cH N).one=true):=by
 rcases ub with⟨U,ab⟩|⟨sz,b,K,U,ab,al,aJ⟩
 ·rcases ew with⟨g1,g2,g3⟩|⟨iL,a6,k,a,g1,_⟩|⟨iL,g1,_⟩
  ·obtain⟨aK,aO⟩:=wJ g2 aH;have Ga:q=cu.den ρ:=aK;rw[Df _ q aO,ab];refine⟨?_,λh=>h⟩;unfold bZ;have ai:aR.den (H.env ρH idsH).ρ (.var v)=q:=by show ρH.getD v .bad=q;rw[rA,Ga]
   exact⟨ai.symm,by show(ρH.getD v .bad).plain=true;rw[rA,←Ga];exact aO⟩
  ·rw[U]at g1;cases g1
  ·rw[U]at g1;cases g1
 ·obtain⟨cs,ad,iX⟩:=QE (H:=H) (K:=K) h U ew rA (cr K ab);obtain⟨e,ae⟩:=iX q aH;have ah:q.cH N=q:=by
   rw[e];exact Zf ae
  rw[ah,ab];refine⟨?_,λh=>h⟩;unfold bZ;exact⟨_,cs,aJ,ad,e⟩
end
end
section
open Go Go.RowKit
variable[cQ]
theorem Pu:∀{a b:List cj},Bj a b=true->a.map cj.core=b.map cj.core->a=b
 |[],[],_,_=>rfl
 |[],_::_,h,_=>by grind
 |_::_,[],h,_=>by grind
 |a::l,b::m,h,k=>by
  simp[Bj]at h;simp  at k;have e:a=b:=by
   obtain⟨g,f,a7,kV,body,p,pend,busy⟩:=a;simp_all[cj.core]
  rw[e,Pu h.2 k.2]
section
variable{F:cP}{S ba H:Sym}{ρ bY:List aa}{ids kP:Nat->Option Nat}{s s1:aA}{a7 bz:List aS}{ck:List (Option Nat)}{b4:mz}
theorem acw{q:aa}{N:Nat}(h:q.one=true):(q.cH N).one=true\/q.cH N=.bad:=by
 cases q with
 |ptr i o=>
  simp only[aa.cH];split
  ·exact .inl rfl
  ·exact .inr rfl
 |aV i o z=>
  simp only[aa.cH];split
  ·exact .inl rfl
  ·exact .inr rfl
 |undef=>simp[aa.one]at h
 |bad=>simp[aa.one]at h
 |agg _=>simp[aa.one]at h
 |bD _=>simp[aa.one]at h
 |_=>exact .inl rfl
def zp(hn:Nat)(nH ck:List (Option Nat))(ids:Nat->Option Nat)(k:Nat):Option Nat:=
 if k<hn then(if ck.contains (some k)=true then none else ids k)else(uY nH ck k).bind ids
theorem RB(U:Rel F ba bY kP s1)(h:Rel F S ρ ids s)(aj:Ext ba bY S ρ)(e4:js ba H)(rB:H.bb=b4.bb)(aQ:TA b4 ba H S a7 bz ck):
  dW s (s.trim (F.n0+ba.bx.length))/\Rel F H (bY++ep ρ (a7++bz)) (zp ba.bd.length (nS H b4.pos) ck ids) (s.trim (F.n0+ba.bx.length))/\Ext ba bY H (bY++ep ρ (a7++bz)):=by
 obtain⟨v1,v2,v3,v4⟩:=Nz aQ.v;obtain⟨eD,a2⟩:=Oq aQ.a;have eb:=Ot aQ.pos;have afb:=NA aQ.iI;have akL:=GS aQ.agA;have g3:=A6 aQ.g;obtain⟨fj,gB,dI⟩:=Ou aQ.b;have SQ:bY.length=ba.cd:=U.len;generalize Lp:bY++ep ρ (a7++bz)=ρH;generalize E0:zp ba.bd.length (nS H b4.pos) ck ids=idsH;have rA:∀(j:Nat) cu,(a7++bz)[j]?=some cu->ρH.getD (ba.cd+j) .bad=cu.den ρ:=λj cu aC=>by
  rw[←Lp,QF,List.getD_eq_getElem?_getD,List.getElem?_append_right (by omega),SQ];rw[show ba.cd+j-ba.cd=j by omega,List.getElem?_map,aC];rfl
 have xz:∀(j:Nat) cu,a7[j]?=some cu->ρH.getD (ba.cd+j) .bad=cu.den ρ:=λj cu aC=>rA j cu (by rw[List.getElem?_append_left (List.getElem?_eq_some_iff.1 aC).1];exact aC);have aiF:∀(j:Nat) cu,bz[j]?=some cu->ρH.getD (ba.cd+b4.pos.length+j) .bad=cu.den ρ:=λj cu aC=>by
  have:=rA (a7.length+j) cu (by rw[List.getElem?_append_right (by omega),show a7.length+j-a7.length=j by omega];exact aC);rwa[v1,←Nat.add_assoc]at this
 have vA:bY<+:ρH:=by rw[←Lp];exact List.prefix_append _ _
 have se:H.bx.length=ba.bx.length:=fj;have adW:∀(j:Nat) p fC K,b4.pos[j]?=some p->ck[j]?=some fC->p.own.isSome=true->H.at p=.own K->ba.bd.length<=K->idsH K=fC.bind ids:=λj p fC K ae aq ar dA hle=>by
  have rL:=Dg (H:=H) ae;have:(nS H b4.pos)[j]?=some (some K):=by
   rw[rL,dA];cases ju:p.own with
   |none=>rw[ju]at ar;cases ar
   |some _=>rfl
  rw[←E0];unfold zp;rw[if_neg (by omega),Ov akL this aq]
 have RD:∀(j:Nat) p,b4.pos[j]?=some p->∀q,bZ F (S.env ρ ids) (S.at p) q->bZ F (H.env ρH idsH) (H.at p) (q.cH (F.n0+ba.bx.length))/\(q.one=true->(q.cH (F.n0+ba.bx.length)).one=true):=λj p aC q aH=>by
  obtain⟨cu,fC,aK,aO,ew⟩:=v3 j p aC;have ub:=eb j p aC;refine adV h ub ew (xz j cu aK) (λK eP=>?_) aH;rcases ub with⟨_,ab⟩|⟨sz,b,fy,al,aJ,bm,bI⟩
  ·rw[eP]at ab;cases ab
  ·exact adW j p fC K aC aO (by rw[al];rfl) eP (by rw[aJ]at eP;injection eP with eP;omega)
 have RE:∀k a,k<ba.bd.length->H.arr k=some a->idsH k=ids k/\∃a',S.arr k=some a'/\(a'.sz=a.sz/\a'.born=a.born)/\∀cs,a'.rel (S.env ρ ids) k cs->a.rel (H.env ρH idsH) k cs:=λk a aq au=>by
  have ao:=aQ.sa;unfold JP at ao;have ao:=List.all_eq_true.1 ao k (List.mem_range.2 aq);simp only[au,Bool.and_eq_true,Bool.not_eq_true',Bool.or_eq_true]at ao;obtain⟨aI,ao⟩:=ao;have cr:idsH k=ids k:=by rw[←E0];unfold zp;rw[if_pos aq,aI];simp
  refine⟨cr,?_⟩;rcases ao with ao|⟨kQ,Lq⟩
  ·have hm:k∈b4.iI:=by simpa[List.contains_iff_mem]using ao
   obtain⟨j,aC⟩:=List.mem_iff_getElem?.1 hm;obtain⟨a0,aK,aO⟩:=afb j k aC;obtain⟨x,a',bS,b8,en,l9,ue⟩:=a2 j k aC;rw[aK]at bS;injection bS with bS;subst bS;rw[au]at aO;injection aO with aO;refine⟨a',b8,by rw[aO];exact⟨l9,ue⟩,λcs ad=>?_⟩;obtain⟨eh,r2,nF,x4,nG,LV⟩:=ad;have mb:(S.env ρ ids).ρ=ρ:=rfl;have aX:(S.env ρ ids).ids=ids:=rfl;rw[mb]at eh r2 nG;rw[aX]at nG;obtain⟨gD,cy,dM,gC,jF,kB,kC⟩:=U.arr k a0 aK;have xM:∀x,a0.born=.dyn x->x.ok bY:=kC;have ai:=aiF j _ en;have h2:ρH.getD (ba.cd+b4.pos.length+j) .bad=.agg cs:=by rw[ai];exact r2
   have ae:bG cs=true:=by have:=aR.jJ eh;rw[r2]at this;simpa only[aa.plain]using this
   subst aO;refine⟨?_,h2,by show 0<a0.sz;rw[←l9];exact nF,by show cs.length=cs.length/a0.sz*a0.sz;rw[←l9];exact x4,?_,λx hc=>?_⟩
   ·show(ρH.getD _ .bad).plain=true;rw[h2];simpa only[aa.plain]using ae
   ·show isNil ρH a0.born cs=some (idsH k).isNone;rw[yd vA xM,cr,←nG,ue,yd aj.pre xM]
   ·exact(aR.j9 vA (xM x hc)).2
  ·have aK:=Jo kQ;have aO:=Jo Lq;refine⟨a,aO.symm,⟨rfl,rfl⟩,λcs ad=>?_⟩;obtain⟨eh,r2,nF,x4,nG,LV⟩:=ad;have mb:(S.env ρ ids).ρ=ρ:=rfl;have aX:(S.env ρ ids).ids=ids:=rfl;rw[mb]at eh r2 nG;rw[aX]at nG;obtain⟨gD,cy,dM,gC,jF,kB,kC⟩:=U.arr k a aK.symm;have FY:a.c.ok bY:=cy;have xM:∀x,a.born=.dyn x->x.ok bY:=kC;obtain⟨d1,d2⟩:=aR.j9 vA FY;obtain⟨d3,_⟩:=aR.j9 aj.pre FY;refine⟨d2,?_,nF,x4,?_,λx hc=>(aR.j9 vA (xM x hc)).2⟩
   ·show a.c.den ρH=.agg cs;rw[d1,←d3];exact r2
   ·show isNil ρH a.born cs=some (idsH k).isNone;rw[yd vA xM,cr,←nG,yd aj.pre xM]
 have Gb:mc F (ba.env bY kP) (S.env ρ ids) (H.env ρH idsH) H ba.bd.length:=by
  refine⟨aj.pre,vA,se.symm,rfl,λk cs a aq au ⟨a',ab,al⟩=>?_⟩;obtain⟨aK,ame,aO,bS,b8⟩:=RE k a aq au;have:S.arr k=some a':=ab;rw[aO]at this;injection this with this;subst this;exact⟨b8 cs al,aK,λa3 aJ=>by
   have:S.arr k=some a3:=aJ;rw[aO]at this;injection this with this;subst this;exact bS⟩
 have kr:(H.env ρH idsH).fw=ba.bx.length:=se;have RF:∀ai u v q hE,BC H ba.bd.length ai u v=true->bZ F (ba.env bY kP) u hE->bZ F (S.env ρ ids) v q->bZ F (H.env ρH idsH) ai (q.cH (F.n0+ba.bx.length)):=λai u v q hE fU hu aH=>by
  rcases NB fU with rfl|⟨rfl,e,a1⟩
  ·simp only[bZ]
  ·rw[←e]at aH;have:=Gb.ow a1 hu aH;rwa[kr]at this
 have fb:lW F H.ys ρH s.m.rc:=by
  have e:H.ys=S.ys:=Pu aQ.y (by rw[e4.ys];exact aj.ys.symm);rw[e];exact⟨U.rc.pre.trans vA,h.rc.len,h.rc.rc,h.rc.y,h.rc.ne,h.rc.zK⟩
 have nf:F.n0+ba.bx.length<=s.m.n:=by rw[h.dt];have:=aj.bx;omega
 have aiG:F.cV.n<=F.n0+ba.bx.length:=by rw[U.dO];have:=U.mS;omega
 refine⟨WW s nf (by rw[h.a0];exact aiG) (by rw[h.a0];exact h.an) (λe he=>(h.kY e he).2),?_,vA,e4.base,e4.dO,e4.site,e4.site,by rw[e4.ys],by omega,rfl⟩;have ly:∀k,ba.bd.length<=k->k<H.bd.length->∃j p fC cu sz b,b4.pos[j]?=some p/\ck[j]?=some fC/\a7[j]?=some cu/\zo S p cu fC/\p.own=some (sz,b)/\H.at p=.own k/\H.arr k=some ⟨sz,b,.var (ba.cd+j)⟩:=λk rQ mG=>by
  have vB:=aQ.fresh;unfold IP at vB;have vB:=List.all_eq_true.1 vB k (List.mem_range.2 mG);simp only[Bool.or_eq_true,decide_eq_true_eq]at vB;have hm:some k∈nS H b4.pos:=by
   rcases vB with vB|vB
   ·omega
   ·simpa[List.contains_iff_mem]using vB
  obtain⟨j,aC⟩:=List.mem_iff_getElem?.1 hm;have tl:j<b4.pos.length:=by
   have:=(List.getElem?_eq_some_iff.1 aC).1;rwa[Mo]at this
  have ae:b4.pos[j]?=some b4.pos[j]:=by simp[tl]
  rw[Dg ae]at aC;injection aC with aC;obtain⟨cu,fC,aK,aO,ew⟩:=v3 j _ ae;split at aC
  ·rename_i x K ju dA;injection aC with aC;subst aC;rcases eb j _ ae with⟨ab,_⟩|⟨sz,b,fy,al,aJ,bm,bI⟩
   ·rw[ju]at ab;cases ab
   ·rw[dA]at aJ;injection aJ with aJ;subst aJ;exact⟨j,_,fC,cu,sz,b,ae,aO,aK,ew,al,dA,bI⟩
  ·cases aC
 have Fz:∀k id,idsH k=some id->∃bB,ids bB=some id/\k<H.bd.length/\((k<ba.bd.length/\bB=k/\ck.contains (some k)=false)\/(ba.bd.length<=k/\∃j:Nat,(nS H b4.pos)[j]?=some (some k)/\ck[j]?=some (some bB))):=λk id aq=>by
  rw[←E0]at aq;unfold zp at aq;split at aq
  ·rename_i aU;split at aq
   ·cases aq
   ·rename_i ah;have:=aQ.le;exact⟨k,aq,by omega,.inl ⟨aU,rfl,by simpa using ah⟩⟩
  ·rename_i aU;obtain⟨bB,aK,aO⟩:=Option.bind_eq_some_iff.1 aq;obtain⟨j,bS,b8⟩:=NC aK;refine⟨bB,aO,?_,.inr ⟨by omega,j,bS,b8⟩⟩;have tl:j<b4.pos.length:=by
    have:=(List.getElem?_eq_some_iff.1 bS).1;rwa[Mo]at this
   have ae:b4.pos[j]?=some b4.pos[j]:=by simp[tl]
   rw[Dg ae]at bS;injection bS with bS;split at bS
   ·rename_i x K ju dA;injection bS with bS;subst bS;rcases eb j _ ae with⟨ab,_⟩|⟨sz,b,fy,al,aJ,bm,bI⟩
    ·rw[ju]at ab;cases ab
    ·rw[dA]at aJ;injection aJ with aJ;subst aJ;unfold Sym.arr at bI;rw[List.getD_eq_getElem?_getD]at bI;rcases Nat.lt_or_ge K H.bd.length with ak|ak
     ·exact ak
     ·rw[List.getElem?_eq_none ak]at bI;cases bI
   ·cases bS
 have afc:∀(i j:Nat) k,ck[i]?=some (some k)->ck[j]?=some (some k)->i=j:=v4;have JQ:H.bb=false->S.bb=false/\∀k,k<H.base->H.arr k=S.arr k/\ck.contains (some k)=false:=λhe=>by
  rcases aQ.e with ab|⟨ab,al⟩
  ·rw[rB,ab]at he;cases he
  ·refine⟨ab,λk aq=>?_⟩;unfold Jn at al;have al:=List.all_eq_true.1 al k (List.mem_range.2 aq);simp only[Bool.and_eq_true,Bool.not_eq_true']at al;exact⟨Jo al.1.1.2,al.1.2⟩
 refine⟨?_,λi aX=>?_,λt=>?_,?_,λi aX=>?_,λi b hb=>?_,λk id aq=>?_,λk j id aq aC=>?_,λk a au=>?_,h.a0,h.cV,h.kY,λhe=>h.bb (he.imp_left λhe=>(JQ he).1),λhe k id aq hle=>?_,λhe k aq=>?_,by rw[e4.dO];exact U.dO,by rw[e4.base];exact Nat.le_trans U.lG aQ.le,by rw[e4.dO,se];exact U.mS,h.an,h.kZ,fb⟩
 ·rw[←Lp,List.length_append,QF,List.length_map,List.length_append,SQ,v1,eD,aQ.cd];omega
 ·rw[e4.cU]at aX;have rQ:=U.cU i aX;have aU:i<bY.length:=by
   rcases Nat.lt_or_ge i bY.length with ab|ab
   ·exact ab
   ·simp[List.getD_eq_getElem?_getD,List.getElem?_eq_none ab,aa.one]at rQ
  rw[←Lp];simpa[List.getD_eq_getElem?_getD,List.getElem?_append_left aU]using rQ
 ·rw[aA.ade];rcases Classical.em (∃p∈H.g,p.1=t)with⟨pp,ak,UK⟩|ak
  ·have g4:=g3 pp ak;rw[UK]at g4;rcases g4 with ae|ae
   ·obtain⟨j,p,aC,nt,aX,_⟩:=Ow ae;have Gc:S.at p=S.get t:=by unfold Sym.at;rw[nt,aX];simp
    have Lr:H.at p=H.get t:=by unfold Sym.at;rw[nt,aX];simp
    have:=(RD j p aC (s.g t) (by rw[Gc];exact h.slot t)).1;rwa[Lr]at this
   ·exact RF _ _ _ _ _ ae (U.slot t) (h.slot t)
  ·have:H.get t=.bT:=Bh λp ae e=>ak ⟨p,ae,e⟩;rw[this];simp only[bZ]
 ·rw[aA.adf,se]
 ·rw[aA.AY,h.old i aX];cases hb:F.lH i with
  |cells l=>
   have:(di.cells l).cH (F.n0+ba.bx.length)=.cells (iR (F.n0+ba.bx.length) l):=by simp[di.cH,o3]
   rw[this,vY (by omega:F.n0<=F.n0+ba.bx.length) l (h.kZ i l aX hb)]
  |inv I=>rfl
  |hole=>rfl
 ·rw[aA.AY];have aX:i<H.bx.length:=(List.getElem?_eq_some_iff.1 hb).1;have F5:i<ba.bx.length:=by omega
  have rJ:i<S.bx.length:=by omega
  have aO:ba.bx[i]?=some ba.bx[i]:=by simp[F5]
  have bS:S.bx[i]?=some S.bx[i]:=by simp[rJ]
  have fU:=dI i _ _ _ hb aO bS;rw[Nat.zero_add]at fU;have vz:=U.box i _ aO;have ad:=h.box i _ bS;cases dB:b with
  |cells ao=>
   cases hu:ba.bx[i]with
   |cells us=>
    cases ai:S.bx[i]with
    |cells af=>
     rw[dB,hu,ai]at fU;rw[hu]at vz;rw[ai]at ad;obtain⟨fI,f1,f2⟩:=vz;obtain⟨aG,f3,f4⟩:=ad;have agB:pq (sY b4.pos true i) H ba.bd.length 0 ao us af=true:=fU;obtain⟨dS,c2,c3⟩:=HH agB;refine⟨iR (F.n0+ba.bx.length) aG,by rw[f3];simp[di.cH,o3],?_⟩;rw[o3];have er:=mi f4;have gk:=mi f2;refine jL.2 ⟨by simp;omega,λj aiH q aC aH=>?_⟩;rw[List.getElem?_map]at aH;obtain⟨hE,nc,rfl⟩:=Option.map_eq_some_iff.1 aH;have tl:j<ao.length:=(List.getElem?_eq_some_iff.1 aC).1;have fN:us[j]?=some us[j]:=by simp[show j<us.length by omega]
     have LW:af[j]?=some af[j]:=by simp[show j<af.length by omega]
     have aiI:fI[j]?=some fI[j]:=by simp[show j<fI.length by omega]
     obtain⟨eh,r2⟩:=(jL.1 f4).2 j _ hE LW nc;obtain⟨nF,x4⟩:=(jL.1 f2).2 j _ _ fN aiI;rcases c3 j _ _ _ aC fN LW with ae|ae
     ·rw[Nat.zero_add]at ae;obtain⟨Vl,p,UC,nt,Gd,UD⟩:=Ow ae;have Gc:S.at p=af[j]:=by
       unfold Sym.at;rw[nt,Gd,UD rfl];simp only[if_true,List.getD_eq_getElem?_getD,bS,Option.getD_some,ai,LW]
      have Lr:H.at p=aiH:=by
       unfold Sym.at;rw[nt,Gd,UD rfl];simp only[if_true,List.getD_eq_getElem?_getD,hb,Option.getD_some,dB,aC]
      have:=RD Vl p UC hE (by rw[Gc];exact eh);rw[Lr]at this;refine⟨this.1,?_⟩;rcases r2 with r2|r2
      ·obtain⟨cu,fC,_,_,ew⟩:=v3 Vl p UC;rw[←Gc]at r2;rcases ew with⟨_,g,_⟩|⟨_,_,_,_,_,g,_⟩|⟨_,_,_,g,_⟩
       ·rw[r2]at g;simp[aL.cu]at g
       ·rw[r2]at g;cases g
       ·rw[r2]at g;cases g
      ·exact .inr (this.2 r2)
     ·have aq:=RF _ _ _ _ _ ae nF eh;refine⟨aq,?_⟩;rcases NB ae with e|⟨e,e',_⟩
      ·exact .inl e
      ·rcases r2 with r2|r2
       ·exact .inl (by rw[e',r2])
       ·rcases acw (N:=F.n0+ba.bx.length) r2 with nG|nG
        ·exact .inr nG
        ·rw[nG]at aq;exact .inl (RG aq)
    |c8=>rw[dB,hu,ai]at fU;exact fU.elim
    |gone=>rw[dB,hu,ai]at fU;exact fU.elim
   |c8=>rw[dB,hu]at fU;cases ai:S.bx[i]<;>rw[ai]at fU<;>exact fU.elim
   |gone=>rw[dB,hu]at fU;cases ai:S.bx[i]<;>rw[ai]at fU<;>exact fU.elim
  |c8=>
   cases ai:S.bx[i]with
   |c8=>
    rw[ai]at ad;have:s.m.β (F.n0+i)=.inv F.DI:=ad;show(s.m.β (F.n0+i)).cH _=.inv F.DI;rw[this];rfl
   |cells _=>rw[dB,ai]at fU;cases hu:ba.bx[i]<;>rw[hu]at fU<;>exact fU.elim
   |gone=>rw[dB,ai]at fU;cases hu:ba.bx[i]<;>rw[hu]at fU<;>exact fU.elim
  |gone=>trivial
 ·obtain⟨bB,aK,aO,_⟩:=Fz k id aq;exact⟨(h.hO bB id aK).1,(h.hO bB id aK).2.1,aO⟩
 ·obtain⟨bB,aK,_,dS⟩:=Fz k id aq;obtain⟨j5,bS,_,c2⟩:=Fz j id aC;have aiJ:=h.mv bB j5 id aK bS;subst aiJ;rcases dS with⟨_,rfl,dS⟩|⟨_,i,c3,c4⟩
  ·rcases c2 with⟨_,c2,_⟩|⟨_,i,ot,CJ⟩
   ·exact c2
   ·have:=List.mem_of_getElem? CJ;simp[List.contains_iff_mem,this]at dS
  ·rcases c2 with⟨_,rfl,c2⟩|⟨_,cm,ot,CJ⟩
   ·have:=List.mem_of_getElem? c4;simp[List.contains_iff_mem,this]at c2
   ·have:=afc i cm _ c4 CJ;subst this;rw[c3]at ot;injection ot with ot;injection ot
 ·rcases Nat.lt_or_ge k ba.bd.length with aq|aq
  ·obtain⟨_,a',aO,_,b8⟩:=RE k a aq au;obtain⟨cs,ad⟩:=h.arr k a' aO;exact⟨cs,b8 cs ad⟩
  ·have vl:k<H.bd.length:=by
    rw[List.getD_eq_getElem?_getD]at au;rcases Nat.lt_or_ge k H.bd.length with ak|ak
    ·exact ak
    ·rw[List.getElem?_eq_none ak]at au;cases au
   obtain⟨j,p,fC,cu,sz,b,aK,aO,bS,ew,b8,en,l9⟩:=ly k aq vl;have kR:H.arr k=some a:=au;rw[l9]at kR;injection kR with kR;subst kR;obtain⟨cs,ad,_⟩:=QE (H:=H) (K:=k) (ρH:=ρH) (idsH:=idsH) h b8 ew (xz j cu bS) (adW j p fC k aK aO (by rw[b8];rfl) en aq);exact⟨cs,ad⟩
 ·obtain⟨bB,aK,_,dS⟩:=Fz k id aq;obtain⟨oO,hb⟩:=JQ he;have K8:H.base=S.base:=by rw[e4.base,aj.base]
  rcases dS with⟨_,rfl,_⟩|⟨_,i,_,c4⟩
  ·exact h.new oO bB id aK (by omega)
  ·refine h.new oO bB id aK ?_;rcases Nat.lt_or_ge bB S.base with aU|h3
   ·have:=(hb bB (by omega)).2;have hm:=List.mem_of_getElem? c4;simp[List.contains_iff_mem,hm]at this
   ·exact h3
 ·obtain⟨oO,hb⟩:=JQ he;have K8:H.base=S.base:=by rw[e4.base,aj.base]
  obtain⟨LI,ajv⟩:=hb k aq;obtain⟨k1,k2⟩:=h.keep oO k (by omega);refine⟨?_,?_⟩
  ·have:H.arr k=S.arr k:=LI;unfold Sym.arr at this;rw[this,k1]
  ·have rQ:k<ba.bd.length:=Nat.lt_of_lt_of_le (by rw[←e4.base];exact aq) U.lG;rw[←E0];unfold zp;rw[if_pos rQ,ajv];simpa using k2
end
end
section
open Go Go.RowKit
variable[cQ]
section
variable{P:Program}{s:aA}
theorem XS{A:Anchor}{N:Nat}{Q:eJ->aA->Prop}{e:Exit}{a:Act}{w:World}(h:EP A N (λe s'=>∃s1,dW s' s1/\Q e s1) e a w):EP A N Q e a w:=by
 obtain⟨ex,s',bn,U,ab,al,aJ,bm,s1,bI,cS⟩:=h;obtain⟨ny,k1,k2⟩:=bI.2 bn w N a ⟨A.gg,A.c9,bn,w⟩ ab ⟨al.st,Rest.refl bn w⟩ bm;exact⟨ex,s1,ny,U,k1,⟨k2.st,al.a8.trans k2.a8⟩,aJ.rest k2.a8,by unfold Old at bm⊢;rw[bI.1];exact bm,cS⟩
theorem GZ{c:Code}{Q:eJ->aA->Prop}(h:ff P c s λe s'=>∃s1,dW s' s1/\Q e s1):ff P c s Q:=
 λA φ w N n r a aV ao au aW hm=>k8 (h A φ w N n r a aV ao au aW hm) λ_ _ _ h=>XS h
theorem Zg{c:Code}{Q:eJ->aA->Prop}(I:aA->Prop)(μ:aA->Nat)(aT:I s)
  (round:∀s,I s->ff P c s λe s'=>match e with
   |.normal=>∃s1,dW s' s1/\I s1/\μ s1<μ s
   |.exit i=>Q (.exit i) s'
   |.ret=>Q .ret s'):ff P (.loop c) s Q:=by
 refine Z3 I μ aT λs ao=>?_;refine GZ (oZ (round s ao) λe s' h=>?_);cases e with
 |normal=>
  obtain⟨s1,U,ab⟩:=h;exact⟨s1,U,.inl ab⟩
 |exit i=>exact⟨s',dW.refl s',h⟩
 |ret=>exact⟨s',dW.refl s',h⟩
end
section
variable{P:Program}{C:b2->FuncId->List aa->Option aa}{n:Nat}{R:Out->Prop}{ρ:List aa}
theorem Pv{step:b2->List aa->Option Out}{L B:Nat}{ex:List Nat}(h:∀ω af cL cB,step ω af=some (.jump cL cB)->cL∈L::ex\/cL<B):∀{k:Nat}{ω:b2}{af:List aa}{cL:Nat}{cB:List aa},iter step L k ω af=some (.jump cL cB)->cL∈ex\/cL<B
 |0,ω,af,cL,cB,aX=>by simp[iter]at aX
 |k+1,ω,af,cL,cB,aX=>by
  simp only[iter]at aX;split at aX
  ·rename_i UE agC ao;split at aX
   ·exact Pv h aX
   ·rename_i bU;injection aX with aX;injection aX with aK aO;subst aK;rcases h _ _ _ _ ao with h|h
    ·rcases List.mem_cons.1 h with h|h
     ·exact absurd h bU
     ·exact .inl h
    ·exact .inr h
  ·rename_i fu;exact absurd aX (fu _ _)
theorem qN{B:Nat}:∀{t:Tree}{ex:List Nat}{ω:b2}{ρ:List aa}{L:Nat}{af:List aa},t.low B ex=true->eval P C n t ω ρ=some (.jump L af)->L∈ex\/L<B
 |.ret v,ex,ω,ρ,L,af,h,he=>by simp[eval]at he
 |.jump cL l,ex,ω,ρ,L,af,h,he=>by
  simp only[eval,Option.some.injEq,Out.jump.injEq]at he;simp only[Tree.low,Bool.or_eq_true,decide_eq_true_eq]at h;rw[←he.1];rcases h with h|h
  ·exact .inl (by simpa[List.contains_iff_mem]using h)
  ·exact .inr h
 |.av p t,ex,ω,ρ,L,af,h,he=>by
  simp only[eval]at he;simp only[Tree.low]at h;split at he
  ·exact qN h he
  ·cases he
 |.ite c a b,ex,ω,ρ,L,af,h,he=>by
  simp only[eval]at he;simp only[Tree.low,Bool.and_eq_true]at h;split at he
  ·exact qN h.1 he
  ·exact qN h.2 he
  ·cases he
 |.call g args t,ex,ω,ρ,L,af,h,he=>by
  simp only[eval]at he;simp only[Tree.low]at h;split at he
  ·exact qN h he
  ·cases he
 |.kL f args t,ex,ω,ρ,L,af,h,he=>by
  simp only[eval]at he;simp only[Tree.low]at h;split at he
  ·split at he
   ·exact qN h he
   ·cases he
  ·cases he
 |.pick sz c t,ex,ω,ρ,L,af,h,he=>by
  simp only[eval]at he;simp only[Tree.low]at h;split at he
  ·exact qN h he
  ·cases he
 |.loop cL init b,ex,ω,ρ,L,af,h,he=>by
  simp only[eval]at he;simp only[Tree.low]at h;exact Pv (λω af UE cB ao=>qN h ao) he
 |.join cL b k,ex,ω,ρ,L,af,h,he=>by
  simp only[eval]at he;simp only[Tree.low,Bool.and_eq_true]at h;split at he
  ·rename_i UE agC hb;split at he
   ·exact qN h.2 he
   ·rename_i bU;injection he with he;injection he with aK aO;subst aK;rcases qN h.1 hb with g|g
    ·rcases List.mem_cons.1 g with g|g
     ·exact absurd g bU
     ·exact .inl g
    ·exact .inr g
  ·rename_i fu;exact absurd he (fu _ _)
 |.die,ex,ω,ρ,L,af,h,he=>by simp[eval]at he
def fV(L:Nat)(J:List aa->Prop)(R:Out->Prop):Out->Prop
 |.jump cL af=>if cL=L then J af else R (.jump cL af)
 |.val v=>R (.val v)
theorem QG{t:Tree}{L:Nat}{J:List aa->Prop}(h:t.low L []=true)(aB:bN P C n t ρ (fV L J R)):bN P C n t ρ R:=by
 intro ω;obtain⟨o,ar,cn⟩:=aB ω;refine⟨o,ar,?_⟩;cases o with
 |val v=>exact cn
 |jump cL af=>
  rcases qN h ar with g|g
  ·cases g
  ·simp only[fV]at cn;rwa[if_neg (by omega)]at cn
theorem QH{L:Nat}{x:M}{t:Tree}(h:xk L x=.ok t):x=.ok t/\t.low L []=true:=by
 unfold xk at h;split at h
 ·split at h
  ·rename_i ak;injection h with h;subst h;exact⟨rfl,ak⟩
  ·cases h
 ·cases h
theorem aaP{L:Nat}{b k:Tree}(h:bN P C n (.join L b k) ρ R):bN P C n b ρ (fV L (λaf=>bN P C n k (ρ++af) R) R):=by
 intro ω;obtain⟨o,ar,cn⟩:=h (b2.mk ω ω);simp only[eval,b2.tf]at ar;split at ar
 ·rename_i cL af hb;refine⟨_,hb,?_⟩;simp only[fV];split
  ·rename_i dg;intro x5;obtain⟨o',eC,ni⟩:=h (b2.mk ω x5);simp only[eval,b2.tf,b2.BD,hb,dg,if_true]at eC;exact⟨o',eC,ni⟩
  ·rename_i dg;rw[if_neg dg]at ar;injection ar with ar;subst ar;exact cn
 ·rename_i fu;refine⟨o,ar,?_⟩;cases o with
  |val v=>exact cn
  |jump cL af=>exact absurd ar (fu _ _)
def Iter(P:Program)(C:b2->FuncId->List aa->Option aa)(n L:Nat)(b:Tree)(ρ:List aa)(R:Out->Prop)(k:Nat)(af:List aa):Prop:=
 ∀ω,∃o,iter (λω af=>eval P C n b ω (ρ++af)) L k ω af=some o/\R o
theorem aaQ{L:Nat}{b:Tree}{init:List aS}(h:bN P C n (.loop L init b) ρ R):Iter P C n L b ρ R n (ep ρ init):=by
 intro ω;obtain⟨o,ar,cn⟩:=h ω;simp only[eval]at ar;exact⟨o,ar,cn⟩
theorem Zh{L:Nat}{b:Tree}{af:List aa}(h:Iter P C n L b ρ R 0 af):False:=by
 obtain⟨o,ar,_⟩:=h gP;simp[iter]at ar
theorem aaR{L:Nat}{b:Tree}{af:List aa}{k:Nat}(h:Iter P C n L b ρ R (k+1) af):bN P C n b (ρ++af) (fV L (λcB=>Iter P C n L b ρ R k cB) R):=by
 intro ω;obtain⟨o,ar,cn⟩:=h (b2.mk ω ω);simp only[iter,b2.tf]at ar;split at ar
 ·rename_i cL cB hb;refine⟨_,hb,?_⟩;simp only[fV];split
  ·rename_i dg;intro x5;obtain⟨o',eC,ni⟩:=h (b2.mk ω x5);simp only[iter,b2.tf,b2.BD,hb,dg,if_true]at eC;exact⟨o',eC,ni⟩
  ·rename_i dg;rw[if_neg dg]at ar;injection ar with ar;subst ar;exact cn
 ·rename_i fu;refine⟨o,ar,?_⟩;cases o with
  |val v=>exact cn
  |jump cL af=>exact absurd ar (fu _ _)
end
end
end Go.Proofs.YtlminnpaeaganaaGreat
