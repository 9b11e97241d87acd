/- Part of the proof of RuleBeside. No condition. -/
import Derived.Test.YtlminnpaeaganaaGreatMBesideAQ
namespace Go.Proofs.YtlminnpaeaganaaGreat
set_option maxRecDepth 100000
set_option linter.all false
section
open Go Go.RowKit
variable[cQ]
theorem R8:xQ (λq=>q):=⟨λ_ _=>rfl,rfl,λl=>by simp,λl=>by simp,λf l=>by simp,λ_ _ _ l=>by simp,λ_ l=>by simp,λ_=>rfl,λq h _=>.inl h⟩
theorem Wv{id i:Nat}(h:i≠id){sz off len:Nat}{cs:List aa}(ah:bG cs=true):aa.bK id (.sl (some i) sz off len cs)=.sl (some i) sz off len cs:=by grind [aa.bK,um]
theorem V7{id i:Nat}(h:i≠id){b:e9}{sz:Nat}{cs:List aa}(ah:bG cs=true):aa.bK id (mO b (some i) sz cs)=mO b (some i) sz cs:=by
 unfold mO;grind [aa.bK,Wv]
theorem VK{id i:Nat}(h:i≠id){off:Nat}{cs:List aa}(ah:bG cs=true):aa.bK id (.bJ (some i) off cs)=.bJ (some i) off cs:=by grind [aa.bK,um]
section
variable{X:Ctx}{F:cP}{C:b2->FuncId->List aa->Option aa}{n:Nat}{R:Out->Prop}{S:Sym}{ρ:List aa}{ids:Nat->Option Nat}{s:aA}{K:Sym->M}{t:Tree}{o:Oper}{m0:Mem}{inl yl:fh}{lx:Option Nat}{key:Nat}{E:Env}
theorem Jz{k j:Nat}{x:aR}(aC:j≠k):(S.hK k x).bd.getD j none=S.bd.getD j none:=by grind [Sym.hK]
theorem W7{k:Nat}{x:aR}:(S.hK k x).bd.getD k none=none:=by grind [Sym.hK]
theorem R9(h:Rel F S ρ ids s){k:Nat}{a:c6}{cs:List aa}{x:aR}{T:aa->aa}(ek:xQ T)(au:S.bd.getD k none=some a)(ad:a.rel (S.env ρ ids) k cs)(lv:x.ok ρ)
  (ae:∀i o,T (.ptr i o)=.ptr i o) (uX:T (mO a.born (ids k) a.sz cs)=x.den ρ) (lR:(x.den ρ).one=true)
  (hB:∀j id b sz l,j≠k->ids j=some id->bG l=true->T (mO b (some id) sz l)=mO b (some id) sz l) (UG:T .bC=.bC)
  (ai5:∀j id off l,j≠k->ids j=some id->bG l=true->T (.bJ (some id) off l)=.bJ (some id) off l):
  j8 F (S.env ρ ids) ((S.hK k x).env ρ (eA ids k none)) (aL.bK k x) T:=by
 have kH:∀j b,j≠k->(S.env ρ ids).bd.getD j none=some b->((S.hK k x).env ρ (eA ids k none)).bd.getD j none=some b:=λj b aC hb=>by grind [Sym.env,Jz]
 have lU:∀j b l,j≠k->c6.rel (S.env ρ ids) j b l->c6.rel ((S.hK k x).env ρ (eA ids k none)) j b l:=λj b l aC hb=>by
  obtain⟨g1,g2,g3,g4,g5,g6⟩:=hb;refine⟨g1,g2,g3,g4,?_,g6⟩;simp_all[eA,Sym.env]
 have zs:∀j,j≠k->((S.hK k x).env ρ (eA ids k none)).ids j=ids j:=λj aC=>by simp[Sym.env,eA,aC]
 refine⟨ek,List.prefix_refl _,λ_=>rfl,rfl,rfl,rfl,λ_ _ _=>rfl,λ_=>by rfl,λg l=>by grind [aL.bK,AM],λl=>by grind [aL.bK,AM],λl=>by grind [aL.bK,AM],λ_ _ l=>by grind [aL.bK,AM],λl _=>by grind [aL.bK,AM],λi o q aH=>?_,λq aH=>?_,λj q aH=>?_,λj y fo q aH=>?_⟩
 ·have iX:=aH;rw[iX.1,ae];refine⟨?_,.inr rfl⟩;show bZ F _ (aL.ptr i o) _;grind [bZ,Sym.env,Sym.hK,Sym.dD]
 ·grind [bZ]
 ·obtain⟨b,lz,g1,g2,g3⟩:=aH;by_cases ev:j=k
  ·subst ev;simp only[aL.bK,if_true];have hb:b=a:=by have:=g1.symm.trans au;grind
   subst hb;have hcs:=c6.EK g2 ad;subst hcs;have e:T q=x.den ρ:=by rw[g3];exact uX
   rw[e];refine⟨?_,.inr lR⟩;trivial
  ·simp only[aL.bK,ev,if_false];have xR:T q=q:=by
    rw[g3];cases hi:(S.env ρ ids).ids j with
    |none=>exact UG
    |some eG=>exact hB j eG _ _ _ ev hi g2.plain
   rw[xR];refine⟨?_,.inr (by rw[g3];exact wm _ _ _ _)⟩;exact⟨b,lz,kH j b ev g1,lU j b lz ev g2,by rw[zs j ev];exact g3⟩
 ·obtain⟨b,lz,eG,dZ,gJ,g1,g2,g3,g4,g5,g6,g7,g8⟩:=aH;by_cases ev:j=k
  ·simp only[aL.bK,ev,if_true];exact⟨by simp only[bZ],.inl trivial⟩
  ·simp only[aL.bK,ev,if_false];have xR:T q=q:=by
    rw[g8];exact ai5 j eG _ _ ev g3 (qJ g2.plain _)
   rw[xR];refine⟨?_,.inr (by rw[g8];rfl)⟩;unfold bZ;exact⟨b,lz,eG,dZ,gJ,kH j b ev g1,lU j b lz ev g2,by rw[zs j ev];exact g3,g4,g5,g6,g7,g8⟩
theorem NN(h:Rel F S ρ ids s){k:Nat}{x:aR}{T:aa->aa}{s':aA}(tr:j8 F (S.env ρ ids) ((S.hK k x).env ρ (eA ids k none)) (aL.bK k x) T)
  (aN:∀t,s'.g t=T (s.g t)) (aI:s'.m.n=s.m.n) (l7:s'.m.an=s.m.an) (hold:∀i,i<F.n0->s'.m.β i=F.lH i) (fW:∀i l,s.m.β i=.cells l->s'.m.β i=.cells (l.map T)) (ai6:∀i I,s.m.β i=.inv I->s'.m.β i=.inv I)
  (aT:s'.a0=s.a0) (he:∀e∈s'.bb,F.hG<=e.id/\e.clean) (vC:(S.bb||decide (k<S.base))=false\/F.hG=F.cV.a->s'.bb=[]) (fb:s'.m.rc=s.m.rc):Rel F (S.hK k x) ρ (eA ids k none) s':=by
 refine⟨h.len,h.cU,λt=>?_,by rw[aI];simpa[Sym.hK,Sym.dD]using h.dt,hold,λi b hb=>?_,λj eG aC=>?_,λj j5 eG aC jB=>?_,λj b hb=>?_,by rw[aT];exact h.a0,h.cV,he,vC,λlA j eG aC h3=>?_,λlA j aC=>?_,h.dO,by simpa[Sym.hK,Sym.dD]using h.lG,by simpa[Sym.hK,Sym.dD]using h.mS,by rw[l7];exact h.an,h.kZ,by rw[fb];exact h.rc⟩
 ·have:(S.hK k x).get t=aL.bK k x (S.get t):=by exact getD_map rfl t
  rw[this,aN];exact tr.ow (h.slot t)
 ·simp only[Sym.hK,Sym.dD,List.getElem?_map]at hb;obtain⟨gf,ix,rfl⟩:=Option.map_eq_some_iff.1 hb;have qk:=h.box i gf ix;cases gf with
  |cells l=>
   obtain⟨aG,aK,aO⟩:=qk;exact⟨_,fW _ _ aK,tr.nx aO⟩
  |c8=>exact ai6 _ _ qk
  |gone=>trivial
 ·simp only[eA]at aC;split at aC
  ·cases aC
  ·obtain⟨g1,g2,g3⟩:=h.hO j eG aC;grind [Sym.hK]
 ·simp only[eA]at aC jB;split at aC<;>first|(cases aC;done)|skip
  split at jB<;>first|(cases jB;done)|skip
  exact h.mv j j5 eG aC jB
 ·by_cases ev:j=k
  ·grind [W7]
  ·rw[Jz ev]at hb;obtain⟨cs,g1,g2,g3,g4,g5,g6⟩:=h.arr j b hb;refine⟨cs,g1,g2,g3,g4,?_,g6⟩;simp_all[eA,Sym.env]
 ·simp[Sym.hK,Sym.dD]at lA;simp only[eA]at aC;split at aC
  ·cases aC
  ·exact h.new lA.1 j eG aC h3
 ·simp[Sym.hK,Sym.dD]at lA;have ab:j<S.base:=aC;obtain⟨g1,g2⟩:=h.keep lA.1 j ab;grind [Jz,eA]
theorem Ww(id:Nat)(l:List aa):di.bK id (.cells l)=.cells (l.map (aa.bK id)):=rfl
theorem Rel.bK(h:Rel F S ρ ids s){k:Nat}{a:c6}{cs:List aa}{x:aR}(au:S.bd.getD k none=some a)(ad:a.rel (S.env ρ ids) k cs)(lv:x.ok ρ)(dG:iU ρ a.sz a.born (.agg cs)=some (x.den ρ)):
  ∃s1,dW s s1/\s1.m.n=s.m.n/\Rel F (S.hK k x) ρ (eA ids k none) s1:=by
 have fK:isNil ρ a.born cs=some (ids k).isNone:=ad.2.2.2.2.1;simp only[iU,fK]at dG;cases hi:ids k with
 |none=>
  rw[hi]at dG;simp  at dG;refine⟨s,dW.refl s,rfl,NN h (T:=λq=>q) (R9 h R8 au ad lv (λ_ _=>rfl) (by rw[hi];exact dG) (by rw[←dG];rfl) (λ_ _ _ _ _ _ _ _=>rfl) rfl (λ_ _ _ _ _ _ _=>rfl)) (λ_=>rfl) rfl rfl h.old (λi l ak=>by simp_all) (λ_ _ iM=>iM) rfl h.kY (λhe=>h.bb (A9 he)) rfl⟩
 |some id=>
  rw[hi]at dG;simp  at dG;have Cj:aa.bK id (mO a.born (some id) a.sz cs)=x.den ρ:=by
   cases LB:a.born with
   |map=>grind [mO,aa.bK]
   |it=>grind
   |_=>rw[LB]at dG;simp  at dG;simp only[mO,aa.bK,if_true,um id cs ad.plain];exact dG
  have lR:(x.den ρ).one=true:=by
   split at dG
   ·simp  at dG;rw[←dG];rfl
   ·cases dG
   ·simp  at dG;rw[←dG];rfl
  have cr:=h.hO k id hi;refine⟨s.freeze id,V5 s id,rfl,NN h (T:=aa.bK id) (R9 h (acW id) au ad lv (λ_ _=>by rfl) ?_ lR (λj eG b sz l aC jB ak=>V7 (λe=>Jy h hi jB aC e.symm) ak) (by rfl) (λj eG off l aC jB ak=>VK (λe=>Jy h hi jB aC e.symm) ak)) (λ_=>rfl) rfl rfl (λi e1=>?_) (λi l ak=>?_) (λi I iM=>?_) rfl (λe he=>?_) (λhe=>?_) rfl⟩
  ·grind
  ·show(s.m.β i).bK id=_;rw[h.old i e1];cases hb:F.lH i with
   |cells l=>rw[Ww,←sF,sx cr.1 l (h.kZ i l e1 hb)]
   |inv I=>rfl
   |hole=>rfl
  ·show(s.m.β i).bK id=_;rw[ak];rfl
  ·show(s.m.β i).bK id=_;rw[iM];rfl
  ·rcases Hn he with he|he
   ·exact h.kY e he
   ·simp  at he;subst he;exact⟨cr.1,trivial⟩
  ·show gV s.a0.a s.bb [.kill id]=[];rw[h.bb (A9 he),Ha];refine Da λe vC=>?_;simp  at vC;subst vC;rw[h.a0];exact h.S1 hi he
end
end
section
open Go Go.RowKit
variable[cQ]
mutual
def aa.cx(i:Nat)(l:List aa):aa->aa
 |.ptr j o=>if j=i then .bJ none o (l.drop o)else .ptr j o
 |.sl id sz off len cs=>.sl id sz off len (jP i l cs)
 |.bJ id off cs=>.bJ id off (jP i l cs)
 |.fn f cs=>.fn f (jP i l cs)
 |.agg cs=>.agg (jP i l cs)
 |.bD cs=>.bD (jP i l cs)
 |.int k m=>.int k m
 |.bool b=>.bool b
 |.str s=>.str s
 |.undef=>.undef
 |.bad=>.bad
 |.ca=>.ca
 |.eL=>.eL
 |.bC=>.bC
 |.dead k=>.dead k
 |.cq k=>.cq k
 |.mp it id sz cs=>.mp it id sz cs
def jP(i:Nat)(l:List aa):List aa->List aa
 |[]=>[]
 |p::ps=>p.cx i l::jP i l ps
end
theorem ur(i:Nat)(c l:List aa):jP i c l=l.map (aa.cx i c):=by
 induction l with
 |nil=>rfl
 |cons p ps az=>simp[jP,az]
def bo.fP(φ:bo)(i:Nat):bo:={ box:=λj=>if j=i then none else φ.box j,arr:=φ.arr }
section
variable{φ:bo}{w:World}{m:Mem}{i:Nat}{n an:Nat}
theorem wb{b:Nat}(h:(φ.fP i).own b):φ.own b:=by
 rcases h with⟨j,h⟩|⟨j,h⟩
 ·simp only[bo.fP]at h;split at h
  ·cases h
  ·exact .inl ⟨j,h⟩
 ·exact .inr ⟨j,h⟩
theorem Dd{id:Option Nat}{b sz off cap:Nat}(h:place φ w id b sz off cap):place (φ.fP i) w id b sz off cap:=by
 cases id with
 |none=>exact⟨λk=>h.1 (wb k),h.2⟩
 |some j=>exact h
mutual
theorem aY.fP(aI:n<=i):∀(q:aa)(c:Value),aY φ w q c->q.cT n an->aY (φ.fP i) w q c
 |.int _ _,c,h,_ | .bool _,c,h,_ | .str _,c,h,_ | .undef,c,h,_ | .bad,c,h,_ | .ca,c,h,_ | .eL,c,h,_ | .bC,c,h,_ | .dead _,c,h,_ | .cq _,c,h,_=>by assumption
 |.ptr j o,c,h,hb=>by
  simp only[aY,aa.cT]at h hb⊢;grind [bo.fP]
 |.sl id sz off len cs,c,h,hb=>by
  obtain⟨ak,a,cap,ai,ah,h⟩:=h;refine⟨ak,a,cap,ai,ah,?_⟩;rcases h with h|⟨b,au,ae,ad⟩
  ·grind
  ·refine .inr ⟨b,au,Dd ae,b7.fP aI b cs off ad ?_⟩;cases id<;>simp only[aa.cT]at hb<;>first|exact hb|exact hb.2
 |.bJ id off cs,c,h,hb=>by
  obtain⟨b,au,ae,ad⟩:=h;refine⟨b,au,Dd ae,b7.fP aI b cs off ad ?_⟩;cases id<;>simp only[aa.cT]at hb<;>first|exact hb|exact hb.2
 |.fn f cs,c,h,hb=>by
  obtain⟨af,U,ab⟩:=h;exact⟨af,U,bl.fP aI cs af ab hb⟩
 |.agg cs,c,h,hb=>by
  obtain⟨af,U,ab⟩:=h;exact⟨af,U,bl.fP aI cs af ab hb⟩
 |.bD cs,c,h,hb=>by
  obtain⟨af,U,ab⟩:=h;exact⟨af,U,bl.fP aI cs af ab hb⟩
 |.mp it id sz cs,c,h,hb=>by
  refine h.move (λb o ae bq _ _ _=>⟨?_,bq⟩) λb o ae bq _ _ _=>⟨λk=>ae (wb k),bq⟩;cases id with
  |none=>exact λk=>ae (wb k)
  |some j=>exact ae
theorem bl.fP(aI:n<=i):∀(l:List aa)(af:List Value),bl φ w l af->e5 n an l->bl (φ.fP i) w l af
 |[],af,h,_=>by assumption
 |p::ps,af,h,hb=>by
  obtain⟨v,cB,e,aT,U⟩:=h;exact⟨v,cB,e,aY.fP aI p v aT hb.1,bl.fP aI ps cB U hb.2⟩
theorem b7.fP(aI:n<=i)(b:Nat):∀(l:List aa)(off:Nat),b7 φ w b l off->e5 n an l->b7 (φ.fP i) w b l off
 |[],_,_,_=>by assumption
 |p::ps,off,h,hb=>by
  obtain⟨⟨c,ah,aT⟩,U⟩:=h;exact⟨⟨c,ah,aY.fP aI p c aT hb.1⟩,b7.fP aI b ps (off+1) U hb.2⟩
end
theorem aea(hm:c0 φ m w){l:List aa}{b:Nat}(hb:φ.box i=some b)(fW:m.β i=.cells l)(ae:bG l=true)(o:Nat):b7 (φ.fP i) w b (l.drop o) o:=by
 obtain⟨cs,e,U,ab,al⟩:=hm.has hb;rw[fW]at ab;have ak:bl φ w l cs.toList:=ab;refine sA λj p aC=>?_;rw[List.getElem?_drop]at aC;obtain⟨v,ai,ad⟩:=o1 ak aC;refine⟨v,by grind [World.cell?],?_⟩;exact aY.fP (n:=0) (an:=0) (Nat.zero_le _) p v ad (AL 0 0 p (Hq ae aC).1)
mutual
theorem aY.cx(hm:c0 φ m w){l:List aa}(fW:m.β i=.cells l)(ae:bG l=true):∀(q:aa)(c:Value),aY φ w q c->aY (φ.fP i) w (q.cx i l) c
 |.int _ _,c,h | .bool _,c,h | .str _,c,h | .undef,c,h | .bad,c,h | .ca,c,h | .eL,c,h | .bC,c,h | .dead _,c,h | .cq _,c,h=>by assumption
 |.ptr j o,c,h=>by
  obtain⟨b,U,ab⟩:=h;simp only[aa.cx];by_cases aC:j=i
  ·subst aC;rw[if_pos rfl];obtain⟨cs,e,g1,_,_⟩:=hm.has U;refine⟨b,ab,⟨λar=>?_,(Array.getElem?_eq_some_iff.1 g1).1⟩,aea hm U fW ae o⟩;rcases ar with⟨k,aq⟩|⟨k,aq⟩
   ·simp only[bo.fP]at aq;split at aq
    ·cases aq
    ·rename_i bU;exact bU (hm.jo k j b aq U)
   ·exact hm.sep j k b U aq
  simp_all[aY,bo.fP]
 |.sl id sz off len cs,c,h=>by
  obtain⟨ak,a,cap,ai,ah,h⟩:=h;refine⟨by rw[ur,List.length_map];exact ak,a,cap,ai,ah,?_⟩;rcases h with h|⟨b,bL,cD,ad⟩
  ·exact .inl h
  ·exact .inr ⟨b,bL,Dd cD,b7.cx hm fW ae b cs off ad⟩
 |.bJ id off cs,c,h=>by
  obtain⟨b,bL,cD,ad⟩:=h;exact⟨b,bL,Dd cD,b7.cx hm fW ae b cs off ad⟩
 |.fn f cs,c,h=>by
  obtain⟨af,U,ab⟩:=h;exact⟨af,U,bl.cx hm fW ae cs af ab⟩
 |.agg cs,c,h=>by
  obtain⟨af,U,ab⟩:=h;exact⟨af,U,bl.cx hm fW ae cs af ab⟩
 |.bD cs,c,h=>by
  obtain⟨af,U,ab⟩:=h;exact⟨af,U,bl.cx hm fW ae cs af ab⟩
 |.mp it id sz cs,c,h=>by
  refine h.move (λb o ae bq _ _ _=>⟨?_,bq⟩) λb o ae bq _ _ _=>⟨λk=>ae (wb k),bq⟩;cases id with
  |none=>exact λk=>ae (wb k)
  |some j=>exact ae
theorem bl.cx(hm:c0 φ m w){l:List aa}(fW:m.β i=.cells l)(ae:bG l=true):∀(ps:List aa)(af:List Value),bl φ w ps af->bl (φ.fP i) w (jP i l ps) af
 |[],af,h=>by assumption
 |p::ps,af,h=>by
  obtain⟨v,cB,e,aT,U⟩:=h;exact⟨v,cB,e,aY.cx hm fW ae p v aT,bl.cx hm fW ae ps cB U⟩
theorem b7.cx(hm:c0 φ m w){l:List aa}(fW:m.β i=.cells l)(ae:bG l=true)(b:Nat):∀(ps:List aa)(off:Nat),b7 φ w b ps off->b7 (φ.fP i) w b (jP i l ps) off
 |[],_,_=>by assumption
 |p::ps,off,h=>by
  obtain⟨⟨c,ah,aT⟩,U⟩:=h;exact⟨⟨c,ah,aY.cx hm fW ae p c aT⟩,b7.cx hm fW ae b ps (off+1) U⟩
end
theorem bl.W8{I:List aa->Prop}(l:List aa)(af:List Value)(h:bl φ w l af)(ah:∀k,iR k l=l)(au:∀j b,φ.arr j=some b->j<an)(hb:∀j b,φ.box j=some b->j<n):bl (φ.fP i) w l af:=by
 have lp:e5 0 an l:=by
  have aT:=bl.cH (n:=0) (an:=an) au l af h;rw[ah 0]at aT;exact ui (λj b aC=>by grind [bo.cut]) (λj b aC=>by grind [bo.cut]) l af aT
 exact bl.fP (Nat.zero_le _) l af h lp
end
def di.cx(i:Nat)(l:List aa):di->di
 |.cells c=>.cells (c.map (aa.cx i l))
 |.inv I=>.inv I
 |.hole=>.hole
def aA.cx(s:aA)(i:Nat)(l:List aa):aA:={ s with g:=λt=>(s.g t).cx i l,m:={ s.m with β:=λj=>if j=i then .hole else(s.m.β j).cx i l } }
theorem Wx(s:aA){i:Nat}{l:List aa}(fW:s.m.β i=.cells l)(ae:bG l=true)(hi:s.a0.n<=i)(he:∀e∈s.bb,e.clean):dW s (s.cx i l):=by
 refine⟨rfl,λφ w N a A ao au aW=>⟨φ.fP i,⟨λt=>aY.cx ao.mem fW ae _ _ (ao.tmp t),ao.size,?_⟩,?_⟩⟩
 ·have hm:=ao.mem;refine⟨λj aC=>?_,λj aC=>?_,λj b h=>hm.arr j b h,λj k b U ab=>?_,hm.hp,λj k b U ab=>?_,hm.gw⟩
  ·by_cases kT:j=i
   ·grind [aA.cx,bo.fP]
   ·rcases hm.box j aC with⟨g1,g2⟩|⟨b,cs,e,hb,bq,ad⟩
    ·grind [aA.cx,di.cx,bo.fP]
    ·refine .inr ⟨b,cs,e,by grind [bo.fP],bq,?_⟩;simp only[aA.cx,kT,if_false];cases ah:s.m.β j with
     |cells c=>
      rw[ah]at ad;simp only[di.cx,m3];rw[←ur];exact bl.cx hm fW ae c _ ad
     |inv I=>
      rw[ah]at ad;obtain⟨c,U,ab,al,aJ⟩:=ad;exact⟨c,U,ab,al,bl.W8 (I:=I) (n:=s.m.n) c _ aJ al (λk b aq=>(hm.arr k b aq).1) (λk b aq=>Nat.lt_of_not_le λhle=>by rw[hm.dt k hle]at aq;cases aq)⟩
     |hole=>rw[ah]at ad;trivial
  ·simp only[bo.fP];split
   ·rfl
   ·exact hm.dt j aC
  ·simp only[bo.fP]at U ab;split at U<;>first|(cases U;done)|skip
   split at ab<;>first|(cases ab;done)|skip
   exact hm.jo j k b U ab
  ·simp only[bo.fP]at U;split at U<;>first|(cases U;done)|skip
   exact hm.sep j k b U ab
 ·refine⟨⟨λq c aH=>?_,au.st.os,au.st.output,au.st.size,λb hb ar ak=>?_⟩,au.a8.trans ⟨Nat.le_refl _,λb _ ar _=>⟨rfl,λk=>ar (wb k)⟩⟩⟩
  ·have lp:q.cT s.a0.n s.a0.a:=Du aW.2.1 aW.1 q c aH;exact aY.fP hi _ c (au.st.tr q c aH) (I7 he lp)
  ·exact⟨(au.st.rest b hb ar ak).1,λk=>(au.st.rest b hb ar ak).2 (wb k)⟩
end
section
open Go Go.RowKit
variable[cQ]
mutual
theorem G9(i:Nat)(l:List aa):∀p:aa,p.plain=true->p.cx i l=p
 |.int _ _,_ | .bool _,_ | .str _,_ | .ca,_ | .eL,_ | .bC,_=>by rfl
 |.undef,h | .bad,h | .dead _,h | .cq _,h | .ptr _ _,h=>by trivial
 |.mp _ _ _ _,h=>by rfl
 |.sl none _ _ _ cs,h=>by simp only[aa.cx,vU i l cs (by assumption)]
 |.sl (some _) _ _ _ cs,h=>by trivial
 |.bJ none _ cs,h=>by simp only[aa.cx,vU i l cs (by assumption)]
 |.bJ (some _) _ cs,h=>by trivial
 |.fn _ cs,h=>by simp only[aa.cx,vU i l cs (by assumption)]
 |.agg cs,h=>by simp only[aa.cx,vU i l cs (by assumption)]
 |.bD cs,h=>by simp only[aa.cx,MJ i l cs (by assumption)]
theorem vU(i:Nat)(l:List aa):∀c:List aa,bG c=true->jP i l c=c
 |[],_=>rfl
 |p::ps,h=>by
  simp[bG]at h;simp only[jP,G9 i l p h.1.1,vU i l ps h.2]
theorem MJ(i:Nat)(l:List aa):∀c:List aa,jO c=true->jP i l c=c
 |[],_=>rfl
 |p::ps,h=>by
  simp[jO]at h;simp only[jP,G9 i l p h.1,MJ i l ps h.2]
end
mutual
theorem W9{n a i:Nat}(hi:n<=i)(l:List aa):∀q:aa,q.cT n a->q.cx i l=q
 |.int _ _,_ | .bool _,_ | .str _,_ | .undef,_ | .bad,_ | .ca,_ | .eL,_ | .bC,_ | .dead _,_ | .cq _,_=>by rfl
 |.ptr j o,h=>by grind [aa.cT,aa.cx]
 |.sl id _ _ _ cs,h=>by
  have:e5 n a cs:=by cases id<;>simp only[aa.cT]at h<;>first|exact h|exact h.2
  simp only[aa.cx,vV hi l cs this]
 |.bJ id _ cs,h=>by
  have:e5 n a cs:=by cases id<;>simp only[aa.cT]at h<;>first|exact h|exact h.2
  simp only[aa.cx,vV hi l cs this]
 |.fn _ cs,h=>by simp only[aa.cx,vV hi l cs (by simpa only[aa.cT]using h)]
 |.agg cs,h=>by simp only[aa.cx,vV hi l cs (by simpa only[aa.cT]using h)]
 |.bD cs,h=>by simp only[aa.cx,vV hi l cs (by simpa only[aa.cT]using h)]
 |.mp _ _ _ _,h=>by rfl
theorem vV{n a i:Nat}(hi:n<=i)(l:List aa):∀c:List aa,e5 n a c->jP i l c=c
 |[],_=>by rfl
 |p::ps,h=>by simp only[jP,W9 hi l p h.1,vV hi l ps h.2]
end
theorem ZF(i:Nat)(l:List aa):xQ (aa.cx i l) where
 plain:=λq h=>G9 i l q h
 undef:=by rfl
 agg:=λc=>by grind [aa.cx,ur]
 bD:=λc=>by grind [aa.cx,ur]
 fn:=λf c=>by grind [aa.cx,ur]
 sl:=λ_ _ _ c=>by grind [aa.cx,ur]
 bJ:=λ_ c=>by grind [aa.cx,ur]
 cq:=λ_=>by rfl
 one:=λq h _=>by
  cases q with
  |ptr j o=>simp only[aa.cx];split<;>exact .inl rfl
  |undef=>trivial
  |bad=>trivial
  |agg _=>trivial
  |bD _=>trivial
  |_=>exact .inl rfl
section
variable{X:Ctx}{F:cP}{C:b2->FuncId->List aa->Option aa}{n:Nat}{R:Out->Prop}{S:Sym}{ρ:List aa}{ids:Nat->Option Nat}{s:aA}{K:Sym->M}{t:Tree}{o:Oper}{m0:Mem}{inl yl:fh}{lx:Option Nat}{key:Nat}{E:Env}
theorem HV(i:Nat)(l:List aL):(S.oA i l).env ρ ids=S.env ρ ids:=by simp[Sym.env,Sym.oA,Sym.dD]
theorem Rel.cx(h:Rel F S ρ ids s){i:Nat}{l:List aL}{ps:List aS}(hb:S.bx[i]?=some (.cells l))(ae:hT l=some ps)(hi:S.dO<=i):
  ∃s1,dW s s1/\s1.m.n=s.m.n/\Rel F (S.oA i l) ρ ids s1:=by
 obtain⟨aG,U,ab⟩:=h.box i _ hb;have cD:=(sG ae ab).2;have aU:i<S.bx.length:=(List.getElem?_eq_some_iff.1 hb).1;refine⟨s.cx (F.n0+i) aG,Wx s U cD (by rw[h.a0,h.dO];omega) (λe he=>(h.kY e he).2),rfl,?_⟩;have tr:j8 F (S.env ρ ids) (S.env ρ ids) (aL.cx i l) (aa.cx (F.n0+i) aG):=by
  refine⟨ZF _ _,List.prefix_refl _,λ_=>rfl,rfl,rfl,rfl,λ_ _ _=>rfl,λ_=>by rfl,λg c=>by grind [aL.cx,Aw],λc=>by grind [aL.cx,Aw],λc=>by grind [aL.cx,Aw],λ_ _ c=>by grind [aL.cx,Aw],λc _=>by grind [aL.cx,Aw],λj o q aH=>?_,λq aH=>?_,λk q aH=>?_,λk x fo q aH=>?_⟩
  ·rw[aH.1];by_cases aC:j=i
   ·subst aC;simp only[aL.cx,aa.cx,if_true];refine⟨?_,.inr rfl⟩;grind [bZ]
   ·simp only[aL.cx,aa.cx,aC,if_false];rw[if_neg (by omega)];refine⟨?_,.inr rfl⟩;grind [bZ]
  ·grind [bZ,aa.cx]
  ·have iX:=aH;obtain⟨b,lz,g1,g2,g3⟩:=aH;have ek:aa.cx (F.n0+i) aG q=q:=by
    rw[g3];unfold mO;split
    ·split<;>simp only[aa.cx,vU _ _ _ g2.plain]
    rfl
   rw[ek];exact⟨iX,.inr (by grind [wm])⟩
  ·have iX:=aH;obtain⟨b,lz,eG,dZ,gJ,g1,g2,g3,g4,g5,g6,g7,g8⟩:=aH;have ek:aa.cx (F.n0+i) aG q=q:=by
    rw[g8];simp only[aa.cx,vU _ _ _ (qJ g2.plain _)]
   rw[ek];exact⟨iX,.inr (by rw[g8];rfl)⟩
 refine⟨h.len,h.cU,λt=>?_,by show s.m.n=_;simp[Sym.oA,Sym.dD,h.dt],λj aC=>?_,λj b aC=>?_,λk id aq=>⟨(h.hO k id aq).1,(h.hO k id aq).2.1,by simpa[Sym.oA,Sym.dD]using(h.hO k id aq).2.2⟩,h.mv,by exact h.arr,h.a0,h.cV,h.kY,h.bb,h.new,h.keep,h.dO,h.lG,by grind [Sym.oA,Sym.dD],h.an,h.kZ,h.rc⟩
 ·have:(S.oA i l).get t=aL.cx i l (S.get t):=by exact getD_map rfl t
  rw[this,HV];exact tr.ow (h.slot t)
 ·simp only[aA.cx];rw[if_neg (by omega),h.old j aC];cases ix:F.lH j with
  |cells c=>simp only[di.cx];rw[←ur,vV (by omega:F.n0<=F.n0+i) aG c (h.kZ j c aC ix)]
  |inv I=>rfl
  |hole=>rfl
 ·rw[HV];simp only[Sym.oA,List.getElem?_set,List.getElem?_map,List.length_map]at aC;split at aC
  ·rename_i dL;simp  at aC;subst aC;trivial
  ·obtain⟨gf,ix,rfl⟩:=Option.map_eq_some_iff.1 aC;have qk:=h.box j gf ix;simp only[aA.cx];rw[if_neg (by omega)];cases gf with
   |cells c=>
    obtain⟨c',aK,aO⟩:=qk;rw[aK];exact⟨_,rfl,tr.nx aO⟩
   |c8=>rw[show s.m.β (F.n0+j)=.inv F.DI from qk];rfl
   |gone=>trivial
def Cz(X:Ctx)(F:cP)(C:b2->FuncId->List aa->Option aa)(n:Nat)(R:Out->Prop)(K:Sym->M)(S:Sym)(ρ:List aa)(s:aA):Prop:=
 ∃s1,dW s s1/\s1.m.n=s.m.n/\hS X F C n R K S ρ s1
theorem Ext.bind'(S:Sym)(ρ:List aa)(v:aa)(cU:Bool)(k:Nat)(x:aR):Ext S ρ ((S.bind cU).hK k x) (ρ++[v]):=
 ⟨List.prefix_append _ _,rfl,rfl,rfl,rfl,rfl,by simp[Sym.hK,Sym.dD,Sym.bind],by simp[Sym.hK,Sym.dD,Sym.bind]⟩
theorem Yf{sz:Nat}{b:e9}{cs:List aa}{v:aa}(ah:bG cs=true)(h:iU ρ sz b (.agg cs)=some v):v.plain=true/\v.one=true:=by
 simp only[iU]at h;split at h
 ·injection h with h;subst h;trivial
 ·split at h
  ·injection h with h;subst h;trivial
  ·cases h
  ·injection h with h;subst h;trivial
 ·cases h
theorem Aj{b:e9}{cs:List aa}(hb:∀x,b=.dyn x->x.ok ρ)(v:aa):isNil (ρ++[v]) b cs=isNil ρ b cs:=yd (List.prefix_append _ _) hb
theorem ac1{k:Nat}(h:Kz k S K=.ok t)(ad:Rel F S ρ ids s)(aB:bN X.P C n t ρ R):Cz X F C n R K S ρ s:=by
 unfold Kz at h;split at h
 ·rename_i a au;obtain⟨bw,a1,rfl⟩:=ig h;obtain⟨v,ai,aB⟩:=aB.av;obtain⟨cs,ah⟩:=ad.arr k a au;have h2:a.c.den ρ=.agg cs:=ah.2.1;simp only[Prim.run,h2]at ai;obtain⟨gr,p2⟩:=Yf ah.plain ai;have hb:=ad.bind v true λ_=>p2;obtain⟨g1,g2⟩:=fO ad v gr;have gv:=c6.rel.mono (Env.p0 S ρ ids v true) au ah;obtain⟨s1,cy,dM,gC⟩:=Rel.bK hb (x:=.var S.cd) au gv g1 (by
   rw[g2];simp only[iU]at ai⊢;rw[Aj (ρ:=ρ) (b:=a.born) (cs:=cs) ah.2.2.2.2.2 v];exact ai)
  exact⟨s1,cy,dM,_,_,_,bw,a1,gC,aB,Ext.bind' S ρ v true k _⟩
 ·cases h
theorem Cz.of(h:hS X F C n R K S ρ s):Cz X F C n R K S ρ s:=⟨s,dW.refl s,rfl,h⟩
theorem o2:∀{d:Nat}{ck:List Nat}{S:Sym}{ρ:List aa}{ids:Nat->Option Nat}{s:aA}{t:Tree},kj d ck S K=.ok t->Rel F S ρ ids s->bN X.P C n t ρ R->Cz X F C n R K S ρ s
 |0,ck,S,ρ,ids,s,t,h,ad,aB=>by trivial
 |d+1,[],S,ρ,ids,s,t,h,ad,aB=>by exact Cz.of ⟨S,ρ,ids,t,h,ad,aB,Ext.refl S ρ⟩
 |d+1,k::ck,S,ρ,ids,s,t,h,ad,aB=>by
  simp only[kj]at h;split at h
  ·split at h
   ·obtain⟨s1,cy,dM,ba,bY,kP,t1,U,ab,al,aJ⟩:=ac1 (X:=X) h ad aB;obtain⟨s2,gr,p2,ji,kD,oH,t2,g1,g2,g3,g4⟩:=o2 U ab al;exact⟨s2,cy.trans gr,p2.trans dM,ji,kD,oH,t2,g1,g2,g3,aJ.trans g4⟩
   ·exact o2 h ad aB
  ·split at h
   ·rename_i c hb;have dB:S.bx[k/2]?=some (.cells c):=by grind
    split at h
    ·split at h
     ·rename_i ps ae;split at h
      ·cases h
      ·obtain⟨s1,cy,dM,gC⟩:=ad.cx dB ae (by omega);obtain⟨s2,gr,p2,ji,kD,oH,t2,g1,g2,g3,g4⟩:=o2 h gC aB;have aj:Ext S ρ (S.oA (k/2) c) ρ:=⟨List.prefix_refl _,rfl,rfl,rfl,rfl,rfl,by grind [Sym.oA],by simp[Sym.oA,Sym.dD]⟩;exact⟨s2,cy.trans gr,p2.trans dM,ji,kD,oH,t2,g1,g2,g3,aj.trans g4⟩
     ·cases h
    ·exact o2 h ad aB
   ·exact o2 h ad aB
end
end
section
open Go Go.RowKit
variable[cQ]
section
variable{X:Ctx}{F:cP}{C:b2->FuncId->List aa->Option aa}{n:Nat}{R:Out->Prop}{S:Sym}{ρ:List aa}{ids:Nat->Option Nat}{s:aA}{K:Sym->M}{t:Tree}{o:Oper}{m0:Mem}{inl yl:fh}{lx:Option Nat}{key:Nat}{E:Env}
def hM(X:Ctx)(F:cP)(C:b2->FuncId->List aa->Option aa)(n:Nat)(R:Out->Prop)(K:Sym->M)(S:Sym)(ρ:List aa)(s:aA)(o:Oper):Prop:=
 ∃s1,dW s s1/\eQ X.P s1 o λs'=>hS X F C n R K S ρ s'
theorem jI(hb:∀t l p,o.op≠.buildSlice t l p)(h:jr X F C n R K S ρ s s.m o):hM X F C n R K S ρ s o:=by
 obtain⟨pv,U,ab⟩:=h;exact⟨s,dW.refl s,H5 (m0:=s.m) ⟨Nat.le_refl _,λ_ _=>rfl⟩ U hb ab⟩
theorem nL{ba:Sym}{bY:List aa}{s':aA}(aj:Ext S ρ ba bY)(h:hS X F C n R K ba bY s'):hS X F C n R K S ρ s':=by
 obtain⟨br,b1,dK,bw,U,ab,al,aJ⟩:=h;exact⟨br,b1,dK,bw,U,ab,al,aj.trans aJ⟩
theorem abe{ba:Sym}{bY:List aa}{s1:aA}(ao:dW s s1)(aj:Ext S ρ ba bY)(h:hM X F C n R K ba bY s1 o):hM X F C n R K S ρ s o:=by
 obtain⟨s2,U,ab⟩:=h;exact⟨s2,ao.trans U,uC (λs' _ h=>nL aj h) ab⟩
theorem Ey{ck:List Nat}{d:Nat}{fy:Sym->M}(h:kj d ck S fy=.ok t)(ad:Rel F S ρ ids s)(aB:bN X.P C n t ρ R)
  (aq:∀ba bY kP s1 t1,fy ba=.ok t1->Rel F ba bY kP s1->bN X.P C n t1 bY R->hM X F C n R K ba bY s1 o):hM X F C n R K S ρ s o:=by
 obtain⟨s1,cy,dM,ba,bY,kP,t1,U,ab,al,aJ⟩:=o2 (X:=X) h ad aB;grind [abe]
theorem AO{ck:List Nat}{fy:Sym->M}(h:thaw none key ck S fy=.ok t)(ad:Rel F S ρ ids s)(aB:bN X.P C n t ρ R)
  (aq:∀ba bY kP s1 t1,fy ba=.ok t1->Rel F ba bY kP s1->bN X.P C n t1 bY R->hM X F C n R K ba bY s1 o):hM X F C n R K S ρ s o:=by
 unfold thaw at h;grind [Ey]
theorem Hr(ad:Rel F S ρ ids s){a:c6}{cs:List aa}{len:Nat}(au:a.c.ok ρ)(ah:a.c.den ρ=.agg cs)(bX:0<a.sz)(ak:cs.length=len*a.sz)(hb:isNil ρ a.born cs=some false)(aV:∀y,a.born=.dyn y->y.ok ρ)
  (h:K (S.sP a o.dst)=.ok t) (aB:bN X.P C n t ρ R) (oI:a.born.j2=true:=by rfl):hS X F C n R K S ρ (s.pc o.dst a.sz len cs):=by
 have hdiv:cs.length/a.sz=len:=by simp_all
 obtain⟨U,ab⟩:=ad.Fa (x:=some s.m.an) (s':={ s with m:={ s.m with an:=s.m.an+1 } }) au ah bX (by grind) (by rw[hb];rfl) aV rfl rfl rfl (Nat.le_succ _) (λid e=>by grind) rfl rfl rfl;refine⟨_,ρ,_,t,h,U.put o.dst (v:=.own S.bd.length) ?_,aB,?_⟩
 ·simp_all[bZ,Sym.env,la,eA]
 ·have aj:Ext S ρ ({ S with bd:=S.bd++[some a] }:Sym) ρ:=⟨List.prefix_refl _,rfl,rfl,rfl,rfl,rfl,Nat.le_refl _,rfl⟩;exact aj.put _ _
theorem Yg(ad:Rel F S ρ ids s){a:c6}(au:a.c.ok ρ)(ah:a.c.den ρ=.agg [])(bX:0<a.sz)(hb:isNil ρ a.born []=some true)(aV:∀y,a.born=.dyn y->y.ok ρ)
  (h:K (S.sP a o.dst)=.ok t) (aB:bN X.P C n t ρ R):hS X F C n R K S ρ (s.put o.dst .bC):=by
 obtain⟨U,ab⟩:=ad.Fa (x:=none) (s':=s) au ah bX (by simp) (by rw[hb];rfl) aV rfl rfl rfl (Nat.le_refl _) (λid e=>by cases e) rfl rfl rfl;refine⟨_,ρ,_,t,h,U.put o.dst (v:=.own S.bd.length) ?_,aB,?_⟩
 ·refine⟨a,[],by grind [Sym.env],ab,?_⟩;simp[Sym.env,eA,mO]
 ·have aj:Ext S ρ ({ S with bd:=S.bd++[some a] }:Sym) ρ:=⟨List.prefix_refl _,rfl,rfl,rfl,rfl,rfl,Nat.le_refl _,rfl⟩;exact aj.put _ _
theorem dh{x y:aR}(h:x.b y=true):x.den ρ=y.den ρ:=by
 induction x generalizing y with
 |var i=>cases y<;>simp[aR.b]at h;subst h;rfl
 |proj x j az=>cases y<;>simp[aR.b]at h;grind [aR.den]
 |bu v=>
  cases y with
  |bu u=>
   simp only[aR.b]at h;unfold Cx at h;grind
  |_=>trivial
theorem abf{ty:TypeId}{l c:Operand}(aE:o.op=.makeSlice ty l c)(h:D8 X none o ty l c S K=.ok t)(ad:Rel F S ρ ids s)(aB:bN X.P C n t ρ R):hM X F C n R K S ρ s o:=by
 unfold D8 at h;simp  at h;split at h
 ·rename_i e hu;split at h
  ·rename_i a b z au hb bO;split at h
   ·rename_i hx;obtain⟨dS,c2,c3,c4,ot⟩:=hx;obtain⟨bw,a1,rfl⟩:=ig h;obtain⟨v,ai,aB⟩:=aB.av;have ak:=ad.ay l;have ah:=ad.ay c;rw[au]at ak;rw[hb]at ah;simp only[bZ]at ak ah;have gv:s.ay c=s.ay l:=by grind [dh]
    simp only[Prim.run,tL,aS.den]at ai;split at ai
    ·rename_i k aq;split at ai
     ·rename_i lp;injection ai with ai;subst ai;have er:s.ay l=.int .i64 k:=by rw[ak.1];exact aq
      have amv:bG (e8 z k.toNat)=true:=by
       have:∀j,bG (e8 z j)=true:=λj=>by
        induction j with
        |zero=>rfl
        |succ j az=>exact C0 c2 az
       grind
      obtain⟨g1,g2⟩:=fO ad (.agg (e8 z k.toNat)) (by assumption);have agP:=ad.bind (.agg (e8 z k.toNat)) false (by simp);refine⟨s,dW.refl s,?_⟩;simp only[eQ,aE,hu,er,gv];refine⟨z,bO,c3,c4,ot,lp.1,Int.le_refl _,lp.2.1,lp.2.2,?_⟩;exact nL (Ext.bind S ρ _ false) (Hr (a:=⟨X.P.cellsOf e,.real,.var S.cd⟩) agP g1 g2 (by grind) (by rw[yf,c3]) rfl (λy e=>by cases e) a1 aB)
     ·cases ai
    ·cases ai
   ·cases h
  ·cases h
 ·cases h
theorem ac2{e:TypeId}{x:Operand}(aE:o.op=.box e x)(h:uP X e (S.ay x) S (λc S=>K (S.gu o.dst c))=.ok t)(ad:Rel F S ρ ids s)(aB:bN X.P C n t ρ R):hM X F C n R K S ρ s o:=by
 obtain⟨c,ba,bY,t1,U,ab,al,aJ,bm,bI,cS⟩:=Ax h ad (ad.ay x) aB;refine⟨s,dW.refl s,?_⟩;simp only[eQ,aE];refine⟨cS,ba.gu o.dst c,bY,ids,t1,U,ab.gu o.dst bI,al,aJ.trans ?_⟩;have aj:Ext ba bY (ba.mq c) bY:=⟨List.prefix_refl _,rfl,rfl,rfl,rfl,rfl,by simp[Sym.mq],rfl⟩;exact aj.put _ _
theorem ZG{e:TypeId}{z:List aa}(aE:o.op=.alloc e)(bO:ki X.P e=some z)(ae:bG z=true)(h:K (S.gu o.dst (oJ z))=.ok t)(ad:Rel F S ρ ids s)(aB:bN X.P C n t ρ R):hM X F C n R K S ρ s o:=by
 refine⟨s,dW.refl s,?_⟩;simp only[eQ,aE];refine⟨z,bO,S.gu o.dst (oJ z),ρ,ids,t,h,ad.gu o.dst (wB ae),aB,?_⟩;have aj:Ext S ρ (S.mq (oJ z)) ρ:=⟨List.prefix_refl _,rfl,rfl,rfl,rfl,rfl,by simp[Sym.mq],rfl⟩;exact aj.put _ _
theorem ZH{l:List aL}{aG:List aa}(h:cJ F E l aG)(ao:l.all aL.E5=true):aG.all aa.one=true:=by
 rw[List.all_eq_true]at ao⊢;intro q aH;obtain⟨j,aC⟩:=List.mem_iff_getElem?.1 aH;have aU:j<l.length:=by grind [mi]
 have ai:l[j]?=some l[j]:=by simp[aU]
 refine((jL.1 h).2 j _ q ai aC).2.resolve_left λe=>?_;have:=ao l[j] (by simp);rw[e]at this;cases this
theorem Nb{sz:Nat}{y:aa}{m:Nat}{news:List aa}(aF:y.plain=true)(h:wO sz y=some (m,news)):bG news=true:=by
 unfold wO at h;split at h
 ·injection h with h;injection h with _ h;subst h;rfl
 ·rename_i id iL off len cs;split at h
  ·injection h with h;injection h with _ h;subst h;cases id with
   |none=>assumption
   |some i=>trivial
  ·cases h
 ·cases h
theorem Nc{l:List aa}(h:bG l=true)(id:Nat):∀c∈l,w8 id c:=λc ah=>Dn _ c ((hH _).1 h c ah).1
theorem Hs{l:List aa}(h:bG l=true):l.all aa.one=true:=List.all_eq_true.2 λq aH=>((hH _).1 h q aH).2
theorem Rel.Sa(h:Rel F S ρ ids s){k:Nat}{a:c6}{c':aR}{cs':List aa}{x:Option Nat}(au:S.bd.getD k none=some a)(cr:ids k=none)(hA:c'.ok ρ)(oT:c'.den ρ=.agg cs')(bX:0<a.sz)(ak:cs'.length=cs'.length/a.sz*a.sz)(aI:isNil ρ a.born cs'=some x.isNone)
  (aV:∀y,a.born=.dyn y->y.ok ρ) {s':aA} (aN:s'.g=s.g) (fW:s'.m.β=s.m.β) (Cw:s'.m.n=s.m.n) (l7:s.m.an<=s'.m.an) (aj:∀id,x=some id->s.m.an<=id/\id<s'.m.an) (aT:s'.a0=s.a0) (he:s'.bb=s.bb) (fb:s'.m.rc=s.m.rc):
  Rel F (S.dm k true { a with c:=c' }) ρ (eA ids k x) s'/\c6.rel ((S.dm k true { a with c:=c' }).env ρ (eA ids k x)) k { a with c:=c' } cs':=by
 have vl:=Ai au;have gM:c6.rel ((S.dm k true { a with c:=c' }).env ρ (eA ids k x)) k { a with c:=c' } cs':=⟨hA,oT,bX,ak,by simp_all[Sym.env,eA],aV⟩;have zs:∀j,j≠k->((S.dm k true { a with c:=c' }).env ρ (eA ids k x)).ids j=ids j:=λj aC=>by simp[Sym.env,eA,aC]
 have kH:∀j b,j≠k->(S.env ρ ids).bd.getD j none=some b->((S.dm k true { a with c:=c' }).env ρ (eA ids k x)).bd.getD j none=some b:=λj b aC hb=>by grind [Sym.env,Sym.dm]
 have lU:∀j b l,j≠k->c6.rel (S.env ρ ids) j b l->c6.rel ((S.dm k true { a with c:=c' }).env ρ (eA ids k x)) j b l:=λj b l aC hb=>by
  obtain⟨g1,g2,g3,g4,g5,g6⟩:=hb;exact⟨g1,g2,g3,g4,by rw[zs j aC];exact g5,g6⟩
 have tr:j8 F (S.env ρ ids) ((S.dm k true { a with c:=c' }).env ρ (eA ids k x)) (aL.q2 k true) (λq=>q):=by
  refine⟨R8,List.prefix_refl _,λx=>rfl,rfl,rfl,rfl,λ_ _ _=>rfl,λ_=>by rfl,λg l=>by grind [aL.q2,qQ],λl=>by grind [aL.q2,qQ],λl=>by grind [aL.q2,qQ],λ_ _ l=>by grind [aL.q2,qQ],λl _=>by grind [aL.q2,qQ],λi o q aH=>?_,λq aH=>rfl,λj q aH=>?_,λj y fo q aH=>?_⟩
  ·have iX:=aH;unfold bZ at iX;refine⟨?_,.inr (by rw[iX.1];rfl)⟩;show bZ F _ (aL.ptr i o) _;grind [bZ,Sym.env,Sym.dm,Sym.dD]
  ·unfold bZ at aH;obtain⟨b,lz,g1,g2,g3⟩:=aH;by_cases ev:j=k
   ·grind [aL.q2,bZ]
   ·simp only[aL.q2,ev,false_and,if_false];refine⟨?_,.inr (by grind [wm])⟩;unfold bZ;exact⟨b,lz,kH j b ev g1,lU j b lz ev g2,by rw[zs j ev];exact g3⟩
  ·unfold bZ at aH;obtain⟨b,lz,eG,dZ,gJ,g1,g2,g3,g4,g5,g6,g7,g8⟩:=aH;by_cases ev:j=k
   ·simp only[aL.q2,ev,if_true];exact⟨by simp only[bZ],.inl trivial⟩
   ·simp only[aL.q2,ev,if_false];refine⟨?_,.inr (by rw[g8];rfl)⟩;unfold bZ;exact⟨b,lz,eG,dZ,gJ,kH j b ev g1,lU j b lz ev g2,by rw[zs j ev];exact g3,g4,g5,g6,g7,g8⟩
 refine⟨⟨h.len,h.cU,λt=>?_,by rw[Cw];simpa[Sym.dm,Sym.dD]using h.dt,λi hi=>by rw[fW];exact h.old i hi,λi b hb=>?_,λj eG aC=>?_,λj j5 eG aC jB=>?_,λj b hb=>?_,by rw[aT];exact h.a0,h.cV,by rw[he];exact h.kY,λlA=>?_,λlA j eG aC h3=>?_,λlA j aC=>?_,h.dO,by simpa[Sym.dm,Sym.dD]using h.lG,by simpa[Sym.dm,Sym.dD]using h.mS,Nat.le_trans h.an l7,h.kZ,by rw[fb];exact h.rc⟩,gM⟩
 ·have:(S.dm k true { a with c:=c' }).get t=aL.q2 k true (S.get t):=by
   simp only[Sym.get,Sym.dm,Sym.dD];exact getD_map rfl t
  rw[this,aN];exact tr.ow (h.slot t)
 ·simp only[Sym.dm,Sym.dD,List.getElem?_map]at hb;obtain⟨gf,ix,rfl⟩:=Option.map_eq_some_iff.1 hb;have qk:=h.box i gf ix;rw[fW];cases gf with
  |cells l=>
   obtain⟨aG,aK,aO⟩:=qk;exact⟨_,aK,by have:=tr.nx aO;simpa using this⟩
  |c8=>exact qk
  |gone=>trivial
 ·simp only[eA]at aC;split at aC
  ·rename_i e;subst e;obtain⟨U,ab⟩:=aj eG aC;exact⟨by have:=h.an;have:=h.cV.1;omega,ab,by simpa[Sym.dm,Sym.dD]using vl⟩
  ·obtain⟨U,ab,al⟩:=h.hO j eG aC;exact⟨U,by omega,by simpa[Sym.dm,Sym.dD]using al⟩
 ·simp only[eA]at aC jB;split at aC<;>split at jB
  ·omega
  ·obtain⟨U,ab⟩:=aj eG aC;have:=(h.hO j5 eG jB).2.1;omega
  ·obtain⟨U,ab⟩:=aj eG jB;have:=(h.hO j eG aC).2.1;omega
  ·exact h.mv j j5 eG aC jB
 ·by_cases ev:j=k
  ·subst ev;have:b={ a with c:=c' }:=by
    simp only[Sym.dm,Sym.dD]at hb;rw[o5,if_pos ⟨rfl,vl⟩]at hb;injection hb with hb;exact hb.symm
   subst this;exact⟨cs',gM⟩
  ·have dB:S.bd.getD j none=some b:=by
    simp only[Sym.dm,Sym.dD]at hb;rw[o5,if_neg (λe=>ev e.1)]at hb;exact hb
   obtain⟨l,er⟩:=h.arr j b dB;exact⟨l,lU j b l ev er⟩
 ·rw[he];exact h.bb (A9 lA)
 ·simp only[Sym.dm,Sym.dD,Bool.or_eq_false_iff]at lA;simp only[eA]at aC;split at aC
  ·obtain⟨U,ab⟩:=aj eG aC;have:=h.an;omega
  ·exact h.new lA.1 j eG aC h3
 ·simp[Sym.dm,Sym.dD]at lA;have ab:j<S.base:=aC;obtain⟨g1,g2⟩:=h.keep lA.1 j ab;refine⟨?_,by simp only[eA];rw[if_neg (by omega)];exact g2⟩;simp only[Sym.dm,Sym.dD];rw[o5,if_neg (λe=>by omega)];exact g1
end
end
section
open Go Go.RowKit
variable[cQ]
section
variable{X:Ctx}{F:cP}{C:b2->FuncId->List aa->Option aa}{n:Nat}{R:Out->Prop}{S:Sym}{ρ:List aa}{ids:Nat->Option Nat}{s:aA}{K:Sym->M}{t:Tree}{o:Oper}{m0:Mem}{inl yl:fh}{lx:Option Nat}{key:Nat}{E:Env}
theorem qW{ba:Sym}{bY:List aa}(k:Nat)(all:Bool)(a:c6):Ext ba bY (ba.dm k all a) bY:=
 ⟨List.prefix_refl _,rfl,rfl,rfl,rfl,rfl,by simp[Sym.dm,Sym.dD],by simp[Sym.dm,Sym.dD]⟩
theorem Xa{b:e9}{cs cs':List aa}(ao:b.still=true)(h:isNil ρ b cs=some false)(bU:cs'≠[]):isNil ρ b cs'=some false:=by
 cases b with
 |real=>rfl
 |cZ=>
  cases cs' with
  |nil=>grind
  |cons _ _=>rfl
 |dyn x=>cases ao
 |map=>cases ao
 |it=>cases ao
theorem Ht{b:e9}{cs:List aa}(ao:b.still=true)(h:isNil ρ b cs=some true):b=.cZ/\cs=[]:=by
 cases b with
 |real=>grind [isNil]
 |cZ=>grind [isNil]
 |dyn x=>cases ao
 |map=>cases ao
 |it=>cases ao
theorem qM{b:e9}(h:b.still=true):b.j2=true:=by cases b<;>first|rfl|cases h
theorem Yh{c:Call}{ty:TypeId}{x y:Operand}(aE:o.op=.call c)(de:c.callee=.builtin .append)(dA:c.argTypes=⟨[ty,ty]⟩)(F2:c.args.toList=[x,y])(h:Dl X none o ty x y S K=.ok t)(ad:Rel F S ρ ids s)(aB:bN X.P C n t ρ R):hM X F C n R K S ρ s o:=by
 unfold Dl at h;simp only[Option.isSome_none,Bool.false_eq_true,if_false]at h;split at h
 ·rename_i e hu;split at h
  ·rename_i hx;obtain⟨dS,c2,c3⟩:=hx;refine Ey h ad aB λS ρ ids s t h ad aB=>?_;split at h
   ·rename_i L9 ai7;obtain⟨aF,hyp⟩:=ad.cu ai7;have hW:∀fy:aA->Prop,eQ X.P s o fy=(ty=ty/\uB X.P s o.dst ty (s.ay x) (s.ay y) fy):=λfy=>by grind [eQ]
    refine⟨s,dW.refl s,?_⟩;rw[hW];refine⟨rfl,?_⟩;simp only[uB,hu];refine⟨dS,c2,c3,?_⟩;have hd:=ad.ay x;split at h
    ·rename_i k LC;rw[LC]at hd;unfold bZ at hd;obtain⟨a,cs,U,ab,al⟩:=hd;split at h
     ·rename_i a' kR;have:a'=a:=by have:=kR.symm.trans U;injection this
      subst this;split at h
      ·rename_i Le;obtain⟨bX,pg⟩:=Le;obtain⟨bw,a1,rfl⟩:=ig h;obtain⟨v,ai,aB⟩:=aB.av;have h2:a'.c.den ρ=.agg cs:=ab.2.1;simp only[Prim.run,h2,←aF]at ai;unfold uW at ai;split at ai
       ·rename_i gD m news xo tM;injection xo with xo;subst xo;split at ai
        ·rename_i lp;obtain⟨fj,gB,k2⟩:=lp;injection ai with ai;subst ai;have q8:=Nb hyp tM;have cD:=C0 ab.plain q8;have hb:=ad.bind (.agg (cs++news)) false (by simp);obtain⟨g1,g2⟩:=fO ad (.agg (cs++news)) (by simpa only[aa.plain]using cD);have ha:=c6.rel.mono (Env.p0 S ρ ids (.agg (cs++news)) false) U ab;have eb:=ab.2.2.1;have hlen:=ab.2.2.2.1;have er:(cs++news).length=(cs++news).length/a'.sz*a'.sz/\(cs++news).length/a'.sz=cs.length/a'.sz+m:=by
          have e:(cs++news).length=(cs.length/a'.sz+m)*a'.sz:=by rw[List.length_append,fj,Nat.add_mul,←hlen]
          have aO:(cs++news).length/a'.sz=cs.length/a'.sz+m:=by rw[e];exact Nat.mul_div_cancel _ eb
          exact⟨by rw[aO];exact e,aO⟩
         have agQ:X.P.cellsOf e=a'.sz:=bX.symm;rw[agQ,tM];refine⟨Hs q8,?_⟩;cases cr:ids k with
         |some id=>
          rw[show(S.env ρ ids).ids k=some id from cr,la (qM pg)]at al;simp only[al];refine⟨trivial,trivial,gB,k2,Nc cD id,?_⟩;have fK:=ab.2.2.2.2.1;rw[show(S.env ρ ids).ids k=some id from cr]at fK;have bU:cs++news≠[]\/a'.born=.real:=by
           cases zZ:a'.born with
           |real=>exact .inr rfl
           |cZ=>
            refine .inl λe=>?_;have:cs=[]:=(List.append_eq_nil_iff.1 e).1;rw[zZ,this]at fK;simp[isNil]at fK
           |dyn y=>rw[zZ]at pg;cases pg
           |map=>rw[zZ]at pg;cases pg
           |it=>rw[zZ]at pg;cases pg
          have qv:isNil (ρ++[.agg (cs++news)]) a'.born (cs++news)=some false:=by
           rcases bU with bU|bU
           ·exact Xa (cs:=cs) pg ((Aj (ρ:=ρ) ab.2.2.2.2.2 _).trans fK) bU
           ·rw[bU];rfl
          obtain⟨eh,r2⟩:=hb.gY (k:=k) (id:=id) (c':=.var S.cd) (all:=true) (EE:=[.kill id]) U ha cr (λe he=>by simp only[List.mem_singleton]at he;subst he;exact⟨rfl,trivial⟩) g1 g2 er.1 qv (λe=>by cases e);refine⟨_,_,ids,bw,a1,eh.put o.dst (v:=.own k) ?_,aB,(Ext.bind S ρ (.agg (cs++news)) false).trans ((qW k true _).put _ _)⟩;unfold bZ;refine⟨_,cs++news,?_,r2,?_⟩
          ·simp only[Sym.env,Sym.dm,Sym.dD];rw[o5,if_pos ⟨rfl,Ai U⟩]
          ·rw[show((S.bind false).dm k true { a' with c:=.var S.cd }).env (ρ++[.agg (cs++news)]) ids=⟨ρ++[.agg (cs++news)],((S.bind false).dm k true { a' with c:=.var S.cd }).bd,((S.bind false).dm k true { a' with c:=.var S.cd }).bx.length,ids⟩from rfl];rw[la (qM pg)];simp only[cr,er.2]
         |none=>
          rw[show(S.env ρ ids).ids k=none from cr,la (qM pg)]at al;have fK:=ab.2.2.2.2.1;rw[show(S.env ρ ids).ids k=none from cr]at fK;obtain⟨ix,hcs⟩:=Ht pg fK;subst hcs;simp only[List.length_nil,Nat.zero_div,Nat.zero_add,List.nil_append]at gB k2 er hb g1 g2 ha⊢;simp only[al];refine⟨gB,k2,?_⟩;by_cases hm:m=0
          ·rw[if_pos hm];have nf:news=[]:=List.eq_nil_of_length_eq_zero (by rw[fj,hm];simp);subst nf;obtain⟨eh,r2⟩:=hb.Sa (k:=k) (c':=.var S.cd) (cs':=[]) (x:=none) (s':=s) U cr g1 g2 eb (by simp) (by rw[ix];rfl) (λy e=>by rw[ix]at e;cases e) rfl rfl rfl (Nat.le_refl _) (λid e=>by cases e) rfl rfl rfl;refine⟨_,_,_,bw,a1,eh.put o.dst (v:=.own k) ?_,aB,(Ext.bind S ρ (.agg []) false).trans ((qW k true _).put _ _)⟩;unfold bZ;refine⟨_,[],?_,r2,?_⟩
           ·simp only[Sym.env,Sym.dm,Sym.dD];rw[o5,if_pos ⟨rfl,Ai U⟩]
           ·simp[Sym.env,eA,mO]
          ·rw[if_neg hm];have nf:news≠[]:=λe=>by
            rw[e]at fj;simp only[List.length_nil]at fj;rcases Nat.mul_eq_zero.1 fj.symm with aK|aK
            ·exact hm aK
            ·omega
           obtain⟨eh,r2⟩:=hb.Sa (k:=k) (c':=.var S.cd) (cs':=news) (x:=some s.m.an) (s':={ s with m:={ s.m with an:=s.m.an+1 } }) U cr g1 g2 eb er.1 (by
            rw[ix];cases news with
            |nil=>exact absurd rfl nf
            |cons _ _=>rfl) (λy e=>by rw[ix]at e;cases e) rfl rfl rfl (Nat.le_succ _) (λid e=>by injection e with e;subst e;exact⟨Nat.le_refl _,Nat.lt_succ_self _⟩) rfl rfl rfl
           refine⟨_,_,_,bw,a1,eh.put o.dst (v:=.own k) ?_,aB,(Ext.bind S ρ (.agg news) false).trans ((qW k true _).put _ _)⟩;unfold bZ;refine⟨_,news,?_,r2,?_⟩
           ·simp only[Sym.env,Sym.dm,Sym.dD];rw[o5,if_pos ⟨rfl,Ai U⟩]
           ·rw[la (qM pg)];simp[Sym.env,eA,er.2]
        ·cases ai
       ·cases ai
      ·cases h
     ·cases h
    ·rename_i LC;rw[LC]at hd;unfold bZ at hd;have xG:s.ay x=.bC:=hd.1;obtain⟨bw,a1,rfl⟩:=ig h;obtain⟨v,ai,aB⟩:=aB.av;simp only[Prim.run,aR.den,←aF]at ai;unfold uW at ai;split at ai
     ·rename_i gD m news xo tM;injection xo with xo;subst xo;split at ai
      ·rename_i lp;obtain⟨fj,gB,k2⟩:=lp;injection ai with ai;subst ai;have q8:=Nb hyp tM;simp only[List.length_nil,Nat.zero_div,Nat.zero_add,List.nil_append]at gB k2 aB;have hb:=ad.bind (.agg news) false (by simp);obtain⟨g1,g2⟩:=fO ad (.agg news) (by simpa only[aa.plain]using q8);rw[tM,xG];refine⟨Hs q8,gB,k2,?_⟩;refine nL (Ext.bind S ρ (.agg news) false) ?_;by_cases hm:m=0
       ·rw[if_pos hm];have nf:news=[]:=List.eq_nil_of_length_eq_zero (by rw[fj,hm];simp);subst nf;exact Yg (a:=⟨X.P.cellsOf e,.cZ,.var S.cd⟩) hb g1 g2 c2 rfl (λy e=>by cases e) a1 aB
       ·rw[if_neg hm];have nf:news≠[]:=λe'=>by
         rw[e']at fj;simp only[List.length_nil]at fj;rcases Nat.mul_eq_zero.1 fj.symm with aK|aK
         ·exact hm aK
         ·omega
        exact Hr (a:=⟨X.P.cellsOf e,.cZ,.var S.cd⟩) hb g1 g2 c2 fj (by
         cases news with
         |nil=>exact absurd rfl nf
         |cons _ _=>rfl) (λy e=>by cases e) a1 aB
      ·cases ai
     ·cases ai
    ·cases h
   ·cases h
  ·cases h
 ·cases h
end
end
section
open Go Go.RowKit
variable[cQ]
theorem Xb(l:List aa)(off:Nat)(v:aa)(af:List aa)(h:off+(v::af).length<=l.length):fa (l.set off v) (off+1) af=fa l off (v::af):=by grind [fa,List.take_succ_eq_append_getElem,List.take_set_of_le,List.drop_set_of_lt]
theorem I4(id sz len:Nat):∀(af:List aa)(off:Nat)(cs:List aa),bG cs=true->bG af=true->off+af.length<=cs.length->aa.sub (nd id off af) (.sl (some id) sz 0 len cs)=.sl (some id) sz 0 len (fa cs off af)
 |[],off,cs,_,_,h=>by simp_all[nd,fa]
 |v::af,off,cs,ah,ai,h=>by
  simp[bG]at ai;simp  at h;simp[nd,aa.sub,aa.bW,if_true,pS _ cs ah,setAt];have gv:bG (cs.set off v)=true:=(hH _).2 λp ae=>by grind [hH]
  rw[I4 id sz len af (off+1) _ gv ai.2 (by simp;omega),Xb cs off v af (by grind)]
theorem V8{l af:List aa}{off:Nat}(h:off+af.length<=l.length):(fa l off af).length=l.length:=by grind [fa]
theorem V9{l af:List aa}{off:Nat}(h:bG l=true)(ai:bG af=true):bG (fa l off af)=true:=C0 (C0 (uh h _) ai) (qJ h _)
theorem I5{id:Nat}{e:b9}:∀{af:List aa}{off:Nat},e∈nd id off af->e.id=id/\∃v∈af,∃p,e=.wr id p v
 |[],_,h=>by cases h
 |v::af,off,h=>by
  simp[nd]at h;rcases h with rfl|h
  ·exact⟨rfl,v,by simp,off,rfl⟩
  ·obtain⟨U,u,ab,p,al⟩:=I5 h;grind
section
variable{X:Ctx}{F:cP}{C:b2->FuncId->List aa->Option aa}{n:Nat}{R:Out->Prop}{S:Sym}{ρ:List aa}{ids:Nat->Option Nat}{s:aA}{K:Sym->M}{t:Tree}{o:Oper}{m0:Mem}{inl yl:fh}{lx:Option Nat}{key:Nat}{E:Env}
theorem NO{ty:TypeId}{x y:Operand}{i off:Nat}(aj:S.ay x=.ptr i off)(h:uP X ty (S.ay y) S (λc S=>match S.bx[i]? with
  |some (ga.cells l)=>if c.length=X.P.cellsOf ty/\c.all aL.E5=true/\off+c.length<=l.length/\(lx.all λb=>decide (off=0)&&decide (b<=i)&&decide (l.length=c.length))then K (S.hq i (AX l off c))else die "x"
  |_=>die "x")=.ok t)(ad:Rel F S ρ ids s)(aB:bN X.P C n t ρ R):
  s.ay x=.ptr (F.n0+i) off/\i<S.bx.length/\(s.ay y).cells.length=X.P.cellsOf ty/\(s.ay y).cells.all aa.one=true/\∃l,s.m.β (F.n0+i)=.cells l/\off+(s.ay y).cells.length<=l.length/\(∀b,lx=some b->off=0/\b<=i/\l.length=(s.ay y).cells.length)/\hS X F C n R K S ρ (s.hq (F.n0+i) (fa l off (s.ay y).cells)):=by
 have hd:=ad.ay x;rw[aj]at hd;obtain⟨c,ba,bY,t1,U,ab,al,aJ,bm,bI,cS⟩:=Ax h ad (ad.ay y) aB;dsimp only at U;split at U
 ·rename_i l hb;split at U
  ·rename_i hx;obtain⟨dS,c2,c3,c4⟩:=hx;obtain⟨aG,g1,g2⟩:=ab.box i _ hb;have F7:=mi bI;have sh:=mi g2;refine⟨hd.1,hd.2,by grind,ZH bI c2,aG,g1,by grind,λb se=>?_,?_⟩
   ·grind
   ·exact⟨_,_,ids,t1,U,ab.hq hb (NL g2 bI off),al,aJ.trans ⟨List.prefix_refl _,rfl,rfl,rfl,rfl,rfl,by simp[Sym.hq],rfl⟩⟩
  ·cases U
 ·cases U
theorem ZI{ty:TypeId}{x y:Operand}(aE:o.op=.store ty x y)(h:DC X none o ty x y S K=.ok t)(ad:Rel F S ρ ids s)(aB:bN X.P C n t ρ R):hM X F C n R K S ρ s o:=by
 unfold DC at h;split at h
 ·cases h
 ·rename_i aV;have nX:o.dst=none:=by cases bq:o.dst<;>simp[bq]at aV⊢
  have c1:(X.P.info? ty).isSome:=by cases bq:X.P.info? ty<;>simp[bq]at aV⊢
  split at h
  ·rename_i i off aj;obtain⟨aK,aO,bS,b8,l,en,l9,_,ue⟩:=NO (lx:=none) aj h ad aB;refine⟨s,dW.refl s,?_⟩;simp only[eQ,aE];refine⟨nX,?_⟩;rw[aK];exact⟨by rw[ad.dt];omega,c1,bS,b8,l,en,l9,ue⟩
  ·split at h
   ·cases h
   ·rename_i Le;have eb:X.P.cellsOf ty≠0:=by grind
    refine Ey h ad aB λS ρ ids s t h ad aB=>?_;obtain⟨c,ba,bY,t1,U,ab,al,aJ,bm,bI,cS⟩:=Ax h ad (ad.ay y) aB;dsimp only at U;split at U
    ·rename_i k e fo aj;have hd:=ab.ay x;rw[aj]at hd;obtain⟨a,cs,id,dZ,gJ,cy,dM,gC,jF,kB,kC,qH,x7⟩:=hd;split at U
     ·rename_i a' ps kR gy;have:a'=a:=by have:=kR.symm.trans cy;injection this
      subst this;split at U
      ·cases U
      ·rename_i Gm;have hA:c.length=X.P.cellsOf ty/\fo+c.length<=a'.sz:=by
        simp  at Gm;exact⟨Gm.1,by omega⟩
       have oI:a'.born.j2=true:=by
        simp  at Gm;simpa using Gm.2.2
       obtain⟨t2,a1,rfl⟩:=ig U;obtain⟨v,ai,Bo⟩:=al.av;obtain⟨qw,rK⟩:=sG gy bI;have F7:=mi bI;have h2:a'.c.den bY=.agg cs:=dM.2.1;have ai8:e.den bY=.int gJ dZ:=jF;simp only[Prim.run,vd,h2,ai8]at ai;rw[show ep bY ps=(s.ay y).cells from qw.symm]at ai;split at ai
       ·rename_i lp;injection ai with ai;subst ai;have cD:=V9 (off:=dZ.toNat*a'.sz+fo) dM.plain rK;have hlen:(fa cs (dZ.toNat*a'.sz+fo) (s.ay y).cells).length=cs.length:=V8 lp;have hb:=ab.bind (.agg (fa cs (dZ.toNat*a'.sz+fo) (s.ay y).cells)) false (by simp);obtain⟨g1,g2⟩:=fO ab (.agg (fa cs (dZ.toNat*a'.sz+fo) (s.ay y).cells)) (by simpa only[aa.plain]using cD);have Ls:=c6.rel.mono (Env.p0 ba bY ids (.agg (fa cs (dZ.toNat*a'.sz+fo) (s.ay y).cells)) false) cy dM;have fK:=dM.2.2.2.2.1;have bU:fa cs (dZ.toNat*a'.sz+fo) (s.ay y).cells≠[]:=λe'=>by
         have:=congrArg List.length e';rw[hlen]at this;rw[this]at qH;simp at qH
        have qv:isNil (bY++[.agg (fa cs (dZ.toNat*a'.sz+fo) (s.ay y).cells)]) a'.born (fa cs (dZ.toNat*a'.sz+fo) (s.ay y).cells)=some false:=by
         rw[Aj (ρ:=bY) dM.2.2.2.2.2];have hcs:cs≠[]:=λe'=>by rw[e']at qH;simp at qH
         cases zZ:a'.born with
         |real=>rfl
         |cZ=>
          cases fM:fa cs (dZ.toNat*a'.sz+fo) (s.ay y).cells with
          |nil=>exact absurd fM bU
          |cons _ _=>rfl
         |dyn z=>
          rw[zZ]at fK;simp only[isNil,Sym.env]at fK⊢;cases bO:z.den bY with
          |bool b=>
           rw[bO]at fK;cases b
           ·rfl
           ·cases cs with
            |nil=>exact absurd rfl hcs
            |cons _ _=>simp at fK
          |_=>rw[bO]at fK;simp at fK
         |map=>rfl
         |it=>rfl
        obtain⟨eh,r2⟩:=hb.gY (k:=k) (id:=id) (c':=.var ba.cd) (all:=false) (EE:=nd id (dZ.toNat*a'.sz+fo) (s.ay y).cells) cy Ls gC (λe he=>by
          obtain⟨CO,u,hF,p,rfl⟩:=I5 he;exact⟨rfl,λn an=>AL n an u ((hH _).1 rK u hF).1⟩) g1 g2 (by rw[hlen];exact dM.2.2.2.1) qv (λ_=>by rw[la oI,la oI];simp only;rw[hlen];exact I4 id a'.sz _ _ _ cs dM.plain rK lp)
        refine⟨s,dW.refl s,?_⟩;simp only[eQ,aE];refine⟨nX,?_⟩;rw[x7];refine⟨c1,Nat.pos_of_ne_zero eb,by rw[←F7];exact hA.1,Hs rK,by rw[List.length_drop];omega,Nc rK id,?_⟩;exact⟨_,_,ids,t2,a1,eh,Bo,aJ.trans ((Ext.bind ba bY _ false).trans (qW k false _))⟩
       ·cases ai
     ·cases U
    ·cases U
  ·injection h with h;subst h;exact(QZ aB).elim
  ·cases h
theorem Sb{c:List aL}{c':List aa}{ps:List aS}(h:cJ F E c c')(ae:hT c=some ps):c'=ep E.ρ ps/\bG c'=true:=sG ae h
theorem VL{ty:TypeId}{len:Nat}{parts:Array (Nat×Operand)}(aE:o.op=.buildSlice ty len parts)(h:Ab X none key o ty len parts S K=.ok t)(ad:Rel F S ρ ids s)(aB:bN X.P C n t ρ R):hM X F C n R K S ρ s o:=by
 unfold Ab at h;split at h
 ·rename_i e hu;split at h
  ·rename_i z bO;split at h
   ·rename_i hx;obtain⟨dS,c2,c3,c4,ot⟩:=hx;refine AO h ad aB λS ρ ids s t h ad aB=>?_;obtain⟨cs,ba,bY,t1,U,ab,al,aJ,bm,bI⟩:=Ec ad parts (λ_=>e) h aB;split at U
    ·rename_i l ak;obtain⟨aG,g1,g2⟩:=AN bI (Iw (wB dS) len) ak;have hlen:aG.length=len*X.P.cellsOf e:=by rw[G1 g1,yf,c3]
     split at U
     ·rename_i ps gy;obtain⟨qw,rK⟩:=Sb g2 gy;refine⟨s,dW.refl s,?_⟩;simp[eQ,aE,hu,bO];refine⟨c2,c3,c4,ot,aG,g1,?_⟩;split at U
      ·simp  at U;obtain⟨t2,a1,rfl⟩:=ig U;obtain⟨v,ai,Bo⟩:=al.av;simp[Prim.run]at ai;have iw:v=.agg aG:=by rw[←ai];congr 1;exact qw.symm
       subst iw;have hb:=ab.bind (.agg aG) false (by simp);obtain⟨v1,v2⟩:=fO ab (.agg aG) (by assumption);exact .inl (nL (aJ.trans (Ext.bind ba bY _ false)) (Hr (a:=⟨X.P.cellsOf e,.real,.var ba.cd⟩) hb v1 v2 (by grind) hlen rfl (λy e=>by cases e) a1 Bo))
      ·refine .inr ⟨_,bY,ids,t1,U,ab.put o.dst ?_,al,aJ.put _ _⟩;grind [bZ]
     ·cases U
    ·cases U
   ·cases h
  ·cases h
 ·cases h
theorem VM{b:Nat}{ty:TypeId}{len:Nat}{parts:Array (Nat×Operand)}(aE:o.op=.buildSlice ty len parts)(h:Ab X (some b) key o ty len parts S K=.ok t)(ad:Rel F S ρ ids s)(aB:bN X.P C n t ρ R):jr X F C n R K S ρ s m0 o:=by
 unfold Ab at h;split at h
 ·rename_i e hu;split at h
  ·split at h
   ·rename_i hx;obtain⟨dS,c2,c3,c4,ot⟩:=hx;unfold thaw at h;split at h
    ·obtain⟨cs,ba,bY,t1,U,ab,al,aJ,bm,bI⟩:=Ec ad parts (λ_=>e) h aB;split at U
     ·rename_i l ak;obtain⟨aG,g1,g2⟩:=AN bI (Iw (wB dS) len) ak;have hlen:aG.length=len*X.P.cellsOf e:=by rw[G1 g1,yf,c3]
      split at U
      ·rename_i ps gy;obtain⟨qw,rK⟩:=Sb g2 gy;split at U
       ·cases U
       ·refine⟨.sl none (X.P.cellsOf e) 0 len aG,?_,_,bY,ids,t1,U,ab.put o.dst ?_,al,aJ.put _ _⟩;all_goals grind [bV,bZ]
      ·cases U
     ·cases U
    trivial
   ·cases h
  ·cases h
 ·cases h
end
end
end Go.Proofs.YtlminnpaeaganaaGreat
