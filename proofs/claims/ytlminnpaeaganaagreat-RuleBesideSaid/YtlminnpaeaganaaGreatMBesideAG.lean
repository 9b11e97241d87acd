/- Part of the proof of RuleBeside. No condition. -/
import Derived.ProofKit
import Derived.Below
import Derived.ChangeSame
import Derived.Carry
import Derived.WideKeyArgs
import Derived.WalkKit
import Derived.Conc.Own
import Derived.Test.YtlminnpaeaganaaGreatMBesideAA
import Derived.Test.YtlminnpaeaganaaGreatMBesideAE
import Derived.Test.YtlminnpaeaganaaGreatMBesideAF
namespace Go.Proofs.YtlminnpaeaganaaGreat
set_option maxRecDepth 100000
set_option linter.all false
section
open Go Go.RowKit Go.WideShapes Go.ChangeShapes
variable[cQ]
def iK:bo:=⟨λ_=>none,λ_=>none⟩
theorem By(b:Nat):¬iK.own b:=by rintro(⟨i,h⟩|⟨i,h⟩)<;>cases h
def qh(P:Program):List Field->Nat->Nat->Bool
 |[],o,e=>decide (o=e)
 |f::fs,o,e=>decide (f.offset=o)&&qh P fs (o+P.cellsOf f.type) e
def sN(P:Program):Nat->TypeId->Bool
 |0,_=>false
 |k+1,t=>match P.underlying t with
  |some .bool=>true
  |some (.int _)=>true
  |some .string=>true
  |some (.slice e)=>sN P k e&&decide (0<P.cellsOf e)
  |some (.struct fs)=>fs.toList.all (λf=>sN P k f.type)&&qh P fs.toList 0 (P.cellsOf t)
  |_=>false
def qg(P:Program):Nat->TypeId->List aa->Prop
 |0,_,_=>False
 |k+1,t,cs=>match P.underlying t with
  |some .bool=>∃b,cs=[.bool b]
  |some (.int i)=>∃n,cs=[.int i n]/\(Lit.int i n).wf=true
  |some .string=>∃s,cs=[.str s]
  |some (.slice e)=>cs=[.bC]\/∃(off:Nat)(ls:List (List aa)),cs=[.sl none (P.cellsOf e) off ls.length ls.flatten]/\ls.length<=maxLen/\∀l∈ls,qg P k e l/\l.length=P.cellsOf e
  |some (.struct fs)=>∃ls:List (List aa),cs=ls.flatten/\ls.length=fs.size/\∀(i:Nat) f l,fs[i]?=some f->ls[i]?=some l->qg P k f.type l/\l.length=P.cellsOf f.type
  |_=>False
theorem MT{ls:List (List aa)}{n:Nat}(h:∀l∈ls,l.length=n):ls.flatten.length=ls.length*n:=by
 induction ls with
 |nil=>simp
 |cons l ls az=>grind
theorem Pr{α β:Type}{f:α->Option β}:∀{l:List α}{ys:List β},l.mapM f=some ys->l.length=ys.length/\∀(i:Nat) a,l[i]?=some a->∃y,ys[i]?=some y/\f a=some y
 |[],ys,h=>by grind
 |a::l,ys,h=>by
  rw[List.mapM_cons]at h;obtain⟨y,aF,h⟩:=Option.bind_eq_some_iff.1 h;obtain⟨sn,bO,h⟩:=Option.bind_eq_some_iff.1 h;simp  at h;obtain⟨U,ab⟩:=Pr bO;grind
section
variable{H:Type}{enc:TypeId×Value->H}{P:Program}{w:World}{spare:Nat->Bool}{held:Bool}
theorem D5{a:Addr}{n:Nat}{cs:List Value}(h:w.cells? 0 a n=some cs)(aI:0<n):a.spot=none/\cs.length=n/\∀j c,cs[j]?=some c->w.cell? ⟨a.block,a.off+j,none⟩=some c:=by
 obtain⟨U,ab⟩:=Pr h;have ao:a.spot=none:=by
  obtain⟨y,_,aF⟩:=ab 0 0 (by simp[aI]);simp only[Addr.add,if_true,World.cell?]at aF;split at aF;all_goals simp_all
 refine⟨ao,by grind,λj c aC=>?_⟩;have jB:j<n:=by grind
 obtain⟨y,xL,Lo⟩:=ab j j (by simp[jB]);rw[aC]at xL;injection xL with xL;subst xL;unfold Addr.add at Lo;split at Lo
 ·rename_i aT;obtain⟨b,o,s⟩:=a;grind
 ·exact Lo
theorem Nu{b:Nat}:∀{l aG:List aa}{off:Nat},b7 iK w b l off->b7 iK w b aG (off+l.length)->b7 iK w b (l++aG) off
 |[],aG,off,h,bc=>by grind
 |p::l,aG,off,h,bc=>by exact⟨h.1,Nu h.2 (by grind)⟩
theorem MU{b c:Nat}:∀{ls:List (List aa)}{off:Nat},(∀(i:Nat) l,ls[i]?=some l->l.length=c/\b7 iK w b l (off+i*c))->b7 iK w b ls.flatten off
 |[],off,h=>by trivial
 |l::ls,off,h=>by
  obtain⟨U,ab⟩:=h 0 l rfl;refine Nu (by grind) (MU (c:=c) λi aG er=>?_);obtain⟨al,aJ⟩:=h (i+1) aG (by grind);grind
theorem pick{α:Type}{Q:Nat->α->Prop}:∀n,(∀i,i<n->∃x,Q i x)->∃l:List α,l.length=n/\∀(i:Nat) x,l[i]?=some x->Q i x
 |0,_=>⟨[],rfl,λi x h=>by simp at h⟩
 |n+1,h=>by
  obtain⟨l,U,ab⟩:=pick n λi hi=>h i (by omega);obtain⟨x,aj⟩:=h n (by omega);refine⟨l++[x],by simp[U],λi y aF=>?_⟩;grind
theorem Nv{cs:List Value}:∀(ob:List Field)(ls:List (List aa))(o e:Nat),qh P ob o e=true->ls.length=ob.length->(∀(i:Nat) f l,ob[i]?=some f->ls[i]?=some l->bl iK w l ((cs.drop f.offset).take (P.cellsOf f.type)))->e<=cs.length ->
  o<=e/\bl iK w ls.flatten ((cs.drop o).take (e-o))/\∀(i:Nat) f l,ob[i]?=some f->ls[i]?=some l->l.length=P.cellsOf f.type
 |[],[],o,e,h,_,_,_=>by simp_all[qh,bl]
 |[],_::_,o,e,h,ak,_,_=>by simp at ak
 |_::_,[],o,e,h,ak,_,_=>by simp at ak
 |f::ob,l::ls,o,e,h,ak,ad,he=>by
  simp[qh]at h;obtain⟨rfl,h⟩:=h;obtain⟨U,ab,al⟩:=Nv ob ls (f.offset+P.cellsOf f.type) e h (by grind) (λi bj aG aQ er=>ad (i+1) bj aG (by grind) (by grind)) he;have aT:=ad 0 f l rfl rfl;have hlen:=mg aT;refine⟨by omega,?_,λi bj aG aQ er=>?_⟩
  ·have aK:(cs.drop f.offset).take (e-f.offset)=(cs.drop f.offset).take (P.cellsOf f.type)++(cs.drop (f.offset+P.cellsOf f.type)).take (e-(f.offset+P.cellsOf f.type)):=by rw[show e-f.offset=P.cellsOf f.type+(e-(f.offset+P.cellsOf f.type))by omega,List.take_add,List.drop_drop]
   grind [Ad]
  grind
def l4(P:Program)(k:Nat)(t:TypeId)(q:aa):Prop:=match ik P t with
 |some true=>∃cs,q=.agg cs/\qg P k t cs
 |_=>∃dF,q=dF/\qg P k t [dF]
def qu(P:Program)(k:Nat):List TypeId->List aa->Prop
 |[],[]=>True
 |t::fl,q::bz=>l4 P k t q/\qu P k fl bz
 |_,_=>False
theorem single{pcs:List aa}{v:Value}(ah:v.cells=#[v])(h:bl iK w pcs v.cells.toList):∃q,pcs=[q]/\aY iK w q v:=by
 rw[ah]at h;have ak:=mg h
 match pcs,h with
 |[q],h=>
  obtain⟨bg,cB,e,al,_⟩:=h;grind
 |[],_=>simp at ak
 |_::_::_,_=>simp at ak
end
theorem Ar{P:Program}:∀(k:Nat)(t:TypeId)(cs:List aa),qg P k t cs->bG cs=true
 |0,t,cs,h=>by trivial
 |k+1,t,cs,h=>by
  unfold qg at h;split at h
  ·obtain⟨b,rfl⟩:=h;rfl
  ·obtain⟨n,rfl,_⟩:=h;rfl
  ·obtain⟨s,rfl⟩:=h;rfl
  ·rename_i e hu;rcases h with rfl|⟨off,ls,rfl,_,ak⟩
   ·rfl
   ·have:bG ls.flatten=true:=by
     refine(hH _).2 λq aH=>?_;obtain⟨l,gk,bQ⟩:=List.mem_flatten.1 aH;exact(hH l).1 (Ar k e l (ak l gk).1) q bQ
    grind [bG,aa.plain,aa.one]
  ·rename_i fs hu;obtain⟨ls,rfl,hlen,ak⟩:=h;refine(hH _).2 λq aH=>?_;obtain⟨l,gk,bQ⟩:=List.mem_flatten.1 aH;obtain⟨i,hi⟩:=List.mem_iff_getElem?.1 gk;have al9:i<fs.size:=by grind
   exact(hH l).1 (Ar k _ l (ak i fs[i] l (by simp) hi).1) q bQ
  grind
theorem Zb{P:Program}{k:Nat}{t:TypeId}{q:aa}(h:l4 P k t q):q.plain=true:=by
 unfold l4 at h;split at h
 ·grind [aa.plain,Ar]
 ·obtain⟨dF,rfl,h⟩:=h;have:=Ar k t _ h;grind [bG]
theorem Om{P:Program}{k:Nat}:∀{fl:List TypeId}{bz:List aa},qu P k fl bz->∀q∈bz,q.plain=true
 |[],[],_,q,h=>by cases h
 |t::fl,x::bz,h,q,aH=>by
  rcases List.mem_cons.1 aH with rfl|aH
  ·exact Zb h.1
  ·exact Om h.2 q aH
 |[],_::_,h,_,_=>h.elim
 |_::_,[],h,_,_=>h.elim
def wo(w:World):List (Nat×Loop):=(List.range w.heap.size).filterMap λl=>match w.heap[l]? with
 |some (Obj.loop o)=>some (l,o)
 |_=>none
theorem Mk{P:Program}{f:FuncId}{bz:List aa}{af:List Value}{w:World}{R:aa->Prop}(h:∀m,gL P f bz m λv E m'=>R v/\E=[]/\m'=m)(ai:bl iK w bz af):
  lb P f af.toArray w λe w'=>∃v pv bn,e=.returned v/\aY bn w' pv v/\R pv/\w'.os=w.os/\w'.output=w.output/\w.heap.size<=w'.heap.size/\∀k,k<w.heap.size->w'.heap[k]?=w.heap[k]?:=by
 have hm:c0 iK ⟨λ_=>.hole,0,0,wo w⟩ w:=by
  refine⟨λi hi=>absurd hi (Nat.not_lt_zero i),λ_ _=>rfl,λi b h=>(by cases h),λi j b h=>(by cases h),λi j b h=>(by cases h),λi j b h=>(by cases h),λl o ak=>?_⟩;grind [wo]
 refine(h _ iK af w hm ai).mono ?_;rintro e w' ⟨v,pv,E,m',bn,rfl,U,ab,al,aJ,rfl,rfl⟩;refine⟨v,pv,bn,rfl,U,aJ,al.os,al.output,al.size,λk aq=>?_⟩;by_cases ak:∃o,w.heap[k]?=some (.loop o)
 ·obtain⟨o,ar⟩:=ak;rw[ar];refine ab.gw k o ?_;grind [wo]
 ·exact(al.rest k aq (By k) (λo ar=>ak ⟨o,ar⟩)).1
end
section
open Go Go.RowKit Go.WideShapes Go.ChangeShapes
variable[cQ]
section
variable{H:Type}{enc:TypeId×Value->H}{P:Program}
theorem VW{f:Func}{s:ChangeSpec}{apart fresh handsOn again:Bool}{W W':World}{args:Array Value}{v:Value}{ds gs:List (DataW H)}{before pa pv:List MemPlace}
  (hW:DataW.Whole enc P f.params.toList s.vars apart W args.toList ds gs before)
  (gO:∀(b:Nat)(sp:Nat->Bool)(aV:Bool),DataW.TrodAll enc P W' b sp aV f.resultTypes.toList (v.resultList f.resultTypes.size) (s.fn H (ds++gs)).results [])
  (qb:∀sp:Nat->Bool,(∀p∈before,sp p.block=true)->DataW.TrodAll enc P W' 0 sp true f.params.toList args.toList (s.fn H (ds++gs)).args pa)
  (SM:∀sp:Nat->Bool,(∀p∈before,sp p.block=true)->DataW.TrodVars enc P W' sp s.vars (s.fn H (ds++gs)).vars pv)
  (gy:before=pa++pv) (hb:Below W.heap.size W W')
  (fU:∀(j:Nat)(t:TypeId)(r:Value),f.resultTypes[j]?=some t->(v.resultList f.resultTypes.size)[j]?=some r->Value.okWide P W' .any 0 t r):
  s.post enc P f apart fresh handsOn again W args v W':=by
 have aU:∀p∈before,p.block<W.heap.size:=λp ae=>hW.lt p ae;have hold:∀p∈before,(λb=>decide (b<W.heap.size)) p.block=true:=λp ae=>by simpa using aU p ae
 refine⟨ds,gs,before,[],pa,pv,hW,gO _ _ _,qb _ hold,SM _ hold,World.keptBut_mono (λp ae=>⟨ae,?_⟩) (hb.frame (·∈before)),λ_=>?_⟩
 ·rw[gy,List.mem_append]at ae;exact Or.inr ae
 ·obtain⟨_,_,_,_,_,bO,aI⟩:=hW;refine⟨fU,_,_,([]++pa)++pv,⟨[]++pa,pv,trodAll_append (qb _ (λ_ _=>rfl)) (gO _ _ _),SM _ (λ_ _=>rfl),rfl,?_,?_⟩,?_⟩
  ·intro b off ae;have c1:MemPlace.cell b off∈before:=by rw[gy];simpa using ae
   rw[hb.frozen (aU _ c1)];exact bO b off c1
  ·intro au;have:=aI au;rw[gy]at this;simpa using this
  ·intro p ae _;rw[gy];simpa using ae
theorem Mn(ak:laidOutB P=true){W W':World}(hb:Below W.heap.size W W'){sp:Nat->Bool}:∀{fl:List TypeId}{af:List Value}{ds:List (DataW H)}{ps:List MemPlace},DataW.TrodAll enc P W 0 (λ_=>true) true fl af ds ps->(∀t∈fl,P.readableRec t=true/\t<P.types.size) ->
  (∀p∈ps,p.block<W.heap.size)->(∀p∈ps,sp p.block=true)->DataW.TrodAll enc P W' 0 sp true fl af ds ps
 |[],[],[],_,h,_,_,_=>h
 |t::fl,v::af,d::ds,ps,h,ad,aU,ao=>by
  obtain⟨p,q,U,ab,rfl⟩:=h;exact⟨p,q,WideElems.Trod_stays ak (ad t (by simp)).1 (ad t (by simp)).2 U (λx aj=>hb.same (aU x (by simp[aj]))) (λx aj=>ao x (by simp[aj])),
   Mn ak hb ab (λt a1=>ad t (by simp[a1])) (λx aj=>aU x (by simp[aj])) (λx aj=>ao x (by simp[aj])),rfl⟩
 |[],[],_::_,_,h,_,_,_=>h.elim
 |[],_::_,_,_,h,_,_,_=>h.elim
 |_::_,[],_,_,h,_,_,_=>h.elim
 |_::_,_::_,[],_,h,_,_,_=>h.elim
end
end
section
open Go
structure bA where
 r:Nat->Nat->Prop
 c:Nat->Prop
instance:CoeFun bA (λ_=>Nat->Nat->Prop):=⟨bA.r⟩
structure b0(G:Nat)(ρ:bA):Prop where
 low:∀{a b},ρ a b->(a<G/\b=a)\/(G<=a/\G<=b)
 fn:∀{a b c},ρ a b->ρ a c->b=c
 inj:∀{a b c},ρ a c->ρ b c->a=b
structure cN(ρ σ:bA):Prop where
 r:∀a b,ρ a b->σ a b
 c:∀a,ρ.c a->σ.c a
instance{ρ σ:bA}:CoeFun (cN ρ σ) (λ_=>∀a b,ρ a b->σ a b):=⟨cN.r⟩
theorem cN.refl(ρ:bA):cN ρ ρ:=⟨λ_ _ h=>h,λ_ h=>h⟩
theorem cN.trans{ρ σ τ:bA}(h:cN ρ σ)(k:cN σ τ):cN ρ τ:=⟨λa b x=>k a b (h a b x),λa x=>k.c a (h.c a x)⟩
structure ee where
 F:FuncId->Prop
 CL:FuncId->Nat->Prop
 cp:Bool
 G:Nat
 K:Code->Prop
structure AdR(ρ:bA)(a a':Addr):Prop where
 b:ρ a.block a'.block
 o:a'.off=a.off
 s:a'.spot=a.spot
theorem AdR.mono{ρ σ:bA}(h:cN ρ σ){a a':Addr}(k:AdR ρ a a'):AdR σ a a':=⟨h _ _ k.b,k.o,k.s⟩
theorem AdR.add{ρ:bA}{a a':Addr}(h:AdR ρ a a')(n:Nat):AdR ρ (a.add n) (a'.add n):=by
 unfold Addr.add;split
 ·exact h
 ·exact⟨h.b,by simp[h.o],rfl⟩
structure si(ρ:bA)(a a':Addr):Prop extends AdR ρ a a' where
 c:ρ.c a.block
theorem si.mono{ρ σ:bA}(h:cN ρ σ){a a':Addr}(k:si ρ a a'):si σ a a':=⟨k.toAdR.mono h,h.c _ k.c⟩
theorem si.add{ρ:bA}{a a':Addr}(h:si ρ a a')(n:Nat):si ρ (a.add n) (a'.add n):=⟨h.toAdR.add n,by unfold Addr.add;split<;>exact h.c⟩
theorem AdR.eq_iff{G:Nat}{ρ:bA}(ok:b0 G ρ){a a' b a6:Addr}(h:AdR ρ a a')(k:AdR ρ b a6):a'=a6↔a=b:=by
 obtain⟨x,o,s⟩:=a;obtain⟨bk,o',s'⟩:=a';obtain⟨y,p,t⟩:=b;obtain⟨dj,p',bw⟩:=a6;obtain⟨U,ab,al⟩:=h;obtain⟨k1,bf,bP⟩:=k;subst ab al bf bP;simp only[Addr.mk.injEq,and_congr_left_iff];rintro -;constructor
 ·rintro rfl;exact ok.inj U k1
 ·rintro rfl;exact ok.fn U k1
inductive tQ(C:ee)(ρ:bA):Fn->Fn->Prop
 |func {f:FuncId}:C.F f->tQ C ρ (.func f) (.func f)
 |yield {l aG:Nat}:ρ l aG->tQ C ρ (.yield l) (.yield aG)
theorem tQ.mono{C:ee}{ρ σ:bA}(h:cN ρ σ){f bj:Fn}(k:tQ C ρ f bj):tQ C σ f bj:=by
 cases k with
 |func bc=>exact .func bc
 |yield bc=>exact .yield (h _ _ bc)
inductive df{α β:Type}(R:α->β->Prop):List α->List β->Prop
 |nil:df R [] []
 |cons {x:α} {y:β} {xs:List α} {ys:List β}:R x y->df R xs ys->df R (x::xs) (y::ys)
def bE{α β:Type}(R:α->β->Prop)(xs:Array α)(ys:Array β):Prop:=xs.size=ys.size/\∀(i:Nat) x y,xs[i]?=some x->ys[i]?=some y->R x y
inductive aZ(C:ee)(ρ:bA):Value->Value->Prop
 |bool {b:Bool}:aZ C ρ (.bool b) (.bool b)
 |int {k:IntKind} {n:Int}:aZ C ρ (.int k n) (.int k n)
 |string {s:ByteArray}:aZ C ρ (.string s) (.string s)
 |ca:aZ C ρ (.pointer none) (.pointer none)
 |ptr {a a':Addr}:AdR ρ a a'->aZ C ρ (.pointer (some a)) (.pointer (some a'))
 |bC {n m:Nat}:aZ C ρ (.slice none n m) (.slice none n m)
 |sl {a a':Addr} {n m:Nat}:si ρ a a'->aZ C ρ (.slice (some a) n m) (.slice (some a') n m)
 |jc {a a':Addr}:aZ C ρ (.slice (some a) 0 0) (.slice (some a') 0 0)
 |qi:aZ C ρ (.map none) (.map none)
 |map {r bR:Nat}:ρ r bR->aZ C ρ (.map (some r)) (.map (some bR))
 |vh:aZ C ρ (.chan none) (.chan none)
 |chan {r bR:Nat}:ρ r bR->aZ C ρ (.chan (some r)) (.chan (some bR))
 |func {f bj:Fn} {a a' b a6:Array Value}:tQ C ρ f bj->a.size=a'.size->(∀(i:Nat) x y,a[i]?=some x->a'[i]?=some y->aZ C ρ x y)->b.size=a6.size->(∀(i:Nat) x y,b[i]?=some x->a6[i]?=some y->aZ C ρ x y)->aZ C ρ (.func f a b) (.func bj a' a6)
 |nilFunc:aZ C ρ .nilFunc .nilFunc
 |iface {t:TypeId} {v bg:Value}:aZ C ρ v bg->aZ C ρ (.iface t v) (.iface t bg)
 |nilIface:aZ C ρ .nilIface .nilIface
 |agg {a a':Array Value}:a.size=a'.size->(∀(i:Nat) x y,a[i]?=some x->a'[i]?=some y->aZ C ρ x y)->aZ C ρ (.agg a) (.agg a')
 |tuple {a a':Array Value}:a.size=a'.size->(∀(i:Nat) x y,a[i]?=some x->a'[i]?=some y->aZ C ρ x y)->aZ C ρ (.tuple a) (.tuple a')
 |bT {bg:Value}:(∀c,bg≠.agg c)->(∀c,bg≠.tuple c)->(bg≠.pointer none/\bg≠.nilIface/\bg≠.nilFunc)/\(∀n a b,bg≠.func (.method n) a b)/\(∀b,bg≠.bool b)->aZ C ρ undef bg
 |vi {n:String} {a b:Array Value}:aZ C ρ (.func (.method n) #[.nilIface] #[]) (.func (.method n) a b)
section
variable{C:ee}{ρ σ:bA}
theorem aZ.mono(h:cN ρ σ){v bg:Value}(k:aZ C ρ v bg):aZ C σ v bg:=by
 induction k with
 |ptr k=>exact .ptr (k.mono h)
 |sl k=>exact .sl (k.mono h)
 |jc=>exact .jc
 |map k=>exact .map (h _ _ k)
 |chan k=>exact .chan (h _ _ k)
 |func k U _ al _ zD tE=>exact .func (k.mono h) U zD al tE
 |iface _ az=>exact .iface az
 |agg U _ az=>exact .agg U az
 |tuple U _ az=>exact .tuple U az
 |bT U ab al=>exact .bT U ab al
 |vi=>exact .vi
 |_=>constructor
abbrev cv(C:ee)(ρ:bA):Array Value->Array Value->Prop:=bE (aZ C ρ)
theorem cv.mono(h:cN ρ σ){a a':Array Value}(k:cv C ρ a a'):cv C σ a a':=⟨k.1,λi x y aj aF=>(k.2 i x y aj aF).mono h⟩
theorem aZ.te{a a':Array Value}(h:cv C ρ a a'):aZ C ρ (.agg a) (.agg a'):=.agg h.1 h.2
theorem aZ.tuple'{a a':Array Value}(h:cv C ρ a a'):aZ C ρ (.tuple a) (.tuple a'):=.tuple h.1 h.2
end
section
variable{α β γ δ:Type}{R:α->β->Prop}{S:γ->δ->Prop}
theorem bE.nil:bE R (#[]:Array α) (#[]:Array β):=⟨rfl,λi x y h=>by simp at h⟩
theorem bE.get{xs:Array α}{ys:Array β}(h:bE R xs ys)(i:Nat):(xs[i]?=none/\ys[i]?=none)\/∃x y,xs[i]?=some x/\ys[i]?=some y/\R x y:=by
 by_cases hi:i<xs.size
 ·have aC:i<ys.size:=h.1▸hi;exact .inr ⟨xs[i],ys[i],by simp[hi],by simp[aC],h.2 i _ _ (by simp[hi]) (by simp[aC])⟩
 ·have aC:¬i<ys.size:=h.1▸hi;grind
theorem bE.push{xs:Array α}{ys:Array β}(h:bE R xs ys){x:α}{y:β}(ad:R x y):bE R (xs.push x) (ys.push y):=by
 refine⟨by simp[h.1],λi a b au hb=>?_⟩;rw[Array.getElem?_push]at au hb;rw[h.1]at au;split at au
 ·grind
 ·rename_i e;rw[if_neg e]at hb;exact h.2 i a b au hb
theorem bE.append{xs hD:Array α}{ys Ct:Array β}(h:bE R xs ys)(k:bE R hD Ct):bE R (xs++hD) (ys++Ct):=by
 refine⟨by simp[h.1,k.1],λi a b au hb=>?_⟩;rw[Array.getElem?_append]at au hb;rw[h.1]at au;split at au
 ·rename_i e;rw[if_pos e]at hb;exact h.2 i a b au hb
 ·rename_i e;rw[if_neg e]at hb;exact k.2 _ a b au hb
theorem bE.set{xs:Array α}{ys:Array β}(h:bE R xs ys)(i:Nat){x:α}{y:β}(ad:R x y):bE R (xs.setIfInBounds i x) (ys.setIfInBounds i y):=by
 refine⟨by simp[h.1],λj a b au hb=>?_⟩;rw[Array.getElem?_setIfInBounds]at au hb;split at au
 ·grind
 ·rename_i e;rw[if_neg e]at hb;exact h.2 j a b au hb
theorem bE.modify{xs:Array α}{ys:Array β}(h:bE R xs ys)(i:Nat){f:α->α}{g:β->β}(ad:∀x y,R x y->R (f x) (g y)):bE R (xs.modify i f) (ys.modify i g):=by
 refine⟨by simp[h.1],λj a b au hb=>?_⟩;rw[Array.getElem?_modify]at au hb;split at au
 ·rename_i e;rw[if_pos e]at hb;obtain⟨x,aj,rfl⟩:=Option.map_eq_some_iff.1 au;obtain⟨y,aF,rfl⟩:=Option.map_eq_some_iff.1 hb;exact ad _ _ (h.2 j x y aj aF)
 ·rename_i e;rw[if_neg e]at hb;exact h.2 j a b au hb
theorem bE.map{xs:Array α}{ys:Array β}(h:bE R xs ys){f:α->γ}{g:β->δ}(ad:∀x y,R x y->S (f x) (g y)):bE S (xs.map f) (ys.map g):=by
 refine⟨by simp[h.1],λj a b au hb=>?_⟩;rw[Array.getElem?_map]at au hb;obtain⟨x,aj,rfl⟩:=Option.map_eq_some_iff.1 au;obtain⟨y,aF,rfl⟩:=Option.map_eq_some_iff.1 hb;exact ad _ _ (h.2 j x y aj aF)
theorem bE.extract{xs:Array α}{ys:Array β}(h:bE R xs ys)(i j:Nat):bE R (xs.extract i j) (ys.extract i j):=by
 refine⟨by simp[h.1],λk a b au hb=>?_⟩;rw[Array.getElem?_extract]at au hb;rw[h.1]at au;split at au
 ·rename_i e;rw[if_pos e]at hb;exact h.2 _ a b au hb
 ·cases au
theorem bE.replicate(n:Nat){x:α}{y:β}(ad:R x y):bE R (Array.replicate n x) (Array.replicate n y):=by
 refine⟨by simp,λi a b au hb=>?_⟩;grind
theorem bE.mono{R':α->β->Prop}{xs:Array α}{ys:Array β}(h:bE R xs ys)(ad:∀x y,R x y->R' x y):bE R' xs ys:=⟨h.1,λi x y aj aF=>ad _ _ (h.2 i x y aj aF)⟩
theorem bE.one{x:α}{y:β}(ad:R x y):bE R #[x] #[y]:=bE.nil.push ad
theorem bE.toList{xs:Array α}{ys:Array β}(h:bE R xs ys):df R xs.toList ys.toList:=by
 obtain⟨xs⟩:=xs;obtain⟨ys⟩:=ys;obtain⟨U,ab⟩:=h;simp  at ab;induction xs generalizing ys with
 |nil=>cases ys with
  |nil=>exact .nil
  |cons=>simp at U
 |cons x xs az=>cases ys with
  |nil=>simp at U
  |cons y ys=>exact .cons (ab 0 x y rfl rfl) (az ys (by grind) λi a b au hb=>ab (i+1) a b (by grind) (by grind))
theorem bE.ofList{xs:List α}{ys:List β}(h:df R xs ys):bE R xs.toArray ys.toArray:=by
 induction h with
 |nil=>exact bE.nil
 |cons ad _ az=>
  refine⟨by have:=az.1;grind,λi x y aj aF=>?_⟩;cases i with
  |zero=>grind
  |succ i=>exact az.2 i x y (by grind) (by grind)
theorem bE.As{xs:Array α}{ys:Array β}(h:df R xs.toList ys.toList):bE R xs ys:=by simpa using bE.ofList h
theorem bE.back{xs:Array α}{ys:Array β}(h:bE R xs ys):(xs.back?=none/\ys.back?=none)\/∃x y,xs.back?=some x/\ys.back?=some y/\R x y:=by
 simp only[Array.back?];rw[h.1];exact h.get _
end
end
section
open Go
structure om(C:ee)(ρ:bA)(e e':MapEntry):Prop where
 key:aZ C ρ e.key e'.key
 val:aZ C ρ e.val e'.val
 born:e'.born=e.born
inductive Cu(C:ee)(ρ:bA):Target->Target->Prop
 |collected {r bR:Nat}:ρ r bR->Cu C ρ (.collected r) (.collected bR)
structure sj(C:ee)(ρ:bA)(d dq:Deferred):Prop where
 t:Cu C ρ d.target dq.target
 a:cv C ρ d.args dq.args
structure zO(C:ee)(ρ:bA)(l aG:Loop):Prop where
 state:aG.state=l.state
 pending:aG.pending=l.pending
 fn:aG.fn=l.fn
 tmps:cv C ρ l.tmps aG.tmps
 params:aG.params=l.params
 assign:aG.assign=l.assign
 body:aG.body=l.body
 defers:ρ l.defers aG.defers
 zP:∀c,l.pending=some c->C.K c
 zQ:C.K l.assign
 zR:C.K l.body
inductive jj(C:ee)(ρ:bA):Obj->Obj->Prop
 |cells {c c':Array Value} {e:TypeId} {qI qy:Nat×Nat}:cv C ρ c c'->(∀i,qy.1<=i->i<qy.2->qI.1<=i/\i<qI.2)->jj C ρ (.cells c e qI) (.cells c' e qy)
 |map {es ec:Array MapEntry} {eS:Nat}:bE (om C ρ) es ec->jj C ρ (.map es eS) (.map ec eS)
 |number {a a':Addr} {l:Bool}:AdR ρ a a'->jj C ρ (.number a l) (.number a' l)
 |Bn {s:ByteArray} {p:Nat}:jj C ρ (.stringIter s p) (.stringIter s p)
 |EN {a:Nat} {b:Array Nat} {c:Nat}:jj C ρ (.mapIter none a b c) (.mapIter none a b c)
 |y3 {r bR a:Nat} {b:Array Nat} {c:Nat}:ρ r bR->jj C ρ (.mapIter (some r) a b c) (.mapIter (some bR) a b c)
 |loop {l aG:Loop}:zO C ρ l aG->jj C ρ (.loop l) (.loop aG)
 |Ks:jj C ρ (.deferred none) (.deferred none)
 |FD {ds zS:List Deferred}:df (sj C ρ) ds zS->jj C ρ (.deferred (some ds)) (.deferred (some zS))
section
variable{C:ee}{ρ σ:bA}
theorem df.mono{α β:Type}{R R':α->β->Prop}{xs:List α}{ys:List β}(h:df R xs ys)(ad:∀x y,R x y->R' x y):df R' xs ys:=by
 induction h with
 |nil=>exact .nil
 |cons h _ az=>exact .cons (ad _ _ h) az
theorem df.append{α β:Type}{R:α->β->Prop}{xs hD:List α}{ys Ct:List β}(h:df R xs ys)(k:df R hD Ct):df R (xs++hD) (ys++Ct):=by
 induction h with
 |nil=>exact k
 |cons h _ az=>exact .cons h az
theorem om.mono(h:cN ρ σ){e e':MapEntry}(k:om C ρ e e'):om C σ e e':=⟨k.key.mono h,k.val.mono h,k.born⟩
theorem Cu.mono(h:cN ρ σ){e e':Target}(k:Cu C ρ e e'):Cu C σ e e':=by
 cases k with
 |collected k=>exact .collected (h _ _ k)
theorem sj.mono(h:cN ρ σ){e e':Deferred}(k:sj C ρ e e'):sj C σ e e':=⟨k.t.mono h,cv.mono h k.a⟩
theorem zO.mono(h:cN ρ σ){e e':Loop}(k:zO C ρ e e'):zO C σ e e':=⟨k.state,k.pending,k.fn,cv.mono h k.tmps,k.params,k.assign,k.body,h _ _ k.defers,k.zP,k.zQ,k.zR⟩
theorem jj.mono(h:cN ρ σ){o o':Obj}(k:jj C ρ o o'):jj C σ o o':=by
 cases k with
 |cells k1 bf=>exact .cells (cv.mono h k1) bf
 |map k=>exact .map (k.mono λ_ _ x=>x.mono h)
 |number k=>exact .number (k.mono h)
 |Bn=>exact .Bn
 |EN=>exact .EN
 |y3 k=>exact .y3 (h _ _ k)
 |loop k=>exact .loop (k.mono h)
 |Ks=>exact .Ks
 |FD k=>exact .FD (k.mono λ_ _ x=>x.mono h)
end
def n3:Obj->Prop
 |.cells ..=>True
 |_=>False
structure dN(C:ee)(ρ:bA)(ro:Nat->Prop)(W W':World):Prop where
 ok:b0 C.G ρ
 hR:C.G<=W.heap.size
 ru:C.G<=W'.heap.size
 obj:∀b a6,ρ b a6->∃o o',W.heap[b]?=some o/\W'.heap[a6]?=some o'/\jj C ρ o o'
 bK:∀b a6,ρ b a6->ro a6->∃c e n,c.size<=n/\W.heap[b]?=some (.cells c e (0,n))
 row:∀b,ρ.c b->∃o,W.heap[b]?=some o/\n3 o
structure Fr(ρ σ:bA)(ro:Nat->Prop)(W W':World):Prop where
 size:W.heap.size<=W'.heap.size
 tape:W'.tape=W.tape
 os:W'.os=W.os
 out:W'.output=W.output
 le:cN ρ σ
 keep:∀b,b<W.heap.size->((∀a,¬ρ a b)\/ro b)->W'.heap[b]?=W.heap[b]?
 new:∀a b,σ a b->ρ a b\/W.heap.size<=b
theorem Fr.refl(ρ:bA)(ro:Nat->Prop)(W:World):Fr ρ ρ ro W W:=⟨Nat.le_refl _,rfl,rfl,rfl,cN.refl ρ,λ_ _ _=>rfl,λ_ _ h=>.inl h⟩
theorem Fr.trans{ρ σ τ:bA}{ro:Nat->Prop}{W W' UH:World}(h:Fr ρ σ ro W W')(k:Fr σ τ ro W' UH):Fr ρ τ ro W UH:=by
 refine⟨Nat.le_trans h.size k.size,k.tape.trans h.tape,k.os.trans h.os,k.out.trans h.out,h.le.trans k.le,λb hb ad=>?_,λa b bL=>?_⟩
 ·rw[k.keep b (Nat.lt_of_lt_of_le hb h.size) ?_,h.keep b hb ad];rcases ad with ad|ad
  ·by_cases dY:ro b
   ·grind
   ·refine .inl λa au=>?_;rcases h.new a b au with bc|bc;all_goals grind
  grind
 ·rcases k.new a b bL with bc|bc
  ·exact h.new a b bc
  ·exact .inr (Nat.le_trans h.size bc)
inductive ja(σ:bA)(ro:Nat->Prop):Event->Prop
 |rd {a:Addr} {b:Nat}:σ b a.block->ja σ ro ⟨.cell a,false,false⟩
 |wr {a:Addr} {b:Nat}:σ b a.block->¬ro a.block->ja σ ro ⟨.cell a,true,false⟩
 |get {r b:Nat}:σ b r->ja σ ro ⟨.obj r,false,false⟩
 |set {r b:Nat}:σ b r->¬ro r->ja σ ro ⟨.obj r,true,false⟩
 |ext {f:FuncId}:ja σ ro ⟨.mark (.extern f),false,true⟩
 |room:ja σ ro ⟨.mark .noRoom,false,true⟩
theorem ja.mono{ρ σ:bA}{ro:Nat->Prop}(h:cN ρ σ){e:Event}(k:ja ρ ro e):ja σ ro e:=by
 cases k with
 |rd k=>exact .rd (h _ _ k)
 |wr k bB=>exact .wr (h _ _ k) bB
 |get k=>exact .get (h _ _ k)
 |set k bB=>exact .set (h _ _ k) bB
 |ext=>exact .ext
 |room=>exact .room
def Halt.still:Halt->Prop
 |.stuck _=>True
 |.unsupported (.initOrder _)=>False
 |.unsupported _=>True
 |_=>False
inductive dR(C:ee)(p p':Program){α β:Type}(A:bA->α->β->Prop):bA->Sem α->Sem β->Prop
 |pure {ρ:bA} {a:α} {b:β}:A ρ a b->dR C p p' A ρ (.pure a) (.pure b)
 |load {ρ:bA} {a a':Addr} {k:Value->Sem α} {bB:Value->Sem β}:AdR ρ a a'->(∀v bg,aZ C ρ v bg->dR C p p' A ρ (k v) (bB bg))->dR C p p' A ρ (.load .plain a k) (.load .plain a' bB)
 |store {ρ:bA} {a a':Addr} {v bg:Value} {k:Sem α} {bB:Sem β}:AdR ρ a a'->aZ C ρ v bg->dR C p p' A ρ k bB->dR C p p' A ρ (.store .plain a v k) (.store .plain a' bg bB)
 |new {ρ:bA} {o o':Obj} {k:Nat->Sem α} {bB:Nat->Sem β}:jj C ρ o o'->(∀σ r bR,cN ρ σ->b0 C.G σ->σ r bR->(n3 o->σ.c r)->dR C p p' A σ (k r) (bB bR))->dR C p p' A ρ (.new o k) (.new o' bB)
 |shape {ρ:bA} {r bR:Nat} {k:Option (TypeId×Nat)->Sem α} {bB:Option (TypeId×Nat)->Sem β}:ρ r bR->(∀s,dR C p p' A ρ (k s) (bB s))->dR C p p' A ρ (.shape r k) (.shape bR bB)
 |frozen {ρ:bA} {a a':Addr} {k:Bool->Sem α} {bB:Bool->Sem β}:AdR ρ a a'->(∀b a6,(a6=true->b=true)->dR C p p' A ρ (k b) (bB a6))->dR C p p' A ρ (.frozen a k) (.frozen a' bB)
 |getObj {ρ:bA} {r bR:Nat} {k:Obj->Sem α} {bB:Obj->Sem β}:ρ r bR->(∀o o',jj C ρ o o'->dR C p p' A ρ (k o) (bB o'))->dR C p p' A ρ (.getObj r k) (.getObj bR bB)
 |setObj {ρ:bA} {r bR:Nat} {o o':Obj} {k:Sem α} {bB:Sem β}:ρ r bR->jj C ρ o o'->dR C p p' A ρ k bB->dR C p p' A ρ (.setObj r o k) (.setObj bR o' bB)
 |choose {ρ:bA} {q:Question} {k:Nat->Sem α} {bB:Nat->Sem β}:(∀n,dR C p p' A ρ (k n) (bB n))->dR C p p' A ρ (.choose q k) (.choose q bB)
 |program {ρ:bA} {k:Program->Sem α} {bB:Program->Sem β}:dR C p p' A ρ (k p) (bB p')->dR C p p' A ρ (.program k) (.program bB)
 |ext {ρ:bA} {f:FuncId} {k:Sem α} {bB:Sem β}:dR C p p' A ρ k bB->dR C p p' A ρ (.mark (.extern f) k) (.mark (.extern f) bB)
 |room {ρ:bA} {k:Sem α} {bB:Sem β}:dR C p p' A ρ k bB->dR C p p' A ρ (.mark .noRoom k) (.mark .noRoom bB)
 |yK {ρ:bA} {q:Question} {k:Nat->Sem α} {s:Sem β}:(∀n,dR C p p' A ρ (k n) s)->dR C p p' A ρ (.choose q k) s
 |yx {ρ:bA} {s:Sem α} {k:Program->Sem β}:dR C p p' A ρ s (k p')->dR C p p' A ρ s (.program k)
 |uw {ρ:bA} {k:Program->Sem α} {s:Sem β}:dR C p p' A ρ (k p) s->dR C p p' A ρ (.program k) s
 |y4 {ρ:bA} {m:Mark} {k:Sem α} {s:Sem β}:dR C p p' A ρ k s->dR C p p' A ρ (.mark m k) s
 |wL {ρ:bA} {r:Nat} {k:Option (TypeId×Nat)->Sem α} {s:Sem β}:(∀x,dR C p p' A ρ (k x) s)->dR C p p' A ρ (.shape r k) s
 |wy {ρ:bA} {a:Addr} {k:Bool->Sem α} {s:Sem β}:(∀x,dR C p p' A ρ (k x) s)->dR C p p' A ρ (.frozen a k) s
 |never {ρ:bA} {s:Sem α} {s':Sem β}:C.cp=true->(∀W,∃h bF,s.run p W=.halt h bF/\((∃v,h=.panic v)\/Halt.still h))->dR C p p' A ρ s s'
 |halt {ρ:bA} {h:Halt} {s:Sem β}:Halt.still h->dR C p p' A ρ (.halt h) s
 |panic {ρ:bA} {v bg:Value}:aZ C ρ v bg->dR C p p' A ρ (.halt (.panic v)) (.halt (.panic bg))
section
variable{C:ee}{p p':Program}{α β γ δ:Type}{A:bA->α->β->Prop}{B:bA->γ->δ->Prop}{ρ:bA}
theorem dR.bind{s:Sem α}{s':Sem β}{f:α->Sem γ}{bj:β->Sem δ}(h:dR C p p' A ρ s s')(ok:b0 C.G ρ)(aQ:∀σ a b,cN ρ σ->b0 C.G σ->A σ a b->dR C p p' B σ (f a) (bj b)):dR C p p' B ρ (s >>= f) (s' >>= bj):=by
 induction h with
 |pure h=>exact aQ _ _ _ (cN.refl _) ok h
 |load h _ az=>exact .load h λv bg ai=>az v bg ai ok aQ
 |store h bc _ az=>exact .store h bc (az ok aQ)
 |new h _ az=>exact .new h λσ r bR hle fU ad zw=>az σ r bR hle fU ad zw fU λτ a b ak ar au=>aQ τ a b (hle.trans ak) ar au
 |shape h _ az=>exact .shape h λs=>az s ok aQ
 |frozen h _ az=>exact .frozen h λb a6 hb=>az b a6 hb ok aQ
 |getObj h _ az=>exact .getObj h λo o' ar=>az o o' ar ok aQ
 |setObj h bc _ az=>exact .setObj h bc (az ok aQ)
 |choose _ az=>exact .choose λn=>az n ok aQ
 |program _ az=>exact .program (az ok aQ)
 |ext _ az=>exact .ext (az ok aQ)
 |room _ az=>exact .room (az ok aQ)
 |y4 _ az=>exact .y4 (az ok aQ)
 |uw _ az=>exact .uw (az ok aQ)
 |yx _ az=>exact .yx (az ok aQ)
 |yK _ az=>exact .yK λn=>az n ok aQ
 |never h k=>
  refine .never h λW=>?_;obtain⟨x,bF,U,ab⟩:=k W;simp_all
 |wL _ az=>exact .wL λx=>az x ok aQ
 |wy _ az=>exact .wy λx=>az x ok aQ
 |halt h=>exact .halt h
 |panic h=>exact .panic h
theorem dR.TH{iQ:bA->α->β->Prop}{s:Sem α}{s':Sem β}(h:dR C p p' A ρ s s')(aW:∀σ a b,A σ a b->iQ σ a b):dR C p p' iQ ρ s s':=by
 induction h with
 |pure h=>exact .pure (aW _ _ _ h)
 |load h _ az=>exact .load h az
 |store h bc _ az=>exact .store h bc az
 |new h _ az=>exact .new h az
 |shape h _ az=>exact .shape h az
 |frozen h _ az=>exact .frozen h az
 |getObj h _ az=>exact .getObj h az
 |setObj h bc _ az=>exact .setObj h bc az
 |choose _ az=>exact .choose az
 |program _ az=>exact .program az
 |ext _ az=>exact .ext az
 |room _ az=>exact .room az
 |y4 _ az=>exact .y4 az
 |uw _ az=>exact .uw az
 |yx _ az=>exact .yx az
 |yK _ az=>exact .yK az
 |never h k=>exact .never h k
 |wL _ az=>exact .wL az
 |wy _ az=>exact .wy az
 |halt h=>exact .halt h
 |panic h=>exact .panic h
end
section
variable{C:ee}{ρ:bA}{ro:Nat->Prop}{W W':World}
theorem dN.cell(h:dN C ρ ro W W'){a a':Addr}(au:AdR ρ a a'):(W.cell? a=none/\W'.cell? a'=none)\/∃v bg,W.cell? a=some v/\W'.cell? a'=some bg/\aZ C ρ v bg:=by
 obtain⟨o,o',U,ab,al⟩:=h.obj _ _ au.b;unfold World.cell?;rw[U,ab];cases al with
 |cells k1 bf=>
  simp only[au.s,au.o];cases ao:a.spot with
  |some s=>simp
  |none=>simpa using k1.get a.off
 |_=>grind
theorem dN.aiN(h:dN C ρ ro W W'){a a':Addr}(au:AdR ρ a a')(p:Program)(at_:Bool):∃e,W.farLoad p a at_=.error e/\Halt.still e:=by
 obtain⟨o,o',U,ab,al⟩:=h.obj _ _ au.b;unfold World.farLoad World.noCell;rw[U];cases al<;>exact⟨_,rfl,trivial⟩
theorem dN.agI(h:dN C ρ ro W W'){a a':Addr}(au:AdR ρ a a')(p:Program)(v:Value)(at_:Bool):∃e,Halt.still e/\∀τ d,(Go.Proofs.YtlminnpaeaganaaGreat.a8 W τ d).farStore p a v at_=.error e:=by
 obtain⟨o,o',U,ab,al⟩:=h.obj _ _ au.b;have key:∀τ d,(Go.Proofs.YtlminnpaeaganaaGreat.a8 W τ d).farStore p a v at_=W.farStore p a v at_:=λτ d=>by unfold World.farStore World.noCell;rw[show(Go.Proofs.YtlminnpaeaganaaGreat.a8 W τ d).heap[a.block]?=_ from U,U];cases al<;>rfl
 have:∃e,W.farStore p a v at_=.error e/\Halt.still e:=by
  unfold World.farStore World.noCell;rw[U];cases al<;>exact⟨_,rfl,trivial⟩
 grind
theorem dN.shape(h:dN C ρ ro W W'){r bR:Nat}(ad:ρ r bR):W'.shape? bR=W.shape? r:=by
 obtain⟨o,o',U,ab,al⟩:=h.obj _ _ ad;unfold World.shape?;rw[U,ab];cases al with
 |cells k1 bf=>simp[k1.1]
 |_=>rfl
theorem dN.frozen(h:dN C ρ ro W W'){a a':Addr}(au:AdR ρ a a'):W'.frozen? a'=true->W.frozen? a=true:=by
 obtain⟨o,o',U,ab,al⟩:=h.obj _ _ au.b;unfold World.frozen?;rw[U,ab];cases al with
 |cells k1 bf=>
  simp[au.o];grind
 |_=>exact id
theorem getElem?_modify_self{α:Type}{xs:Array α}{i:Nat}{x:α}{f:α->α}(h:xs[i]?=some x):(xs.modify i f)[i]?=some (f x):=by grind
theorem getElem?_modify_ne{α:Type}{xs:Array α}{i j:Nat}{f:α->α}(h:i≠j):(xs.modify i f)[j]?=xs[j]?:=by grind
theorem dN.put(h:dN C ρ ro W W'){r bR:Nat}(ad:ρ r bR)(dY:¬ro bR){o o':Obj}(ar:jj C ρ o o'){H H':Array Obj}
  (U:H[r]?=some o) (ab:H'[bR]?=some o') (s1:H.size=W.heap.size) (s2:H'.size=W'.heap.size) (k1:∀j,j≠r->H[j]?=W.heap[j]?) (bf:∀j,j≠bR->H'[j]?=W'.heap[j]?) (zw:∀x,W.heap[r]?=some x->n3 x->n3 o):dN C ρ ro { W with heap:=H } { W' with heap:=H' }:=by
 refine⟨h.ok,by rw[s1];exact h.hR,by rw[s2];exact h.ru,λb a6 hb=>?_,λb a6 hb zT=>?_,λb ah=>?_⟩
 ·by_cases e:b=r
  ·subst e;obtain rfl:=h.ok.fn hb ad;grind
  ·have e':a6≠bR:=λx=>e (h.ok.inj (x▸hb) ad);obtain⟨x,bk,aj,hc,bq⟩:=h.obj b a6 hb;grind
 ·have e:b≠r:=λx=>dY (by subst x;obtain rfl:=h.ok.fn hb ad;exact zT);obtain⟨c,t,n,aI,ah⟩:=h.bK b a6 hb zT;grind
 ·obtain⟨x,aj,nq⟩:=h.row b ah;grind
theorem dN.a8(h:dN C ρ ro W W')(τ:Tape)(d:Nat):dN C ρ ro (Go.Proofs.YtlminnpaeaganaaGreat.a8 W τ d) W':=⟨h.ok,h.hR,h.ru,h.obj,h.bK,h.row⟩
theorem dN.B0(h:dN C ρ ro W W')(τ:Tape)(d:Nat):dN C ρ ro W (Go.Proofs.YtlminnpaeaganaaGreat.a8 W' τ d):=⟨h.ok,h.hR,h.ru,h.obj,h.bK,h.row⟩
theorem dN.new(h:dN C ρ ro W W')(dY:∀b,W'.heap.size<=b->¬ro b){o o':Obj}(ar:jj C ρ o o'):
  ∃σ:bA,cN ρ σ/\σ W.heap.size W'.heap.size/\(n3 o->σ.c W.heap.size)/\dN C σ ro { W with heap:=W.heap.push o } { W' with heap:=W'.heap.push o' }/\Fr ρ σ ro W' { W' with heap:=W'.heap.push o' }:=by
 have lt:∀b a6,ρ b a6->b<W.heap.size/\a6<W'.heap.size:=λb a6 hb=>by
  obtain⟨x,bk,aj,hc,_⟩:=h.obj b a6 hb;grind
 have le:cN ρ ⟨λa b=>ρ a b\/(a=W.heap.size/\b=W'.heap.size),λa=>ρ.c a\/(a=W.heap.size/\n3 o)⟩:=⟨λa b x=>.inl x,λa x=>.inl x⟩;refine⟨⟨λa b=>ρ a b\/(a=W.heap.size/\b=W'.heap.size),λa=>ρ.c a\/(a=W.heap.size/\n3 o)⟩,le,.inr ⟨rfl,rfl⟩,λx=>.inr ⟨rfl,x⟩,⟨⟨λaj=>aj.elim h.ok.low λ⟨aK,aO⟩=>.inr ⟨aK▸h.hR,aO▸h.ru⟩,?_,?_⟩,by have:=h.hR;simp;omega,by have:=h.ru;simp;omega,?_,?_,?_⟩,⟨by simp,rfl,rfl,rfl,le,λb hb _=>?_,λa b bL=>bL.imp id λx=>by simp[x.2]⟩⟩
 ·rintro a b c (U|⟨rfl,rfl⟩) (ab|⟨ab,rfl⟩)
  ·exact h.ok.fn U ab
  all_goals grind
 ·rintro a b c (U|⟨rfl,rfl⟩) (ab|⟨rfl,ab⟩)
  ·exact h.ok.inj U ab
  all_goals grind
 ·rintro b a6 (hb|⟨rfl,rfl⟩)
  ·obtain⟨x,bk,aj,hc,bq⟩:=h.obj b a6 hb;exact⟨x,bk,by grind,by grind,bq.mono le⟩
  ·exact⟨o,o',by simp,by simp,ar.mono le⟩
 ·rintro b a6 (hb|⟨rfl,rfl⟩) zT
  ·obtain⟨c,t,n,aI,ah⟩:=h.bK b a6 hb zT;grind
  grind
 ·rintro b (ah|⟨rfl,ah⟩)
  ·obtain⟨x,aj,nq⟩:=h.row b ah;grind
  grind
 grind
end
def B0{α:Type}:Result α->Tape->Nat->Result α
 |.ok a w,τ,d=>.ok a (a8 w τ d)
 |.halt h w,τ,d=>.halt h (a8 w τ d)
def xm{α β:Type}(C:ee)(A:bA->α->β->Prop)(ρ:bA)(ro:Nat->Prop)(W':World)(es:Array Event):Result α->Result β×Array Event->Prop
 |.ok a bF,r=>∃σ b xO ec,r=(.ok b xO,es++ec)/\A σ a b/\dN C σ ro bF xO/\Fr ρ σ ro W' xO/\∀e∈ec,ja σ ro e
 |.halt (.panic v) bF,r=>C.cp=true\/∃σ bg xO ec,r=(.halt (.panic bg) xO,es++ec)/\aZ C σ v bg/\dN C σ ro bF xO/\Fr ρ σ ro W' xO/\∀e∈ec,ja σ ro e
 |.halt h _,_=>Halt.still h
section
variable{C:ee}{p p':Program}{α β:Type}{A:bA->α->β->Prop}{ro:Nat->Prop}
theorem xm.step{ρ σ:bA}{W' bF:World}{es es1:Array Event}{x:Result α}{r:Result β×Array Event}(h:xm C A σ ro bF (es++es1) x r)(aQ:Fr ρ σ ro W' bF)(he:∀e∈es1,ja σ ro e):xm C A ρ ro W' es x r:=by
 cases x with
 |ok a w=>
  obtain⟨τ,b,w',es2,U,ab,al,aJ,bm⟩:=h;refine⟨τ,b,w',es1++es2,by grind,ab,al,aQ.trans aJ,λe oO=>?_⟩;rcases Array.mem_append.1 oO with h|h
  ·exact(he e h).mono aJ.le
  grind
 |halt k w=>
  cases k with
  |panic v=>
   refine Or.imp id (λh=>?_) h;obtain⟨τ,b,w',es2,U,ab,al,aJ,bm⟩:=h;refine⟨τ,b,w',es1++es2,by grind,ab,al,aQ.trans aJ,λe oO=>?_⟩;rcases Array.mem_append.1 oO with h|h
   ·exact(he e h).mono aJ.le
   grind
  |_=>trivial
theorem Dh{ρ:bA}{W' w:World}{es:Array Event}{h:Halt}{r:Result β×Array Event}(bq:Halt.still h):xm C A ρ ro W' es (.halt h w) r:=by
 cases h with
 |panic v=>trivial
 |_=>trivial
theorem QR(es:Array Event)(e:Event):es.push e=es++#[e]:=rfl
theorem yL{P:Event->Prop}{e:Event}(h:P e):∀x∈#[e],P x:=λx aj=>by grind
theorem ad0{C:ee}{ρ:bA}{v bg:Value}(h:aZ C ρ v bg):(∀c,v≠.agg c)->(∀c,v≠.tuple c)->(∀c,bg≠.agg c)/\(∀c,bg≠.tuple c):=by
 cases h with
 |bT U ab _=>grind
 |_=>simp
theorem xm.B0{ρ:bA}{W':World}{es:Array Event}{r:Result α}{x:Result β×Array Event}(h:xm C A ρ ro W' es r x)(τ:Tape)(d:Nat):xm C A ρ ro W' es (B0 r τ d) x:=by
 cases r with
 |ok a w=>
  obtain⟨σ,b,w',es2,U,ab,al,aJ,bm⟩:=h;exact⟨σ,b,w',es2,U,ab,al.a8 _ _,aJ,bm⟩
 |halt k w=>
  cases k with
  |panic v=>
   refine Or.imp id (λh=>?_) h;obtain⟨σ,b,w',es2,U,ab,al,aJ,bm⟩:=h;exact⟨σ,b,w',es2,U,ab,al.a8 _ _,aJ,bm⟩
  |_=>exact h
def HF(C:ee)(A:bA->α->β->Prop)(ρ:bA)(ro:Nat->Prop)(W':World)(es:Array Event)(f:World->Result α)(W:World)(x:Result β×Array Event):Prop:=
 ∃(k:Nat)(zG:Tape),(∃r,xm C A ρ ro W' es r x/\∀(τ:Tape) d,(∀j q,j<k->τ (d+j) q=zG j q)->f (a8 W τ d)=B0 r τ (d+k)) \/
  (C.cp=true/\∀(τ:Tape) d,(∀j q,j<k->τ (d+j) q=zG j q)->∃h bF,f (a8 W τ d)=.halt h bF/\((∃v,h=.panic v)\/Halt.still h))
theorem HF.same{ρ σ:bA}{W bF W' xO:World}{es es1:Array Event}{f f1:World->Result α}{x mN:Result β×Array Event}(h:HF C A σ ro xO es1 f1 bF mN)(aQ:∀τ d,f (a8 W τ d)=f1 (a8 bF τ d))(ad:∀r,xm C A σ ro xO es1 r mN->xm C A ρ ro W' es r x):HF C A ρ ro W' es f W x:=by
 obtain⟨k,zG,h⟩:=h;refine⟨k,zG,h.imp (λ⟨r,U,ab⟩=>⟨r,ad r U,λτ d au=>by grind⟩) λ⟨U,ab⟩=>⟨U,λτ d au=>?_⟩⟩;simp_all
theorem HF.ask{ρ σ:bA}{W W' xO:World}{es es1:Array Event}{f f1:World->Result α}{x mN:Result β×Array Event}{q:Question}{a:Question->Nat}(h:HF C A σ ro xO es1 f1 W mN)(aQ:∀(τ:Tape) d,τ d q=a q->f (a8 W τ d)=f1 (a8 W τ (d+1)))(ad:∀r,xm C A σ ro xO es1 r mN->xm C A ρ ro W' es r x):HF C A ρ ro W' es f W x:=by
 obtain⟨k,zG,h⟩:=h;have key:∀(τ:Tape) d,(∀j q,j<k+1->τ (d+j) q=(match j with|0=>a q|j+1=>zG j q))->f (a8 W τ d)=f1 (a8 W τ (d+1))/\∀j q,j<k->τ (d+1+j) q=zG j q:=λτ d au=>
  ⟨aQ τ d (au 0 q (by omega)),λj q aC=>by
   have:=au (j+1) q (by omega);grind⟩
 refine⟨k+1,λj q=>match j with|0=>a q|j+1=>zG j q,h.imp (λ⟨r,U,ab⟩=>⟨r,ad r U,λτ d au=>?_⟩) λ⟨U,ab⟩=>⟨U,λτ d au=>?_⟩⟩
 ·grind
 ·obtain⟨aK,aO⟩:=key τ d au;rw[aK];exact ab τ (d+1) aO
theorem HF.stop{ρ:bA}{W W':World}{es:Array Event}{f:World->Result α}{x:Result β×Array Event}{h:Halt}(bq:Halt.still h)(aQ:∀τ d,f (a8 W τ d)=.halt h (a8 W τ d)):HF C A ρ ro W' es f W x:=
 ⟨0,λ_ _=>0,.inl ⟨.halt h W,Dh bq,λτ d _=>aQ τ d⟩⟩
theorem dR.out{ρ:bA}{s:Sem α}{s':Sem β}(h:dR C p p' A ρ s s'):∀(W W':World)(es:Array Event),dN C ρ ro W W'->(∀b,W'.heap.size<=b->¬ro b)->HF C A ρ ro W' es (s.run p) W (s'.runT p' W' es):=by
 have st:∀{ρ:bA}{W':World}{es es1:Array Event}{x:Result β×Array Event},(∀e∈es1,ja ρ ro e)->∀r,xm C A ρ ro W' (es++es1) r x->xm C A ρ ro W' es r x:=λhe r h=>xm.step h (Fr.refl _ _ _) he;induction h with
 |pure h=>exact λW W' es hw _=>⟨0,λ_ _=>0,.inl ⟨.ok _ W,⟨_,_,W',#[],by rfl,h,hw,Fr.refl _ _ _,by simp⟩,λ_ _ _=>rfl⟩⟩
 |@load ρ a a' k bB au _ az=>
  intro W W' es hw dY;rcases hw.cell au with⟨U,ab⟩|⟨v,bg,U,ab,ai⟩
  ·obtain⟨e,he,bq⟩:=hw.aiN au p false;refine .stop bq λτ d=>?_;have fG:(a8 W τ d).cell? a=none:=U;have oO:(a8 W τ d).farLoad p a false=.error e:=he;grind [Sem.run]
  ·have aO:(Sem.load .plain a' bB).runT p' W' es=(bB bg).runT p' W' (es++#[⟨.cell a',false,false⟩]):=by grind [Sem.runT,QR]
   rw[aO];refine(az v bg ai W W' _ hw dY).same (λτ d=>?_) (st (yL (.rd au.b)));have fG:(a8 W τ d).cell? a=some v:=U;grind [Sem.run]
 |@store ρ a a' v bg k bB au ai _ az=>
  intro W W' es hw dY;by_cases g1:∃c,v=.agg c
  ·obtain⟨c,rfl⟩:=g1;exact .stop (h:=.stuck "store: not the value of one cell") trivial λτ d=>by rfl
  by_cases g2:∃c,v=.tuple c
  ·obtain⟨c,rfl⟩:=g2;exact .stop (h:=.stuck "store: not the value of one cell") trivial λτ d=>by rfl
  have UI:∀c,v≠.agg c:=λc e=>g1 ⟨c,e⟩;have UJ:∀c,v≠.tuple c:=λc e=>g2 ⟨c,e⟩;obtain⟨g3,g4⟩:=ad0 ai UI UJ;rcases hw.cell au with⟨U,ab⟩|⟨u,u',U,ab,hu⟩
  ·obtain⟨e,bq,oO⟩:=hw.agI au p v false;refine .stop bq λτ d=>?_;have fG:(a8 W τ d).cell? a=none:=U;rw[Sem.run];all_goals grind
  ·by_cases bO:W.frozen? a=true
   ·refine .stop (h:=.unsupported (.unsafePointer "a write to bytes that a string shares")) trivial λτ d=>?_;have fG:(a8 W τ d).cell? a=some u:=U;have Cm:(a8 W τ d).frozen? a=true:=bO;simp_all[Sem.run]
   ·have FM:W'.frozen? a'≠true:=λx=>bO (hw.frozen au x);have aK:∀cI d,(Sem.store .plain a v k).run p (a8 W cI d)=k.run p (a8 (W.setCell a v) cI d):=λcI d=>by
     have fG:(a8 W cI d).cell? a=some u:=U;have Cm:¬(a8 W cI d).frozen? a=true:=bO;rw[Sem.run]
     ·rw[fG];simp only[if_neg Cm];rfl
     ·exact UI
     ·exact UJ
    have aO:(Sem.store .plain a' bg bB).runT p' W' es=bB.runT p' (W'.setCell a' bg) (es++#[⟨.cell a',true,false⟩]):=by
     rw[Sem.runT]
     ·rw[ab];simp only[if_neg FM,show(Mode.plain==Mode.atomic)=false from rfl,QR]
     ·exact g3
     ·exact g4
    obtain⟨o,o',k1,bf,bP⟩:=hw.obj _ _ au.b;have hcs:∃c c' e qI qy,o=.cells c e qI/\o'=.cells c' e qy/\cv C ρ c c'/\(∀i,qy.1<=i->i<qy.2->qI.1<=i/\i<qI.2)/\a.spot=none/\a.off<c.size:=by
     unfold World.cell? at U;rw[k1]at U;cases bP with
     |@cells c c' e qI qy cy dM=>
      simp only at U;split at U
      ·cases U
      ·rename_i ao;exact⟨c,c',e,qI,qy,rfl,rfl,cy,dM,by simpa using ao,(Array.getElem?_eq_some_iff.1 U).1⟩
     |_=>cases U
    obtain⟨c,c',e,qI,qy,rfl,rfl,cy,dM,gC,jF⟩:=hcs;have xn:¬ro a'.block:=by
     intro ad;obtain⟨d,t,n,aI,aV⟩:=hw.bK _ _ au.b ad;rw[k1]at aV;cases aV;refine bO ?_;unfold World.frozen?;rw[k1];simp;omega
    have fg:dN C ρ ro (W.setCell a v) (W'.setCell a' bg):=by
     refine hw.put au.b xn (o:=.cells (c.setIfInBounds a.off v) e qI) (o':=.cells (c'.setIfInBounds a'.off bg) e qy) (.cells (by rw[au.o];exact cy.set _ ai) dM) ?_ ?_ (by simp[World.setCell]) (by simp[World.setCell]) (λj aC=>getElem?_modify_ne (Ne.symm aC)) (λj aC=>getElem?_modify_ne (Ne.symm aC)) (λ_ _ _=>trivial)
     ·rw[getElem?_modify_self k1];simp[gC]
     ·rw[getElem?_modify_self bf];simp[au.s,gC]
    have aQ:Fr ρ ρ ro W' (W'.setCell a' bg):=by
     refine⟨by simp[World.setCell],rfl,rfl,rfl,cN.refl _,λb hb ad=>getElem?_modify_ne ?_,λ_ _ x=>.inl x⟩;rintro rfl;exact ad.elim (λx=>x _ au.b) xn
    rw[aO];exact(az _ _ _ fg (λb hb=>dY b (by simpa[World.setCell]using hb))).same (aK · ·) λr h=>h.step aQ (yL (.wr au.b xn))
 |@new ρ o o' k bB ar _ az=>
  intro W W' es hw dY;obtain⟨σ,U,ab,aiO,al,aJ⟩:=hw.new dY ar;have aO:(Sem.new o' bB).runT p' W' es=(bB W'.heap.size).runT p' { W' with heap:=W'.heap.push o' } (es++#[]):=by simp[Sem.runT]
  rw[aO];exact(az σ _ _ U al.ok ab aiO _ _ (es++#[]) al (λb hb=>dY b (by simp at hb;omega))).same (λ_ _=>rfl) λr h=>h.step aJ (by simp)
 |@shape ρ r bR k bB ad _ az=>
  intro W W' es hw dY;show HF C A ρ ro W' es _ W ((bB (W'.shape? bR)).runT p' W' es);rw[hw.shape ad];exact(az (W.shape? r) W W' es hw dY).same (λ_ _=>rfl) λ_ h=>h
 |@frozen ρ a a' k bB au _ az=>exact λW W' es hw dY=>(az _ _ (hw.frozen au) W W' es hw dY).same (λ_ _=>rfl) λ_ h=>h
 |@getObj ρ r bR k bB ad _ az=>
  intro W W' es hw dY;obtain⟨o,o',U,ab,al⟩:=hw.obj _ _ ad;have key:(∃c e f,o=.cells c e f)\/((∀τ d,(Sem.getObj r k).run p (a8 W τ d)=(k o).run p (a8 W τ d))/\(Sem.getObj bR bB).runT p' W' es=(bB o').runT p' W' (es++#[⟨.obj bR,false,false⟩])):=by
   cases al with
   |cells=>exact .inl ⟨_,_,_,rfl⟩
   |_=>exact .inr ⟨λτ d=>by rw[Sem.run,show(a8 W τ d).heap[r]?=_ from U],by rw[Sem.runT,ab];rfl⟩
  rcases key with⟨c,e,f,rfl⟩|⟨aK,aO⟩
  ·exact .stop (h:=.stuck "getObj: a row of cells") trivial λτ d=>by unfold Sem.run;rw[show(a8 W τ d).heap[r]?=_ from U]
  ·rw[aO];exact(az o o' al W W' _ hw dY).same aK (st (yL (.get ad)))
 |@setObj ρ r bR o o' k bB ad ar _ az=>
  intro W W' es hw dY;obtain⟨x,bk,U,ab,al⟩:=hw.obj _ _ ad;have aiP:Obj.isChan o'=false:=by cases ar<;>rfl
  have key:(∃c e f,x=.cells c e f)\/((∀c e f,x≠.cells c e f)/\(∀τ d,(Sem.setObj r o k).run p (a8 W τ d)=k.run p (a8 { W with heap:=W.heap.setIfInBounds r o } τ d))/\(Sem.setObj bR o' bB).runT p' W' es=bB.runT p' { W' with heap:=W'.heap.setIfInBounds bR o' } (es++#[⟨.obj bR,true,false⟩])):=by
   cases al with
   |cells=>exact .inl ⟨_,_,_,rfl⟩
   |_=>exact .inr ⟨by simp,λτ d=>by rw[Sem.run,show(a8 W τ d).heap[r]?=_ from U];rfl,by rw[Sem.runT,ab,aiP];rfl⟩
  rcases key with⟨c,e,f,rfl⟩|⟨aj,aK,aO⟩
  ·exact .stop (h:=.stuck "setObj: a row of cells") trivial λτ d=>by unfold Sem.run;rw[show(a8 W τ d).heap[r]?=_ from U]
  ·have xn:¬ro bR:=λaiQ=>by
    obtain⟨c,t,n,aI,ah⟩:=hw.bK _ _ ad aiQ;rw[U]at ah;cases ah;exact aj _ _ _ rfl
   have fI:r<W.heap.size:=(Array.getElem?_eq_some_iff.1 U).1;have ei:bR<W'.heap.size:=(Array.getElem?_eq_some_iff.1 ab).1;have fg:=hw.put ad xn ar (H:=W.heap.setIfInBounds r o) (H':=W'.heap.setIfInBounds bR o') (by simp[fI]) (by simp[ei]) (by simp) (by simp) (λj aC=>Array.getElem?_setIfInBounds_ne (Ne.symm aC)) (λj aC=>Array.getElem?_setIfInBounds_ne (Ne.symm aC)) (λy aF nq=>by rw[U]at aF;cases aF;cases x<;>first|exact absurd rfl (aj _ _ _)|exact nq.elim);have aQ:Fr ρ ρ ro W' { W' with heap:=W'.heap.setIfInBounds bR o' }:=by
    refine⟨by simp,rfl,rfl,rfl,cN.refl _,λb hb zT=>Array.getElem?_setIfInBounds_ne ?_,λ_ _ x=>.inl x⟩;rintro rfl;exact zT.elim (λx=>x _ ad) xn
   rw[aO];exact(az _ _ _ fg (λb hb=>dY b (by simpa using hb))).same (aK · ·) λr h=>h.step aQ (yL (.set ad xn))
 |@choose ρ q k bB _ az=>
  intro W W' es hw dY;by_cases aH:q.forced=true
  ·have aO:(Sem.choose q bB).runT p' W' es=(bB 0).runT p' W' es:=by rw[Sem.runT,if_pos aH]
   rw[aO];exact(az 0 W W' es hw dY).same (λτ d=>by rw[Sem.run,if_pos aH]) λ_ h=>h
  ·have aO:(Sem.choose q bB).runT p' W' es=(bB (q.cut (W'.tape W'.drawn q))).runT p' { W' with drawn:=W'.drawn+1 } (es++#[]):=by rw[Sem.runT,if_neg aH,Array.append_empty]
   rw[aO];refine(az _ W { W' with drawn:=W'.drawn+1 } (es++#[]) (hw.B0 W'.tape (W'.drawn+1)) dY).ask (q:=q) (a:=W'.tape W'.drawn) (λτ d a1=>?_) λr h=>h.step ⟨Nat.le_refl _,rfl,rfl,rfl,cN.refl _,λ_ _ _=>rfl,λ_ _ x=>.inl x⟩ (by simp);rw[Sem.run,if_neg aH,←a1];rfl
 |@yK ρ q k s _ az=>
  intro W W' es hw dY;by_cases aH:q.forced=true
  ·exact(az 0 W W' es hw dY).same (λτ d=>by rw[Sem.run,if_pos aH]) λ_ h=>h
  ·refine(az (q.cut 0) W W' es hw dY).ask (q:=q) (a:=λ_=>0) (λτ d a1=>?_) λ_ h=>h;rw[Sem.run,if_neg aH,←a1];rfl
 |@program ρ k bB _ az=>exact λW W' es hw dY=>(az W W' es hw dY).same (λ_ _=>rfl) λ_ h=>h
 |@ext ρ f k bB _ az=>exact λW W' es hw dY=>(az W W' (es++#[⟨.mark (.extern f),false,true⟩]) hw dY).same (λ_ _=>rfl) (st (yL .ext))
 |@room ρ k bB _ az=>exact λW W' es hw dY=>(az W W' (es++#[⟨.mark .noRoom,false,true⟩]) hw dY).same (λ_ _=>rfl) (st (yL .room))
 |@never ρ s s' h k=>exact λW W' es hw dY=>⟨0,λ_ _=>0,.inr ⟨h,λτ d _=>k (a8 W τ d)⟩⟩
 |@y4 ρ m k s _ az=>exact λW W' es hw dY=>(az W W' es hw dY).same (λ_ _=>rfl) λ_ h=>h
 |@uw ρ k s _ az=>exact λW W' es hw dY=>(az W W' es hw dY).same (λ_ _=>rfl) λ_ h=>h
 |@yx ρ s k _ az=>exact λW W' es hw dY=>(az W W' es hw dY).same (λ_ _=>rfl) λ_ h=>h
 |@wL ρ r k s _ az=>exact λW W' es hw dY=>(az (W.shape? r) W W' es hw dY).same (λ_ _=>rfl) λ_ h=>h
 |@wy ρ a k s _ az=>exact λW W' es hw dY=>(az (W.frozen? a) W W' es hw dY).same (λ_ _=>rfl) λ_ h=>h
 |halt h=>exact λW W' es hw dY=>.stop h λ_ _=>rfl
 |@panic ρ v bg h=>exact λW W' es hw dY=>⟨0,λ_ _=>0,.inl ⟨.halt (.panic v) W,.inr ⟨_,_,W',#[],by simp[Sem.runT],h,hw,Fr.refl _ _ _,by simp⟩,λ_ _ _=>rfl⟩⟩
theorem dR.run{ρ:bA}{s:Sem α}{s':Sem β}(h:dR C p p' A ρ s s')(W W':World)(es:Array Event)(d:Nat)(hw:dN C ρ ro W W')(dY:∀b,W'.heap.size<=b->¬ro b):∃τ:Tape,∀cI:Tape,(∀i q,d<=i->cI i q=τ i q)->xm C A ρ ro W' es (s.run p (a8 W cI d)) (s'.runT p' W' es):=by
 obtain⟨k,zG,h⟩:=h.out (ro:=ro) W W' es hw dY;refine⟨λi q=>zG (i-d) q,λcI iE=>?_⟩;have au:∀j q,j<k->cI (d+j) q=zG j q:=λj q _=>by grind
 rcases h with⟨r,U,ab⟩|⟨U,ab⟩
 ·rw[ab cI d au];exact U.B0 _ _
 ·obtain⟨x,bF,e,aj⟩:=ab cI d au;rw[e];rcases aj with⟨v,rfl⟩|aj
  ·exact .inl U
  ·exact Dh aj
end
end
section
open Go
mutual
def w0(F:FuncId->Bool):Value->Bool
 |.bool _ | .int _ _ | .string _ | .pointer none | .slice none _ _ | .map none | .chan none | .nilFunc | .nilIface=>true
 |.func (.func f) ⟨a⟩ ⟨b⟩=>F f&&y5 F a&&y5 F b
 |.iface _ v=>w0 F v
 |.agg ⟨a⟩ | .tuple ⟨a⟩=>y5 F a
 |_=>false
def y5(F:FuncId->Bool):List Value->Bool
 |[]=>true
 |v::af=>w0 F v&&y5 F af
end
def xP(p:Program)(t:TypeId):Bool:=match p.info? t with
 |some i=>(match i.zero with
  |some v=>w0 (λ_=>false) v
  |none=>true)
 |none=>true
def zU(p:Program)(t:TypeId):Bool:=match p.underlying t with
 |some (.slice _)|some .string=>true
 |_=>false
def oo(p:Program)(t:TypeId):Bool:=match p.underlying t with
 |some (.slice e)=>xP p e
 |some (.map _ e)=>xP p e
 |_=>true
section
variable{C:ee}{ρ:bA}{F:FuncId->Bool}
mutual
theorem Et(aw:∀f,F f=true->C.F f):∀(v:Value),w0 F v=true->aZ C ρ v v
 |.bool _,_=>.bool
 |.int _ _,_=>.int
 |.string _,_=>.string
 |.pointer none,_=>.ca
 |.slice none _ _,_=>.bC
 |.map none,_=>.qi
 |.chan none,_=>.vh
 |.nilFunc,_=>.nilFunc
 |.nilIface,_=>.nilIface
 |.func (.func f) ⟨a⟩ ⟨b⟩,h=>by
  simp[w0]at h;have U:=bE.ofList (AE aw a h.1.2);have ab:=bE.ofList (AE aw b h.2);exact .func (.func (aw _ h.1.1)) U.1 U.2 ab.1 ab.2
 |.iface _ v,h=>by exact .iface (Et aw v h)
 |.agg ⟨a⟩,h=>by exact aZ.te (bE.ofList (AE aw a h))
 |.tuple ⟨a⟩,h=>by exact aZ.tuple' (bE.ofList (AE aw a h))
 |.pointer (some _),h | .slice (some _) _ _,h | .map (some _),h | .chan (some _),h | .float _ _,h | .complex _ _ _,h=>by trivial
 |.func (.method _) _ _,h | .func (.methodOf _ _) _ _,h | .func (.via _ _ _ _) _ _,h | .func (.yield _) _ _,h=>by trivial
theorem AE(aw:∀f,F f=true->C.F f):∀(af:List Value),y5 F af=true->df (aZ C ρ) af af
 |[],_=>.nil
 |v::af,h=>by
  simp[y5]at h;exact .cons (Et aw v h.1) (AE aw af h.2)
end
end
structure PP(C:ee)(p p':Program):Prop where
 info:∀t,p'.info? t=p.info? t
 Lt:∀t,p'.underlying t=p.underlying t
 rt:p'.rt=p.rt
 TI:p'.globals.size=p.globals.size
 aiR:∀t,p'.stoodInHeld t=p.stoodInHeld t
 dep:p'.depth=p.depth
 aiS:∀d t,p'.eqGuardType d t=p.eqGuardType d t
 coe:∀t,p'.cellsOf t=p.cellsOf t
 aiT:∀t,p'.bytesOf t=p.bytesOf t
 aiU:∀d t o,byteOfCell p' d t o=byteOfCell p d t o
 aiV:∀d t n o b,cellAtBytes p' d t n o b=cellAtBytes p d t n o b
 agJ:∀f n,C.CL f n->∃fn cC,p.funcs[f]?=some fn/\p'.funcs[f]?=some cC/\fn.name ≠ "runtime.NumGoroutine" /\ cC.name ≠ "runtime.NumGoroutine" /\ fn.body.isSome=true/\cC.body.isSome=true
 fns:∀f,C.F f->∃fn cC,p.funcs[f]?=some fn/\p'.funcs[f]?=some cC/\fn.name ≠ "runtime.NumGoroutine" /\ cC.name ≠ "runtime.NumGoroutine" /\ fn.body.isSome=true/\cC.body.isSome=true
section
variable{C:ee}{p p':Program}{α β γ δ:Type}{A:bA->α->β->Prop}{ρ:bA}
abbrev dx(C:ee)(p p':Program)(ρ:bA)(s s':Sem Value):Prop:=dR C p p' (λσ=>aZ C σ) ρ s s'
abbrev fJ{α:Type}(C:ee)(p p':Program)(ρ:bA)(s s':Sem α):Prop:=dR C p p' (λ_=>Eq) ρ s s'
theorem bp{tR:String}{s:Sem β}:dR C p p' A ρ (stuck tR:Sem α) s:=.halt trivial
theorem cG{u:Unsupported}{s:Sem β}(h:Halt.still (.unsupported u):=by trivial):dR C p p' A ρ (unsupported u:Sem α) s:=.halt h
theorem dc{c:Prop}[Decidable c]{s t:Sem α}{s' bw:Sem β}(h:c->dR C p p' A ρ s s')(k:¬c->dR C p p' A ρ t bw):dR C p p' A ρ (if c then s else t) (if c then s' else bw):=by grind
theorem cg{s s':Sem α}{f:α->Sem γ}{bj:α->Sem δ}{B:bA->γ->δ->Prop}(h:fJ C p p' ρ s s')(ok:b0 C.G ρ)(aQ:∀σ a,cN ρ σ->b0 C.G σ->dR C p p' B σ (f a) (bj a)):dR C p p' B ρ (s >>= f) (s' >>= bj):=
 dR.bind h ok λσ a b ak ar e=>by grind
theorem nK{B:bA->γ->δ->Prop}{f:Program->Sem γ}{bj:Program->Sem δ}(h:dR C p p' B ρ (f p) (bj p')):dR C p p' B ρ (program >>= f) (program >>= bj):=.program h
variable(ae:PP C p p')
include ae
theorem yk(t:TypeId):fJ C p p' ρ (typeInfo t) (typeInfo t):=by
 refine nK ?_;rw[ae.info];cases p.info? t with
 |some i=>exact .pure rfl
 |none=>exact bp
theorem G6(t:TypeId):dR C p p' (λ_ i cm=>cm=i/\p.info? t=some i) ρ (typeInfo t) (typeInfo t):=by
 refine nK ?_;rw[ae.info];cases h:p.info? t with
 |some i=>exact .pure ⟨rfl,rfl⟩
 |none=>exact bp
theorem mh(t:TypeId):fJ C p p' ρ (underlying t) (underlying t):=by
 refine nK ?_;rw[ae.Lt];cases p.underlying t with
 |some i=>exact .pure rfl
 |none=>exact bp
theorem lJ(t:TypeId):dR C p p' (λ_ d dq=>dq=d/\p.underlying t=some d) ρ (underlying t) (underlying t):=by
 refine nK ?_;rw[ae.Lt];cases h:p.underlying t with
 |some i=>exact .pure ⟨rfl,rfl⟩
 |none=>exact bp
theorem mT(ok:b0 C.G ρ)(t:TypeId):fJ C p p' ρ (sizeOf t) (sizeOf t):=
 cg (yk ae t) ok λ_ _ _ _=>.pure rfl
theorem QS(ok:b0 C.G ρ)(t:TypeId):fJ C p p' ρ (isAgg t) (isAgg t):=
 cg (mh ae t) ok λσ d _ _=>by cases d<;>exact .pure rfl
theorem r7(ok:b0 C.G ρ)(t:TypeId)(bO:xP p t=true):dx C p p' ρ (zeroValue t) (zeroValue t):=by
 refine dR.bind (G6 ae t) ok λσ i cm _ _ ⟨U,ab⟩=>?_;subst U;cases h:cm.zero with
 |some v=>
  unfold xP at bO;rw[ab]at bO;dsimp only at bO;rw[h]at bO;exact .pure (Et (λf aQ=>by cases aQ) v bO)
 |none=>exact cG
omit ae
theorem RR{a a':Addr}(h:AdR ρ a a'):dx C p p' ρ (load a) (load a'):=.load h λ_ _ ai=>.pure ai
theorem acE{a a':Addr}(h:AdR ρ a a'){v bg:Value}(ai:aZ C ρ v bg):fJ C p p' ρ (store a v) (store a' bg):=.store h ai (.pure rfl)
theorem Md:∀(n:Nat){ρ:bA}(ok:b0 C.G ρ){a a':Addr}(h:AdR ρ a a')(i:Nat){acc th:Array Value},cv C ρ acc th->dR C p p' (λσ=>cv C σ) ρ (loadCellsFrom a i n acc) (loadCellsFrom a' i n th)
 |0,ρ,ok,a,a',h,i,acc,th,va=>.pure va
 |n+1,ρ,ok,a,a',h,i,acc,th,va=>dR.bind (RR (h.add i)) ok λσ v bg ak ar ai=>Md n ar (h.mono ak) (i+1) (bE.push (cv.mono ak va) ai)
theorem MZ(ok:b0 C.G ρ){a a':Addr}(h:AdR ρ a a')(n:Nat):dR C p p' (λσ=>cv C σ) ρ (loadCells a n) (loadCells a' n):=Md n ok h 0 bE.nil
theorem C1:∀{af cB:List Value}{ρ:bA}(ok:b0 C.G ρ){a a':Addr}(h:AdR ρ a a')(i:Nat),df (aZ C ρ) af cB->fJ C p p' ρ (storeCells a af i) (storeCells a' cB i)
 |_,_,ρ,ok,a,a',h,i,.nil=>.pure rfl
 |_,_,ρ,ok,a,a',h,i,.cons ai ao=>cg (acE (h.add i) ai) ok λσ _ ak ar=>C1 ar (h.mono ak) (i+1) (ao.mono λ_ _ x=>x.mono ak)
theorem ux{v bg:Value}(h:aZ C ρ v bg):cv C ρ v.cells bg.cells:=by
 cases h with
 |agg U ab=>trivial
 |bool=>exact bE.one .bool
 |int=>exact bE.one .int
 |string=>exact bE.one .string
 |ca=>exact bE.one .ca
 |ptr h=>exact bE.one (.ptr h)
 |bC=>exact bE.one .bC
 |sl h=>exact bE.one (.sl h)
 |jc=>exact bE.one .jc
 |qi=>exact bE.one .qi
 |map h=>exact bE.one (.map h)
 |vh=>exact bE.one .vh
 |chan h=>exact bE.one (.chan h)
 |func U ab al aJ bm=>exact bE.one (.func U ab al aJ bm)
 |nilFunc=>exact bE.one .nilFunc
 |iface h=>exact bE.one (.iface h)
 |nilIface=>exact bE.one .nilIface
 |tuple U ab=>exact bE.one (.tuple U ab)
 |vi=>exact bE.one .vi
 |@bT bg U ab al=>
  have:bg.cells=#[bg]:=by cases bg<;>first|rfl|grind
  rw[this];exact bE.one (.bT U ab al)
include ae
theorem OA(ok:b0 C.G ρ)(t:TypeId){a a':Addr}(h:AdR ρ a a'):dx C p p' ρ (loadVar t a) (loadVar t a'):=
 cg (QS ae ok t) ok λσ b ak ar=>dc (λ_=>cg (mT ae ar t) ar λτ n er eC=>dR.bind (MZ eC (h.mono (ak.trans er)) n) eC λυ x y _ _ eI=>.pure (aZ.te eI)) (λ_=>RR (h.mono ak))
theorem XX(ok:b0 C.G ρ)(t:TypeId){a a':Addr}(h:AdR ρ a a'){v bg:Value}(ai:aZ C ρ v bg):fJ C p p' ρ (storeVar t a v) (storeVar t a' bg):=by
 have ah:=ux ai;refine cg (mT ae ok t) ok λσ n ak ar=>?_;rw[ah.1];exact dc (λ_=>bp) λ_=>C1 ar (h.mono ak) 0 (bE.toList (cv.mono ak ah))
omit ae
theorem AF(ok:b0 C.G ρ)(e:TypeId){c c':Array Value}(h:cv C ρ c c'):dR C p p' (λσ=>si σ) ρ (newRow e c) (newRow e c'):=
 .new (.cells h λ_ _ h=>⟨Nat.zero_le _,h⟩) λσ r bR ak ar ad zw=>.pure ⟨⟨ad,rfl,rfl⟩,zw trivial⟩
theorem PC(ok:b0 C.G ρ)(e:TypeId){v bg:Value}(h:aZ C ρ v bg):dR C p p' (λσ=>AdR σ) ρ (newVar e v) (newVar e bg):=(AF ok e (ux h)).TH λ_ _ _ h=>h.toAdR
include ae
theorem uN(ok:b0 C.G ρ)(t:TypeId){cs cs':Array Value}(h:cv C ρ cs cs')(off:Nat):dx C p p' ρ (part t cs off) (part t cs' off):=by
 refine cg (QS ae ok t) ok λσ b ak ar=>dc (λ_=>cg (mT ae ar t) ar λτ n er eC=>.pure (aZ.te (bE.extract (cv.mono (ak.trans er) h) _ _))) (λ_=>?_);rcases bE.get h off with⟨U,ab⟩|⟨x,y,U,ab,ad⟩
 ·grind [bp]
 ·rw[U,ab];exact .pure (ad.mono ak)
omit ae
theorem Au{v bg:Value}(h:aZ C ρ v bg):fJ C p p' ρ (asIntOf v) (asIntOf bg):=by
 cases h with
 |int=>exact .pure rfl
 |ptr=>exact cG
 |_=>exact bp
theorem Eu(ok:b0 C.G ρ){v bg:Value}(h:aZ C ρ v bg):fJ C p p' ρ (asInt v) (asInt bg):=cg (Au h) ok λ_ _ _ _=>.pure rfl
theorem Is{v bg:Value}(h:aZ C ρ v bg):fJ C p p' ρ (asBool v) (asBool bg):=by
 cases h with
 |bool=>exact .pure rfl
 |_=>exact bp
theorem acF{v bg:Value}(h:aZ C ρ v bg):dR C p p' (λσ=>cv C σ) ρ (asAgg v) (asAgg bg):=by
 cases h with
 |agg U ab=>exact .pure ⟨U,ab⟩
 |_=>exact bp
theorem Ev{v bg:Value}(h:aZ C ρ v bg):dR C p p' A ρ (goPanic v:Sem α) (goPanic bg:Sem β):=.panic h
theorem Ba{a b a' a6:Value}(h:aZ C ρ a a')(k:aZ C ρ b a6):cv C ρ #[a,b] #[a',a6]:=bE.push (bE.one h) k
def RuntimeError.ad1:RuntimeError->Prop
 |.typeAssertion .. | .panicNil | .unhashable _=>False
 |_=>True
include ae
theorem me{e:RuntimeError}(he:RuntimeError.ad1 e):dR C p p' A ρ (runtimePanic e:Sem α) (runtimePanic e:Sem β):=by
 refine nK ?_;have:=ae.rt;cases e with
 |bounds x y s c=>
  simp only[this];exact Ev (.iface (aZ.te ((Ba .int .int).push .bool |>.push .int)))
 |error m=>simp only[this];exact Ev (.iface .string)
 |plain m=>simp only[this];exact Ev (.iface .string)
 |nilDeref=>simp only[this];exact Ev (.iface .string)
 |_=>trivial
theorem aaU{v bg:Value}(h:aZ C ρ v bg):dR C p p' (λσ=>AdR σ) ρ (asAddr v) (asAddr bg):=by
 cases h with
 |ptr h=>exact .pure h
 |ca=>exact me (e:=.nilDeref) ae trivial
 |_=>exact bp
theorem vS(ok:b0 C.G ρ)(k:IntKind)(x y:Int)(code:BoundsCode):dR C p p' A ρ (boundsPanic k x y code:Sem α) (boundsPanic k x y code:Sem β):=by
 refine dc (λ_=>?_) (λ_=>?_)
 ·exact .choose λn=>me (e:=.bounds _ _ _ code) ae trivial
 ·exact me (e:=.bounds _ _ _ code) ae trivial
end
end
end Go.Proofs.YtlminnpaeaganaaGreat
