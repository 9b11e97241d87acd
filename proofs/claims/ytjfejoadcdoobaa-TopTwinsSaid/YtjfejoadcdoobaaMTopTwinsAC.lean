/- Part of the proof of TopTwins. No condition. -/
import Derived.Test.YtjfejoadcdoobaaMTopTwinsAB
namespace Go.Proofs.Ytjfejoadcdoobaa
set_option maxRecDepth 100000
set_option linter.all false
section
open Go Go.RowKit
variable[Sp]
section
variable{P:Program}{φ:Phi}{w:World}{A:Anchor}{N n:Nat}{s:St}{a:Act}{K:St->Prop}{Q:Exit->Act->World->Prop}{r:Option Nat}{m:Mem}
theorem add_mk(b o k:Nat):(⟨b,o,none⟩:Addr).add k=⟨b,o+k,none⟩:=by unfold Addr.add;split<;>simp_all
theorem info_of_isSome{t:TypeId}(h:(P.info? t).isSome):∃i,P.info? t=some i/\P.cellsOf t=i.size/\P.bytesOf t=i.bytes:=by
 obtain⟨i,hi⟩:=Option.isSome_iff_exists.1 h;exact⟨i,hi,by simp[Program.cellsOf,hi],by simp[Program.bytesOf,hi]⟩
theorem run_sizeOf{t:TypeId}(h:(P.info? t).isSome):(sizeOf t).run P w=.ok (P.cellsOf t) w:=by
 obtain⟨i,hi,hs,_⟩:=info_of_isSome h;simp[sizeOf,typeInfo,hi,hs]
theorem run_isAgg{t:TypeId}{b:Bool}(h:aggT P t=some b):(isAgg t).run P w=.ok b w:=by
 unfold aggT at h;split at h<;>rename_i hu
 ·injection h with h;subst h;simp[isAgg,run_underlying hu]
 ·injection h with h;subst h;simp[isAgg,run_underlying hu]
 ·rename_i h1 h2;injection h with h;subst h;rename_i d;cases d<;>first|exact absurd rfl (h1 _)|exact absurd rfl (h2 _ _)|simp[isAgg,run_underlying hu]
 ·cases h
theorem un_ok{op:UnOp}{x pv:PV}(h:aUn op x=some pv){vx:Value}(hx:VRel φ w x vx):∃v,(Op.unary op vx).run P w=.ok v w/\VRel φ w pv v:=by
 unfold aUn at h;split at h
 ·injection h with h;subst h;rw[rel_bool hx];exact⟨_,by simp[Op.unary],rfl⟩
 ·injection h with h;subst h;rw[rel_int hx];exact⟨_,by simp[Op.unary,Op.intArith],rfl⟩
 ·cases h
theorem conv_ok{src dst:TypeId}{x pv:PV}(h:aConv P src dst x=some pv){vx:Value}(hx:VRel φ w x vx):∃v,(convert src dst vx).run P w=.ok v w/\VRel φ w pv v:=by
 unfold aConv at h;split at h
 ·rename_i d k k' n hs hd;injection h with h;subst h;rw[rel_int hx];refine⟨.int k (k.wrap n),?_,rfl⟩;simp only[convert,Sem.run_bind,run_underlying hs,run_underlying hd,Result.andThen_ok];cases d<;>simp[Conv.intToInt]
 ·cases h
theorem vrelAt_drop{b off:Nat}{cs:List PV}(h:VRelAt φ w b cs off)(k:Nat):VRelAt φ w b (cs.drop k) (off+k):=by
 rw[vrelAt_iff]at h⊢;intro j p hj;obtain⟨c,hc,hv⟩:=h (k+j) p (by rw[←hj,List.getElem?_drop]);exact⟨c,by rw[show off+k+j=off+(k+j)by omega];exact hc,hv⟩
theorem vrelAt_take{b off:Nat}{cs:List PV}(h:VRelAt φ w b cs off)(k:Nat):VRelAt φ w b (cs.take k) off:=by
 rw[vrelAt_iff]at h⊢;intro j p hj;rw[List.getElem?_take]at hj;split at hj
 ·exact h j p hj
 ·cases hj
theorem place_any{id:Option Nat}{b sz off cap sz' off' cap':Nat}(h:place φ w id b sz off cap)(ho:off'+cap'*sz'<=off+cap*sz):place φ w id b sz' off' cap':=by
 cases id with
 |none=>exact h
 |some i=>obtain⟨ha,cur,e,hb,hc⟩:=h;exact⟨ha,cur,e,hb,by omega⟩
theorem field_ok{t:TypeId}{x pv:PV}{f:Nat}(h:aField P t x f=some pv){vx:Value}(hx:VRel φ w x vx):∃v,(Instr.fieldAt t vx f).run P w=.ok v w/\VRel φ w pv v:=by
 unfold aField at h;split at h
 ·rename_i fs hu;split at h
  ·rename_i fd hf;split at h
   ·cases h
   ·rename_i hc;simp only[not_or,Option.isNone_iff_eq_none]at hc;have hi:(P.info? fd.type).isSome:=Option.isSome_iff_ne_none.2 hc.2;have hs:=run_sizeOf (w:=w) hi;split at h
    ·injection h with h;subst h;obtain⟨b,hb,rfl⟩:=hx;exact⟨_,by simp[Instr.fieldAt,run_underlying hu,hf,Instr.sureAddr,fieldPlace,hs,hc.1,add_mk],b,hb,rfl⟩
    ·injection h with h;subst h;obtain⟨b,rfl,hp,hat⟩:=hx;exact⟨_,by simp[Instr.fieldAt,run_underlying hu,hf,Instr.sureAddr,fieldPlace,hs,hc.1,add_mk],b,rfl,hp,vrelAt_drop hat _⟩
    ·cases h
  ·cases h
 ·cases h
theorem indexAddr_ok{t:TypeId}{x i pv:PV}(h:aIndexAddr P t x i=some pv){vx vi:Value}(hx:VRel φ w x vx)(hi:VRel φ w i vi):∃v,(Instr.indexAt t vx vi).run P w=.ok v w/\VRel φ w pv v:=by
 unfold aIndexAddr at h;split at h
 ·rename_i e id sz off len cs k n hu;split at h
  ·rename_i hc;obtain⟨h0,h1,hsz,hin⟩:=hc;injection h with h;subst h;have hs:=run_sizeOf (w:=w) hin;rw[rel_int hi];obtain⟨hl,a,cap,rfl,hcap,hp⟩:=hx;rcases hp with hp|⟨b,rfl,hp,hat⟩
   ·omega
   ·exact⟨.pointer (some ⟨b,off+n.toNat*sz,none⟩),by simp[Instr.indexAt,run_underlying hu,asIntOf,h0,h1,hs,add_mk,hsz],b,rfl,place_any hp (by omega),vrelAt_drop hat _⟩
  ·cases h
 ·rename_i len e id off k n hu;split at h
  ·rename_i hc;obtain⟨h0,h1,hin⟩:=hc;injection h with h;subst h;have hs:=run_sizeOf (w:=w) hin;rw[rel_int hi];obtain⟨b,hb,rfl⟩:=hx;exact⟨_,by simp[Instr.indexAt,run_underlying hu,asIntOf,Instr.sureAddr,h0,h1,hs,add_mk],b,hb,rfl⟩
  ·cases h
 ·rename_i e id sz len k n hu;split at h
  ·rename_i hc;obtain⟨h0,h1,hsz,hin⟩:=hc;injection h with h;subst h;have hs:=run_sizeOf (w:=w) hin;rw[rel_int hi];obtain⟨b,hb,cap,rfl,hcap⟩:=hx;exact⟨.pointer (some ⟨b,n.toNat*sz,none⟩),by simp[Instr.indexAt,run_underlying hu,asIntOf,h0,h1,hs,add_mk,hsz],b,hb,rfl⟩
  ·cases h
 ·cases h
theorem index_ok{t:TypeId}{x i pv:PV}(h:aIndex P t x i=some pv){vx vi:Value}(hx:VRel φ w x vx)(hi:VRel φ w i vi):∃v,(Instr.index t vx vi).run P w=.ok v w/\VRel φ w pv v:=by
 unfold aIndex at h;split at h
 ·rename_i len e cs k n hu;split at h
  ·rename_i hc;obtain⟨h0,h1,hin,hag,hce⟩:=hc;have hs:=run_sizeOf (w:=w) hin;rw[rel_int hi];obtain⟨vs,rfl,hvs⟩:=hx;obtain⟨v,hv,hr⟩:=vrelL_get hvs h;refine⟨v,?_,hr⟩;have ha:=run_isAgg (w:=w) hag;simp[Instr.index,run_underlying hu,asIntOf,h0,h1,hs,part,ha,hce,hv]
  ·cases h
 ·rename_i s k n hu;split at h
  ·rename_i h0;obtain⟨b,hb,rfl⟩:=Option.map_eq_some_iff.1 h;rw[rel_int hi];simp only[VRel]at hx;subst hx;exact⟨.int .u8 b.toNat,by simp[Instr.index,run_underlying hu,asIntOf,h0,hb],rfl⟩
  ·cases h
 ·cases h
theorem fieldV_ok{t:TypeId}{x pv:PV}{f:Nat}(h:aFieldV P t x f=some pv){vx:Value}(hx:VRel φ w x vx):∃v,(Instr.field t vx f).run P w=.ok v w/\VRel φ w pv v:=by
 unfold aFieldV at h;split at h
 ·rename_i fs hu;split at h
  ·rename_i fd hf;split at h
   ·rename_i cs hag;obtain⟨vs,rfl,hvs⟩:=hx;obtain⟨v,hv,hr⟩:=vrelL_get hvs h;refine⟨v,?_,hr⟩;have ha:=run_isAgg (w:=w) hag;simp[Instr.field,run_underlying hu,hf,part,ha,hv,asAgg]
   ·cases h
  ·cases h
 ·cases h
theorem src_cells{x:PV}{cs:List PV}(h:aSrc m x=some cs)(hm:MRel φ m w){vx:Value}(hx:VRel φ w x vx):∃b off,vx=.pointer (some ⟨b,off,none⟩)/\VRelAt φ w b cs off:=by
 unfold aSrc at h;split at h
 ·rename_i id off;split at h
  ·rename_i hid;split at h
   ·rename_i l hl;injection h with h;subst h;obtain⟨b,hb,rfl⟩:=hx;obtain⟨b',cur,e,hb',hh,hr⟩:=hm.cells hid (by rw[hl];simp);have:b'=b:=by rw[hb]at hb';exact(Option.some.inj hb').symm
    subst this;rw[hl]at hr;refine⟨b',off,rfl,vrelAt_mk λj p hj=>?_⟩;rw[List.getElem?_drop]at hj;obtain⟨v,hv,hpv⟩:=vrelL_get hr hj;exact⟨v,by simp only[World.cell?,hh];simpa using hv,hpv⟩
   ·cases h
   ·cases h
  ·cases h
 ·injection h with h;subst h;obtain⟨b,rfl,_,hat⟩:=hx;exact⟨b,_,rfl,hat⟩
 ·cases h
theorem vals_of_at{b off:Nat}{cs:List PV}(h:VRelAt φ w b cs off):∃vs:List Value,VRelL φ w cs vs/\∀j v,vs[j]?=some v->w.cell? ⟨b,off+j,none⟩=some v:=by
 induction cs generalizing off with
 |nil=>exact⟨[],rfl,λj v hv=>by simp at hv⟩
 |cons p cs ih=>
  obtain⟨⟨c,hc,hp⟩,h1⟩:=h;obtain⟨vs,hr,hg⟩:=ih h1;refine⟨c::vs,⟨c,vs,rfl,hp,hr⟩,λj v hv=>?_⟩;cases j with
  |zero=>simp at hv;subst hv;simpa using hc
  |succ j=>rw[show off+(j+1)=off+1+j by omega];exact hg j v (by simpa using hv)
theorem load_ok{t:TypeId}{x pv:PV}(h:aLoad P m t x=some pv)(hm:MRel φ m w){vx:Value}(hx:VRel φ w x vx):∃v,(Instr.loadAt t vx).run P w=.ok v w/\VRel φ w pv v:=by
 unfold aLoad at h;split at h
 ·rename_i cs hs ha;split at h
  ·rename_i hc;injection h with h;subst h;obtain⟨b,off,rfl,hat⟩:=src_cells hs hm hx;obtain⟨vs,hvs,hg⟩:=vals_of_at (vrelAt_take hat (P.cellsOf t));have hlen:vs.length=P.cellsOf t:=by rw[←vrelL_length hvs,List.length_take];omega
   have hl:=run_loadCells_list (P:=P) w ⟨b,off,none⟩ vs (λj v hv=>by rw[add_mk];exact hg j v hv);rw[hlen]at hl;exact⟨.agg vs.toArray,by simp[Instr.loadAt,Instr.sureAddr,loadVar,run_isAgg ha,run_sizeOf hc.2,hl],vs,rfl,hvs⟩
  ·cases h
 ·rename_i c cs hs ha;injection h with h;subst h;obtain⟨b,off,rfl,hat⟩:=src_cells hs hm hx;obtain⟨⟨v,hv,hp⟩,_⟩:=hat;exact⟨v,by simp[Instr.loadAt,Instr.sureAddr,loadVar,run_isAgg ha,hv],hp⟩
 ·cases h
theorem len_ok{t:TypeId}{ts:Array TypeId}{x pv:PV}(ht:ts[0]?=some t)(h:aLen P t x=some pv){vx:Value}(hx:VRel φ w x vx)(ty:TypeId):∃v,(Builtin.len_ ts ty #[vx]).run P w=.ok v w/\VRel φ w pv v:=by
 unfold aLen at h;split at h
 ·rename_i e id sz off len cs hu;injection h with h;subst h;obtain⟨_,a,cap,rfl,_⟩:=hx;exact⟨_,by simp[Builtin.len_,ht,run_underlying hu,goInt],rfl⟩
 ·rename_i e hu;injection h with h;subst h;simp only[VRel]at hx;subst hx;exact⟨_,by simp[Builtin.len_,ht,run_underlying hu,goInt],rfl⟩
 ·rename_i e len hu;injection h with h;subst h;obtain⟨a,cap,rfl⟩:=hx;exact⟨_,by simp[Builtin.len_,ht,run_underlying hu,goInt],rfl⟩
 ·rename_i e i z len hu;injection h with h;subst h;obtain⟨b,hb,cap,rfl,_⟩:=hx;exact⟨_,by simp[Builtin.len_,ht,run_underlying hu,goInt],rfl⟩
 ·rename_i b hu;injection h with h;subst h;simp only[VRel]at hx;subst hx;exact⟨_,by simp[Builtin.len_,ht,run_underlying hu,goInt],rfl⟩
 ·rename_i nn e hu;injection h with h;subst h;exact⟨_,by simp[Builtin.len_,ht,run_underlying hu,goInt],rfl⟩
 ·cases h
theorem mm_fold{f:Int->Int->Int}{F:Value->Value->Sem Value}{k:IntKind}(hF:∀a b w,(F (.int k a) (.int k b)).run P w=.ok (.int k (f a b)) w):∀{r:List PV}{ns:List Int}{vs:List Value}(a:Int),intsK k r=some ns->VRelL φ w r vs->∀w0,(vs.foldlM F (.int k a)).run P w0=.ok (.int k (ns.foldl f a)) w0
 |[],ns,vs,a,h,hv,w0=>by
  simp only[VRelL]at hv;subst hv;simp only[intsK,Option.some.injEq]at h;subst h;simp
 |q::r,ns,vs,a,h,hv,w0=>by
  obtain⟨v1,vs1,rfl,h1,h2⟩:=hv;unfold intsK at h;split at h
  ·rename_i e;cases e
  ·rename_i k' n l e;injection e with e1 e2;subst e1;subst e2;split at h
   ·rename_i hk;subst hk;obtain⟨ms,hm,rfl⟩:=Option.map_eq_some_iff.1 h;rw[rel_int h1];simp only[List.foldlM_cons,List.foldl_cons];have:=mm_fold hF (f a n) hm h2 w0;simp[hF,this]
   ·cases h
  ·cases h
theorem mm_ok{l:List PV}{pv:PV}{vs:List Value}(hv:VRelL φ w l vs)(ts:Array TypeId)(ty:TypeId):
  (aMin l=some pv->∃v,(Builtin.min_ ts ty vs.toArray).run P w=.ok v w/\VRel φ w pv v)/\(aMax l=some pv->∃v,(Builtin.max_ ts ty vs.toArray).run P w=.ok v w/\VRel φ w pv v):=by
 constructor
 ·intro h;unfold aMin at h;split at h
  ·obtain⟨ns,hn,rfl⟩:=Option.map_eq_some_iff.1 h;obtain⟨v1,vs1,rfl,h1,h2⟩:=hv;rw[rel_int h1];exact⟨_,by simpa[Builtin.min_]using mm_fold (F:=Builtin.min2) (λa b w=>by simp[Builtin.min2]) _ hn h2 w,rfl⟩
  ·cases h
 ·intro h;unfold aMax at h;split at h
  ·obtain⟨ns,hn,rfl⟩:=Option.map_eq_some_iff.1 h;obtain⟨v1,vs1,rfl,h1,h2⟩:=hv;rw[rel_int h1];exact⟨_,by simpa[Builtin.max_]using mm_fold (F:=Builtin.max2) (λa b w=>by simp[Builtin.max2]) _ hn h2 w,rfl⟩
  ·cases h
theorem heap_alloc_lt(w:World)(o:Obj)(b:Nat)(h:b<w.heap.size):(w.alloc o).heap[b]?=w.heap[b]?:=Below.heap_alloc w o b h
def Phi.withBox(φ:Phi)(i b:Nat):Phi:={ φ with box:=λj=>if j=i then some b else φ.box j }
def Phi.withArr(φ:Phi)(i b:Nat):Phi:={ φ with arr:=λj=>if j=i then some b else φ.arr j }
theorem arr_lt(hm:MRel φ m w){i b:Nat}(h:φ.arr i=some b):b<w.heap.size:=by exact(hm.arr i b h).2.lt
theorem box_lt(hm:MRel φ m w){i b:Nat}(h:φ.box i=some b):b<w.heap.size:=by
 obtain⟨cs,e,hh,_⟩:=hm.has h;exact(Array.getElem?_eq_some_iff.1 hh).1
structure Grows(w w':World):Prop where
 os:w'.os=w.os
 output:w'.output=w.output
 size:w'.heap.size=w.heap.size+1
 old:∀b,b<w.heap.size->w'.heap[b]?=w.heap[b]?
theorem Grows.alloc(w:World)(o:Obj):Grows w (w.alloc o):=⟨rfl,rfl,by simp,λb hb=>heap_alloc_lt w o b hb⟩
theorem Grows.drew_alloc(w:World)(o:Obj):Grows w (w.drew.alloc o):=⟨rfl,rfl,by simp,λb hb=>heap_alloc_lt w.drew o b hb⟩
theorem keeps_grow{φ':Phi}{w':World}(hg:Grows w w')(hm:MRel φ m w)(hb:∀i b,φ.box i=some b->φ'.box i=some b)(ha:∀i b,φ.arr i=some b->φ'.arr i=some b)
  (hn:∀b,φ'.own b->φ.own b\/b=w.heap.size):Keeps φ w φ' w':=
 ⟨hb,ha,λb hlt ho h=>by
  rcases hn b h with h|h
  ·exact ho h
  ·omega,by have:=hg.size;omega,λi b h=>hg.old b (arr_lt hm h),λb hlt _=>hg.old b hlt⟩
theorem step_of_keeps{φ':Phi}{w':World}(hg:Grows w w')(k:Keeps φ w φ' w'):Step φ w φ' w' []:=
 ⟨λq c h=>VRel.keeps k q c h,hg.os,hg.output,by have:=hg.size;omega,λb hlt ho _=>⟨k.rest b hlt ho,k.imm b hlt ho⟩⟩
theorem rcs_grow{w':World}(hg:Grows w w')(hm:MRel φ m w):∀l o,(l,o)∈m.rc->w'.heap[l]?=some (.loop o):=λl o h=>
 (hg.old l (Array.getElem?_eq_some_iff.1 (hm.rcs l o h)).1).trans (hm.rcs l o h)
theorem brel_keeps{φ':Phi}{w':World}(k:Keeps φ w φ' w'){c:BoxC}{vs:List Value}(h:BRel φ w c vs):BRel φ' w' c vs:=by
 cases c with
 |cells l=>exact VRelL.keeps k l vs h
 |inv I=>obtain⟨l,h1,h2,h4,h3⟩:=h;exact⟨l,h1,h2,h4,VRelL.keeps k l vs h3⟩
 |hole=>exact h.elim
theorem own_withBox{i b c:Nat}(h:(φ.withBox i b).own c):φ.own c\/c=b:=by
 rcases h with⟨j,hj⟩|h
 ·simp only[Phi.withBox]at hj;split at hj
  ·exact .inr (Option.some.inj hj).symm
  ·exact .inl (.inl ⟨j,hj⟩)
 ·exact .inl (.inr h)
theorem own_withArr{i b c:Nat}(h:(φ.withArr i b).own c):φ.own c\/c=b:=by
 rcases h with h|⟨j,hj⟩
 ·exact .inl (.inl h)
 ·simp only[Phi.withArr]at hj;split at hj
  ·exact .inr (Option.some.inj hj).symm
  ·exact .inl (.inr ⟨j,hj⟩)
theorem box_new(hm:MRel φ m w){w':World}(hg:Grows w w'){l:List PV}{cs:List Value}{e:TypeId}(hnew:w'.heap[w.heap.size]?=some (.cells cs.toArray e (0,0)))(hl:VRelL φ w l cs):
  Keeps φ w (φ.withBox m.n w.heap.size) w'/\MRel (φ.withBox m.n w.heap.size) ⟨updB m.β m.n (.cells l),m.n+1,m.an,m.rc⟩ w':=by
 have k:Keeps φ w (φ.withBox m.n w.heap.size) w':=by
  refine keeps_grow hg hm (λi b h=>?_) (λi b h=>h) (λb h=>own_withBox h);simp only[Phi.withBox];split
  ·rename_i hi;subst hi;rw[hm.boxn m.n (Nat.le_refl _)]at h;cases h
  ·exact h
 refine⟨k,⟨λi hi=>?_,λi hi=>?_,λi b h=>?_,λi j b h1 h2=>?_,λi j b h1 h2=>hm.arrinj i j b h1 h2,λi j b h1 h2=>?_,rcs_grow (m:=m) hg hm⟩⟩
 ·by_cases hin:i=m.n
  ·subst hin;exact .inr ⟨w.heap.size,cs.toArray,e,by simp[Phi.withBox],hnew,by simp only[updB,if_true];exact VRelL.keeps k l cs hl⟩
  ·rcases hm.box i (by simp only at hi;omega)with⟨h1,h2⟩|⟨b,cur,e',hb,hh,hr⟩
   ·exact .inl ⟨by simpa[updB,hin]using h1,by simpa[Phi.withBox,hin]using h2⟩
   exact .inr ⟨b,cur,e',by simp[Phi.withBox,hin,hb],(hg.old b (box_lt hm hb)).trans hh,by simpa[updB,hin]using brel_keeps k hr⟩
 ·simp only at hi;simp only[Phi.withBox];rw[if_neg (by omega)];exact hm.boxn i (by omega)
 ·obtain⟨h1,h2⟩:=hm.arr i b h;exact⟨h1,h2.of_eq (hg.old b (arr_lt hm h))⟩
 ·simp only[Phi.withBox]at h1 h2;split at h1<;>split at h2
  ·omega
  ·have hb:=Option.some.inj h1;subst hb;exact absurd (box_lt hm h2) (by omega)
  ·have hb:=Option.some.inj h2;subst hb;exact absurd (box_lt hm h1) (by omega)
  ·exact hm.boxinj i j b h1 h2
 ·simp only[Phi.withBox]at h1;split at h1
  ·have hb:=Option.some.inj h1;subst hb;exact absurd (arr_lt hm h2) (by omega)
  ·exact hm.sep i j b h1 h2
theorem arr_new(hm:MRel φ m w){w':World}(hg:Grows w w'){l:List PV}{cur:Array Value}{e:TypeId}{sz len cap:Nat}(hnew:w'.heap[w.heap.size]?=some (.cells cur e (0,0)))
  (hlen:l.length=len*sz) (hcap:len<=cap) (hsz:cur.size=cap*sz) {vs:List Value} (hl:VRelL φ w l vs) (hvs:∀(j:Nat) v,vs[j]?=some v->cur[j]?=some v):
  Keeps φ w (φ.withArr m.an w.heap.size) w'/\MRel (φ.withArr m.an w.heap.size) ⟨m.β,m.n,m.an+1,m.rc⟩ w' /\
   VRel (φ.withArr m.an w.heap.size) w' (.sl (some m.an) sz 0 len l) (.slice (some ⟨w.heap.size,0,none⟩) len cap):=by
 have hold:∀i b,φ.arr i=some b->i≠m.an:=λi b h e=>by have:=(hm.arr i b h).1;omega
 have k:Keeps φ w (φ.withArr m.an w.heap.size) w':=by
  refine keeps_grow hg hm (λi b h=>h) (λi b h=>?_) (λb h=>own_withArr h);simp only[Phi.withArr];rw[if_neg (hold i b h)];exact h
 refine⟨k,⟨λi hi=>?_,λi hi=>hm.boxn i hi,λi b h=>?_,λi j b h1 h2=>hm.boxinj i j b h1 h2,λi j b h1 h2=>?_,λi j b h1 h2=>?_,rcs_grow (m:=m) hg hm⟩,?_⟩
 ·rcases hm.box i hi with h|⟨b,cur,e',hb,hh,hr⟩
  ·exact .inl h
  exact .inr ⟨b,cur,e',hb,(hg.old b (box_lt hm hb)).trans hh,brel_keeps k hr⟩
 ·simp only[Phi.withArr]at h;split at h
  ·have hb:=Option.some.inj h;subst hb;exact⟨by simp only;omega,AO.cells hnew⟩
  ·obtain⟨h1,h2⟩:=hm.arr i b h;exact⟨by simp only;omega,h2.of_eq (hg.old b (arr_lt hm h))⟩
 ·simp only[Phi.withArr]at h1 h2;split at h1<;>split at h2
  ·omega
  ·have hb:=Option.some.inj h1;subst hb;exact absurd (arr_lt hm h2) (by omega)
  ·have hb:=Option.some.inj h2;subst hb;exact absurd (arr_lt hm h1) (by omega)
  ·exact hm.arrinj i j b h1 h2
 ·simp only[Phi.withArr]at h2;split at h2
  ·have hb:=Option.some.inj h2;subst hb;exact absurd (box_lt hm h1) (by omega)
  ·exact hm.sep i j b h1 h2
 ·refine⟨hlen,_,cap,rfl,hcap,.inr ⟨w.heap.size,rfl,⟨by simp[Phi.withArr],cur,e,hnew,by omega⟩,vrelAt_mk λj p hj=>?_⟩⟩;obtain⟨v,hv,hp⟩:=vrelL_get hl hj;exact⟨v,by simp only[World.cell?,hnew];simpa using hvs j v hv,VRel.keeps k p v hp⟩
theorem rel_cells{pv:PV}{v:Value}(h:VRel φ w pv v)(hk:pv.known=true):VRelL φ w pv.cells v.cells.toList:=by
 have one:∀u:Value,v=u->u.cells=#[u]->pv.cells=[pv]->VRelL φ w pv.cells v.cells.toList:=λu e hu hp=>by
  subst e;rw[hu,hp];exact⟨_,[],rfl,h,rfl⟩
 cases pv with
 |bad=>cases hk
 |agg cs=>
  obtain⟨vs,rfl,hvs⟩:=h;simpa[PV.cells,Value.cells]using hvs
 |sl id sz off len cs=>obtain⟨_,a,cap,e,_⟩:=h;exact one _ e rfl rfl
 |eref id off cs=>obtain⟨b,e,_⟩:=h;exact one _ e rfl rfl
 |fn f caps=>obtain⟨vs,e,_⟩:=h;exact one _ e (fnV_cells f vs) rfl
 |tup cs=>obtain⟨vs,e,_⟩:=h;exact one _ e rfl rfl
 |dead len=>obtain⟨a,cap,e⟩:=h;exact one _ e rfl rfl
 |ptr i o=>obtain⟨b,_,e⟩:=h;exact one _ e rfl rfl
 |hd i o z=>obtain⟨b,_,cap,e,_⟩:=h;exact one _ e rfl rfl
 |mp it id sz cs=>obtain⟨b,e,_⟩:=h;cases it<;>exact one _ e rfl rfl
 |_=>exact one _ h rfl rfl
theorem rel_one{pv:PV}{v:Value}(h:VRel φ w pv v)(hk:pv.one=true):v.oneCell'=true:=by
 cases pv with
 |bad|undef|agg|tup=>cases hk
 |sl id sz off len cs=>obtain⟨_,a,cap,rfl,_⟩:=h;rfl
 |eref id off cs=>obtain⟨b,rfl,_⟩:=h;rfl
 |fn f caps=>obtain⟨vs,rfl,_⟩:=h;unfold fnV;split<;>rfl
 |dead len=>obtain⟨a,cap,rfl⟩:=h;rfl
 |ptr i o=>obtain⟨b,_,rfl⟩:=h;rfl
 |hd i o z=>obtain⟨b,_,cap,rfl,_⟩:=h;rfl
 |mp it id sz cs=>obtain⟨b,rfl,_⟩:=h;cases it<;>rfl
 |_=>(simp only[VRel]at h;subst h;rfl)
theorem relL_one{l:List PV}{vs:List Value}(h:VRelL φ w l vs)(hk:l.all PV.one=true):∀v∈vs,v.oneCell'=true:=by
 intro v hv;obtain⟨j,hj,rfl⟩:=List.getElem_of_mem hv;obtain⟨hl,hg⟩:=vrelL_iff.1 h;have hjl:j<l.length:=by omega
 exact rel_one (hg j l[j] vs[j] (by simp) (by simp)) (List.all_eq_true.1 hk _ (List.getElem_mem hjl))
theorem good_box{o:Oper}(ho:∀c,o.op≠.defer c)(h:SRel φ w N s a)(hst:Anch A φ w s.eff)(hd:∀t,o.dst=some t->t<N){e:TypeId}{cs:List Value}{l:List PV}
  (hr:(execOp a.eval o).run P w=.ok (.value (.pointer (some ⟨w.heap.size,0,none⟩))) (w.alloc (.cells cs.toArray e))) (hl:VRelL φ w l cs) (hK:K (s.newBox o.dst l)):
  o.wpX r P a w (Good A N a.defers K) Q:=by
 refine wpX_of_run ho ?_;rw[hr];have hg:=Grows.alloc w (.cells cs.toArray e);obtain⟨k,hm⟩:=box_new h.mem hg (e:=e) (heap_alloc_new w _) hl;refine⟨s.newBox o.dst l,φ.withBox s.m.n w.heap.size,?_,?_,put_defers _ _ _,hK⟩
 ·have h1:SRel (φ.withBox s.m.n w.heap.size) (w.alloc (.cells cs.toArray e)) N { s with m:=⟨updB s.m.β s.m.n (.cells l),s.m.n+1,s.m.an,s.m.rc⟩ } a:=
   ⟨λt=>VRel.keeps k _ _ (h.tmp t),h.size,hm⟩
  exact h1.put hd ⟨w.heap.size,by simp[Phi.withBox],rfl⟩
 ·rw[St.newBox_eff];have:=hst.trans (step_of_keeps hg k);simpa using this
theorem good_hd{o:Oper}(ho:∀c,o.op≠.defer c)(h:SRel φ w N s a)(hst:Anch A φ w s.eff)(hd:∀t,o.dst=some t->t<N){e:TypeId}{cs:List Value}{l:List PV}{sz len cap:Nat}
  (hr:(execOp a.eval o).run P w=.ok (.value (.slice (some ⟨w.heap.size,0,none⟩) len cap)) (w.alloc (.cells cs.toArray e))) (hc:len<=cap) (hl:VRelL φ w l cs) (hK:K (s.newHd o.dst sz len l)):
  o.wpX r P a w (Good A N a.defers K) Q:=by
 refine wpX_of_run ho ?_;rw[hr];have hg:=Grows.alloc w (.cells cs.toArray e);obtain⟨k,hm⟩:=box_new h.mem hg (e:=e) (heap_alloc_new w _) hl;refine⟨s.newHd o.dst sz len l,φ.withBox s.m.n w.heap.size,?_,?_,put_defers _ _ _,hK⟩
 ·have h1:SRel (φ.withBox s.m.n w.heap.size) (w.alloc (.cells cs.toArray e)) N { s with m:=⟨updB s.m.β s.m.n (.cells l),s.m.n+1,s.m.an,s.m.rc⟩ } a:=
   ⟨λt=>VRel.keeps k _ _ (h.tmp t),h.size,hm⟩
  exact h1.put hd ⟨w.heap.size,by simp[Phi.withBox],cap,rfl,hc⟩
 ·rw[St.newHd_eff];have:=hst.trans (step_of_keeps hg k);simpa using this
theorem good_arr{o:Oper}(ho:∀c,o.op≠.defer c)(h:SRel φ w N s a)(hst:Anch A φ w s.eff)(hd:∀t,o.dst=some t->t<N){w':World}(hg:Grows w w'){e:TypeId}{cur:Array Value}{l:List PV}
  {sz len cap:Nat} (hr:(execOp a.eval o).run P w=.ok (.value (.slice (some ⟨w.heap.size,0,none⟩) len cap)) w') (hnew:w'.heap[w.heap.size]?=some (.cells cur e (0,0)))
  (hlen:l.length=len*sz) (hcap:len<=cap) (hsz:cur.size=cap*sz) {vs:List Value} (hl:VRelL φ w l vs) (hvs:∀(j:Nat) v,vs[j]?=some v->cur[j]?=some v)
  (hK:K (s.newArr o.dst sz len l)):o.wpX r P a w (Good A N a.defers K) Q:=by
 refine wpX_of_run ho ?_;rw[hr];obtain⟨k,hm,hv⟩:=arr_new h.mem hg hnew hlen hcap hsz hl hvs;refine⟨s.newArr o.dst sz len l,φ.withArr s.m.an w.heap.size,?_,?_,put_defers _ _ _,hK⟩
 ·have h1:SRel (φ.withArr s.m.an w.heap.size) w' N { s with m:=⟨s.m.β,s.m.n,s.m.an+1,s.m.rc⟩ } a:=⟨λt=>VRel.keeps k _ _ (h.tmp t),h.size,hm⟩;exact h1.put hd hv
 ·rw[St.newArr_eff];have:=hst.trans (step_of_keeps hg k);simpa using this
theorem vrelL_splice{l vsp:List PV}{cs vs:List Value}(h:VRelL φ w l cs)(k:VRelL φ w vsp vs)(off:Nat):
  VRelL φ w (splice l off vsp) (cs.take off++vs++cs.drop (off+vs.length)):=by
 have htake:VRelL φ w (l.take off) (cs.take off):=by
  rw[vrelL_iff]at h⊢;refine⟨by simp[h.1],λj p v hj hv=>?_⟩;rw[List.getElem?_take]at hj hv;split at hj
  ·rename_i hlt;rw[if_pos hlt]at hv;exact h.2 j p v hj hv
  ·cases hj
 have hdrop:VRelL φ w (l.drop (off+vsp.length)) (cs.drop (off+vs.length)):=by
  rw[←vrelL_length k];rw[vrelL_iff]at h⊢;refine⟨by simp[h.1],λj p v hj hv=>?_⟩;rw[List.getElem?_drop]at hj hv;exact h.2 _ p v hj hv
 exact vrelL_append (vrelL_append htake k) hdrop
theorem setRow_size(w:World)(g:Nat)(cs:Array Value):(w.setRow g cs).heap.size=w.heap.size:=by simp[World.setRow]
theorem store_box{t:TypeId}{id off:Nat}{l:List PV}{pv:PV}{v vx:Value}(hi:(P.info? t).isSome)(hc:pv.cells.length=P.cellsOf t)(h1:pv.cells.all PV.one=true)
  (hm:MRel φ m w) (hid:id<m.n) (hβ:m.β id=.cells l) (hf:off+pv.cells.length<=l.length) (hx:VRel φ w (.ptr id off) vx) (hv:VRel φ w pv v) (hk:pv.known=true):
  ∃w',(Instr.storeAt t vx v).run P w=.ok () w'/\MRel φ ⟨updB m.β id (.cells (splice l off pv.cells)),m.n,m.an,m.rc⟩ w'/\Step φ w φ w' []:=by
 obtain⟨b,hb,rfl⟩:=hx;obtain⟨b',cur,e,hb',hh,hr⟩:=hm.cells hid (by rw[hβ];simp);have:b'=b:=by rw[hb]at hb';exact(Option.some.inj hb').symm
 subst this;rw[hβ]at hr;have hvc:=rel_cells hv hk;have hlen:=vrelL_length hvc;have hcur:l.length=cur.size:=by simpa using vrelL_length hr
 have hst:=run_storeCells_at P b' off e v.cells.toList 0 cur w hh (by rw[←hlen];omega) (relL_one hvc h1);have hlt:=box_lt hm hb;have hsz:v.cells.size=P.cellsOf t:=by rw[←hc,hlen];simp
 obtain⟨w',hw'⟩:∃w',w'=w.setRow b' (cur.toList.take (off+0)++v.cells.toList++cur.toList.drop (off+0+v.cells.toList.length)).toArray:=⟨_,rfl⟩;rw[←hw']at hst;have hother:∀k,k≠b'->w'.heap[k]?=w.heap[k]?:=λk hk=>by rw[hw'];exact setRow_other w b' k _ hk
 have k:Keeps φ w φ w':=by refine⟨λ_ _ h=>h,λ_ _ h=>h,λ_ _ h=>h,by rw[hw',setRow_size];exact Nat.le_refl _,λi c hc=>hother c (λe=>hm.sep id i c (by rw[e];exact hb) hc),λc _ ho=>hother c (λe=>ho (.inl ⟨id,by rw[e];exact hb⟩))⟩
 refine⟨w',?_,⟨λi hi=>?_,hm.boxn,λi c hc=>?_,hm.boxinj,hm.arrinj,hm.sep,λl o h=>(hother l (λe=>by have:=hm.rcs l o h;rw[e,hh]at this;cases this)).trans (hm.rcs l o h)⟩,?_⟩
 ·simp[Instr.storeAt,Instr.sureAddr,storeVar,hsz,run_sizeOf hi,hst]
 ·by_cases hii:i=id
  ·subst hii;refine .inr ⟨b',_,e,hb,by rw[hw'];exact setRow_heap w b' cur _ e _ hh,?_⟩;simp only[updB,if_true,BRel,Nat.add_zero];have:=vrelL_splice (VRelL.keeps k _ _ hr) (VRelL.keeps k _ _ hvc) off;simpa using this
  ·rcases hm.box i hi with⟨g1,g2⟩|⟨c,cur',e',hc',hh',hr'⟩
   ·exact .inl ⟨by simpa[updB,hii]using g1,g2⟩
   refine .inr ⟨c,cur',e',hc',(hother c (λe=>hii (hm.boxinj i id c hc' (by rw[e];exact hb)))).trans hh',?_⟩;simp only[updB,hii,if_false];exact brel_keeps k hr'
 ·obtain⟨h1,h2⟩:=hm.arr i c hc;exact⟨h1,h2.of_eq (hother c (λe=>hm.sep id i c (by rw[e];exact hb) hc))⟩
 ·exact⟨λq c h=>VRel.keeps k q c h,by rw[hw'];rfl,by rw[hw'];rfl,by rw[hw',setRow_size];exact Nat.le_refl _,λc hlt ho _=>⟨k.rest c hlt ho,ho⟩⟩
end
end
section
open Go Go.RowKit
variable[Sp]
section
variable{P:Program}{φ:Phi}{w:World}{A:Anchor}{N n:Nat}{s:St}{a:Act}{K:St->Prop}{Q:Exit->Act->World->Prop}{r:Option Nat}{m:Mem}
theorem VRelL.of_noId{φ':Phi}{w':World}{j:Nat}(k:KeepsBut j φ w φ' w'){ps:List PV}{vs:List Value}(h:VRelL φ w ps vs)(hn:∀p∈ps,noId j p):VRelL φ' w' ps vs:=by
 have:=VRelL.kill k ps vs h;rwa[subL1_eq,List.map_congr_left (g:=id) (λp hp=>hn p hp),List.map_id]at this
theorem run_wrs{id b:Nat}{off:Nat}{e:TypeId}(ha:φ.arr id=some b)(hinj:∀i,φ.arr i=some b->i=id):∀(ps:List PV)(vs:List Value)(i:Nat)(w:World)(cur:Array Value),
  VRelL φ w ps vs->ps.all PV.one=true->(∀p∈ps,noId id p)->w.heap[b]?=some (.cells cur e (0,0))->off+i+vs.length<=cur.size ->
  ∃w',(storeCells ⟨b,off,none⟩ vs i).run P w=.ok () w'/\(∀q u,VRel φ w q u->VRel φ w' (q.sub (wrs id (off+i) ps)) u)/\(∀k,k≠b->w'.heap[k]?=w.heap[k]?)/\w'.heap.size=w.heap.size /\
   (∃cur',w'.heap[b]?=some (.cells cur' e (0,0))/\cur'.size=cur.size)/\w'.os=w.os/\w'.tape=w.tape/\w'.output=w.output
 |[],vs,i,w,cur,hv,_,_,hb,_=>by
  simp only[VRelL]at hv;subst hv;exact⟨w,by simp[storeCells],λq u h=>h,λ_ _=>rfl,rfl,⟨cur,hb,rfl⟩,rfl,rfl,rfl⟩
 |p::ps,vs,i,w,cur,hv,h1,hn,hb,hf=>by
  obtain⟨v,vs',rfl,hp,hvs⟩:=hv;simp only[List.length_cons]at hf;simp only[List.all_cons,Bool.and_eq_true]at h1;have hcell:(w.cell? ⟨b,off+i,none⟩)=some (cur[off+i]'(by omega)):=by
   simp only[World.cell?,hb];simp
  have hfz:w.frozen? ⟨b,off+i,none⟩=false:=by simp[World.frozen?,hb]
  obtain⟨w1,hw1⟩:∃w1,w1=w.setCell ⟨b,off+i,none⟩ v:=⟨_,rfl⟩;have hother:∀k,k≠b->w1.heap[k]?=w.heap[k]?:=λk hk=>by rw[hw1];exact Below.heap_setCell w ⟨b,off+i,none⟩ v k hk
  have hrow:w1.heap[b]?=some (.cells (cur.setIfInBounds (off+i) v) e (0,0)):=by
   rw[hw1];simp[World.setCell,Array.getElem?_modify,hb]
  have hkeep:KeepsBut id φ w φ w1:=by
   have hlt:b<w.heap.size:=(Array.getElem?_eq_some_iff.1 hb).1;refine⟨λ_ _ h=>h,λ_ _ _ h=>h,λ_ _ h=>h,by rw[hw1];simp,λj c hj hc=>hother c (λe=>?_),λc _ ho=>hother c (λe=>ho (.inr ⟨id,by rw[e];exact ha⟩))⟩;subst e;exact hj (hinj j hc)
  have hpv:VRel φ w1 p v:=by
   have:=VRel.kill hkeep p v hp;rwa[hn p (by simp)]at this
  have hwr:Writes id b (off+i) p φ w w1:=by
   refine⟨ha,hinj,by rw[hw1];simp,λk hk _=>hother k hk,λcur' e' h=>?_,⟨_,_,hb⟩,λo ho=>?_,⟨v,?_,hpv⟩⟩
   ·rw[hb]at h;injection h with h;injection h with h2 h3 h4;subst h2;subst h3;exact⟨_,hrow,by simp⟩
   ·rw[hw1];exact World.cell?_setCell_other w ⟨b,off+i,none⟩ ⟨b,o,none⟩ v (λe=>ho (by injection e with _ e2;exact e2.symm))
   ·rw[hw1];exact World.cell?_setCell_same w ⟨b,off+i,none⟩ v hcell
  have hvs1:VRelL φ w1 ps vs':=VRelL.of_noId hkeep hvs (λq hq=>hn q (by simp[hq]));obtain⟨w',hr,htr,ho,hs,⟨cur',hc',hcs⟩,e1,e2,e3⟩:=run_wrs (off:=off) ha hinj ps vs' (i+1) w1 (cur.setIfInBounds (off+i) v) hvs1 h1.2 (λq hq=>hn q (by simp[hq])) hrow (by simp;omega);refine⟨w',?_,λq u hq=>htr _ _ (VRel.wr hwr q u hq),λk hk=>(ho k hk).trans (hother k hk),by rw[hs,hw1];simp,⟨cur',hc',by rw[hcs];simp⟩,by rw[e1,hw1];rfl,by rw[e2,hw1];rfl,by rw[e3,hw1];rfl⟩;have hst:=run_store P w ⟨b,off+i,none⟩ v .plain (rel_one hp h1.1);rw[hcell]at hst;simp only[hfz,Bool.false_eq_true,if_false]at hst;rw[storeCells];simp only[Sem.run_bind,add_mk,hst,Result.andThen_ok];rw[←hw1];exact hr
theorem box_sub(E:List Eff)(c:BoxC):BoxC.sub E c=match c with | .cells l=>.cells (l.map (PV.sub E)) | .inv I=>.inv I | .hole=>.hole:=by
 unfold BoxC.sub;induction E generalizing c with
 |nil=>cases c<;>simp;exact(List.map_id' _).symm
 |cons e E ih=>
  rw[List.foldl_cons,ih];cases c<;>simp[BoxC.sub1];intro a _;rfl
theorem subL_map(E:List Eff)(l:List PV):l.map (PV.sub E)=E.foldl (λl e=>subL1 e l) l:=by
 induction E generalizing l with
 |nil=>exact List.map_id' _
 |cons e E ih=>rw[List.foldl_cons,←ih,subL1_eq,List.map_map];rfl
theorem brel_tr{φ':Phi}{w':World}{E:List Eff}(tr:∀q c,VRel φ w q c->VRel φ' w' (q.sub E) c){c:BoxC}{vs:List Value}(h:BRel φ w c vs):BRel φ' w' (c.sub E) vs:=by
 have hl:∀l:List PV,VRelL φ w l vs->VRelL φ' w' (l.map (PV.sub E)) vs:=λl hl=>by
  rw[vrelL_iff]at hl⊢;refine⟨by simp[hl.1],λj p v hj hv=>?_⟩;rw[List.getElem?_map]at hj;obtain⟨q,hq,rfl⟩:=Option.map_eq_some_iff.1 hj;exact tr q v (hl.2 j q v hq hv)
 rw[box_sub];cases c with
 |cells l=>exact hl l h
 |inv I=>
  obtain⟨l,h1,h2,h4,h3⟩:=h;refine⟨l,h1,h2,h4,?_⟩;have hfix:l.map (PV.sub E)=l:=by
   rw[subL_map];clear h1 h3 h4 hl tr;induction E with
   |nil=>rfl
   |cons e E ih=>rw[List.foldl_cons,h2,ih]
  rw[←hfix];exact hl l h3
 |hole=>exact h.elim
theorem hole_sub(E:List Eff)(c:BoxC)(h:c=.hole):c.sub E=.hole:=by subst h;rw[box_sub]
theorem store_arr{t:TypeId}{id off:Nat}{cs:List PV}{pv:PV}{v vx:Value}(hi:(P.info? t).isSome)(hpos:0<P.cellsOf t)(hc:pv.cells.length=P.cellsOf t)(h1:pv.cells.all PV.one=true)(hle:pv.cells.length<=cs.length)
  (hn:∀c∈pv.cells,noId id c) (hm:MRel φ m w) (hx:VRel φ w (.eref (some id) off cs) vx) (hv:VRel φ w pv v) (hk:pv.known=true):
  ∃w',(Instr.storeAt t vx v).run P w=.ok () w'/\MRel φ { m with β:=λi=>(m.β i).sub (wrs id off pv.cells) } w'/\Step φ w φ w' (wrs id off pv.cells):=by
 obtain⟨b,rfl,⟨ha,cur,e,hb,_⟩,hat⟩:=hx;have hvc:=rel_cells hv hk;have hlen:=vrelL_length hvc;have hinj:∀i,φ.arr i=some b->i=id:=λi h=>hm.arrinj i id b h ha;have hfit:off+0+v.cells.toList.length<=cur.size:=by
  rw[←hlen];have hj:cs[pv.cells.length-1]?=some (cs[pv.cells.length-1]'(by omega)):=by simp
  obtain⟨c,hcell,_⟩:=vrelAt_iff.1 hat _ _ hj;simp only[World.cell?,hb]at hcell;have:=(Array.getElem?_eq_some_iff.1 (by simpa using hcell)).1;omega
 obtain⟨w',hr,htr,ho,hs,⟨cur',hc',hcs⟩,e1,e2,e3⟩:=run_wrs (P:=P) ha hinj pv.cells v.cells.toList 0 w cur hvc h1 hn hb hfit;have hsz:v.cells.size=P.cellsOf t:=by rw[←hc,hlen];simp
 rw[Nat.add_zero]at htr;refine⟨w',by simp[Instr.storeAt,Instr.sureAddr,storeVar,hsz,run_sizeOf hi,hr],⟨λi hi=>?_,hm.boxn,λi c hc=>?_,hm.boxinj,hm.arrinj,hm.sep,λl o h=>(ho l (λe=>by have:=hm.rcs l o h;rw[e,hb]at this;cases this)).trans (hm.rcs l o h)⟩,⟨htr,e1,e3,by omega,λc hlt hno _=>⟨ho c (λe=>hno (.inr ⟨id,by rw[e];exact ha⟩)),hno⟩⟩⟩
 ·rcases hm.box i hi with⟨g1,g2⟩|⟨c,cur',e',hc',hh',hr'⟩
  ·exact .inl ⟨hole_sub _ _ g1,g2⟩
  exact .inr ⟨c,cur',e',hc',(ho c (λe=>hm.sep i id c hc' (by rw[e];exact ha))).trans hh',brel_tr htr hr'⟩
 ·obtain⟨h1,h2⟩:=hm.arr i c hc;by_cases hcb:c=b
  ·subst hcb;exact⟨h1,AO.cells hc'⟩
  ·exact⟨h1,h2.of_eq (ho c hcb)⟩
theorem mrel_kill{w':World}{id b nb:Nat}(hm:MRel φ m w)(ha:φ.arr id=some b)(hnb:nb=b\/nb=w.heap.size)(hs:w.heap.size<=w'.heap.size)
  (ho:∀c,c<w.heap.size->c≠b->w'.heap[c]?=w.heap[c]?) (hrow:AO w' nb):
  KeepsBut id φ w (φ.withArr id nb) w'/\MRel (φ.withArr id nb) { m with β:=λi=>(m.β i).sub [.kill id] } w':=by
 have hb:=arr_lt hm ha;have hne:∀i c,i≠id->φ.arr i=some c->c≠b:=λi c hi hc e=>hi (hm.arrinj i id b (by rw[←e];exact hc) ha);have k:KeepsBut id φ w (φ.withArr id nb) w':=by
  refine⟨λ_ _ h=>h,λi c hi hc=>by simp[Phi.withArr,hi,hc],λc hc hno h=>?_,hs,λi c hi hc=>ho c (arr_lt hm hc) (hne i c hi hc),λc hc hno=>ho c hc (λe=>hno (.inr ⟨id,by rw[e];exact ha⟩))⟩;rcases own_withArr h with h|h
  ·exact hno h
  ·rcases hnb with e|e
   ·subst h;subst e;exact hno (.inr ⟨id,ha⟩)
   ·omega
 have tr:∀q c,VRel φ w q c->VRel (φ.withArr id nb) w' (q.sub [.kill id]) c:=λq c h=>VRel.kill k q c h;refine⟨k,⟨λi hi=>?_,hm.boxn,λi c hc=>?_,hm.boxinj,λi j c h1 h2=>?_,λi j c h1 h2=>?_,λl o h=>(ho l (Array.getElem?_eq_some_iff.1 (hm.rcs l o h)).1 (λe=>by have:=hm.rcs l o h;rw[e]at this;exact(hm.arr id b ha).2.noloop _ this)).trans (hm.rcs l o h)⟩⟩
 ·rcases hm.box i hi with⟨g1,g2⟩|⟨c,cur,e,hc,hh,hr⟩
  ·exact .inl ⟨hole_sub _ _ g1,g2⟩
  exact .inr ⟨c,cur,e,hc,(ho c (box_lt hm hc) (λe=>hm.sep i id c hc (by rw[e];exact ha))).trans hh,brel_tr tr hr⟩
 ·simp only[Phi.withArr]at hc;split at hc
  ·rename_i hi;subst hi;have:=Option.some.inj hc;subst this;exact⟨(hm.arr i b ha).1,hrow⟩
  ·rename_i hi;obtain⟨h1,h2⟩:=hm.arr i c hc;exact⟨h1,h2.of_eq (ho c (arr_lt hm hc) (hne i c hi hc))⟩
 ·simp only[Phi.withArr]at h1 h2;split at h1<;>split at h2
  ·omega
  ·rename_i hi hj;have:=Option.some.inj h1;subst this;rcases hnb with e|e
   ·exact absurd e (hne j nb hj h2)
   ·exact absurd (arr_lt hm h2) (by omega)
  ·rename_i hi hj;have:=Option.some.inj h2;subst this;rcases hnb with e|e
   ·exact absurd e (hne i nb hi h1)
   ·exact absurd (arr_lt hm h1) (by omega)
  ·exact hm.arrinj i j c h1 h2
 ·simp only[Phi.withArr]at h2;split at h2
  ·have:=Option.some.inj h2;subst this;rcases hnb with e|e
   ·exact hm.sep i id b (by rw[←e];exact h1) ha
   ·exact absurd (box_lt hm h1) (by omega)
  ·exact hm.sep i j c h1 h2
theorem good_kill{id:Nat}{o:Oper}(ho:∀c,o.op≠.defer c)(h:SRel φ w N s a)(hst:Anch A φ w s.eff)(hd:∀t,o.dst=some t->t<N)(hadd:∀φ w,Anch A φ w (s.eff++[Eff.kill id])->Anch A φ w (addEff s.a0.a s.eff [Eff.kill id]))
  {w':World} {b nb:Nat} (ha:φ.arr id=some b) (hnb:nb=b\/nb=w.heap.size) (hs:w.heap.size<=w'.heap.size)
  (hoth:∀c,c<w.heap.size->c≠b->w'.heap[c]?=w.heap[c]?) (hos:w'.os=w.os) (htp:w'.tape=w.tape) (hou:w'.output=w.output)
  {cur:Array Value} {e:TypeId} (hrow:w'.heap[nb]?=some (.cells cur e (0,0))) {sz len cap:Nat} {l:List PV} {vs:List Value}
  (hr:(execOp a.eval o).run P w=.ok (.value (.slice (some ⟨nb,0,none⟩) len cap)) w')
  (hlen:l.length=len*sz) (hcap:len<=cap) (hsz:cap*sz<=cur.size) (hl:VRelL φ w l vs) (hn:∀c∈l,noId id c) (hvs:∀(j:Nat) v,vs[j]?=some v->cur[j]?=some v)
  (hK:K ((s.hit [.kill id]).put o.dst (.sl (some id) sz 0 len l))):o.wpX r P a w (Good A N a.defers K) Q:=by
 refine wpX_of_run ho ?_;rw[hr];obtain⟨k,hm⟩:=mrel_kill h.mem ha hnb hs hoth (AO.cells hrow);have tr:∀q c,VRel φ w q c->VRel (φ.withArr id nb) w' (q.sub [.kill id]) c:=λq c h=>VRel.kill k q c h;have hl':VRelL (φ.withArr id nb) w' l vs:=VRelL.of_noId k hl hn;refine⟨(s.hit [.kill id]).put o.dst (.sl (some id) sz 0 len l),φ.withArr id nb,?_,?_,put_defers _ _ _,hK⟩
 ·have h1:SRel (φ.withArr id nb) w' N (s.hit [.kill id]) a:=⟨λt=>tr _ _ (h.tmp t),h.size,hm⟩;refine h1.put hd ⟨hlen,_,cap,rfl,hcap,.inr ⟨nb,rfl,⟨by simp[Phi.withArr],cur,e,hrow,by omega⟩,vrelAt_mk λj p hj=>?_⟩⟩;obtain⟨v,hv,hp⟩:=vrelL_get hl' hj;exact⟨v,by simp only[World.cell?,hrow];simpa using hvs j v hv,hp⟩
 ·rw[St.put_eff];exact hadd _ _ (hst.trans ⟨tr,hos,hou,hs,λc hc hno _=>⟨k.rest c hc hno,k.imm c hc hno⟩⟩)
theorem tail_src{sz m:Nat}{news:List PV}{y:PV}(h:aTail sz y=some (m,news)){vy:Value}(hy:VRel φ w y vy):
  news.length=m*sz/\∃ay cy,vy=.slice ay m cy/\(0<m->∃b off vs,ay=some ⟨b,off,none⟩/\VRelL φ w news vs/\∀j v,vs[j]?=some v->w.cell? ⟨b,off+j,none⟩=some v):=by
 unfold aTail at h;split at h
 ·injection h with h;injection h with h1 h2;subst h1;subst h2;simp only[VRel]at hy;subst hy;exact⟨by simp,none,0,rfl,λh=>absurd h (by omega)⟩
 ·rename_i id sz' off len cs;split at h
  ·rename_i hs;injection h with h;injection h with h1 h2;subst h1;subst h2;obtain⟨hl,a,cap,rfl,hcap,hp⟩:=hy;refine⟨?_,a,cap,rfl,λhpos=>?_⟩
   ·rcases hs with e|e
    ·rw[hl,e]
    ·rw[hl,e];simp
   ·rcases hp with hp|⟨b,rfl,hp,hat⟩
    ·omega
    ·obtain⟨vs,hvs,hg⟩:=vals_of_at hat;exact⟨b,off,vs,rfl,hvs,hg⟩
  ·cases h
 ·cases h
theorem run_append_room'(w:World)(t ty e e0:TypeId)(i:TypeInfo)(ht:P.underlying t=some (.slice e))(hi:P.info? e=some i)
  (g sLen sCap:Nat) (cur:Array Value) (hg:w.heap[g]?=some (.cells cur e0 (0,0)))
  (a:Addr) (m c:Nat) (news:List Value) (hl:news.length=m*i.size) (hnews:∀j u,news[j]?=some u->w.cell? (a.add j)=some u) (h1:∀u∈news,u.oneCell'=true)
  (hroom:sLen+m<=sCap) (hfit:sLen*i.size+news.length<=cur.size):
  (Builtin.append_ #[t,t] ty #[.slice (some ⟨g,0,none⟩) sLen sCap,.slice (some a) m c]).run P w =
   .ok (.slice (some ⟨g,0,none⟩) (sLen+m) sCap) (w.setRow g (cur.toList.take (sLen*i.size)++news++cur.toList.drop (sLen*i.size+news.length)).toArray):=by
 have hf:=run_firstCells_some (P:=P) w i.size m a m c news hl hnews;have hst:=run_storeCells_at P g (sLen*i.size) e0 news 0 cur w hg (by simpa using hfit) h1;simp only[Nat.add_zero]at hst;simp[Builtin.append_,run_underlying ht,sizeOf,typeInfo,hi,Builtin.lenOf,hroom,hf,Addr.add_lit,hst]
theorem run_append_zero(w:World)(t ty e:TypeId)(i:TypeInfo)(ht:P.underlying t=some (.slice e))(hi:P.info? e=some i)
  (ax:Option Addr) (sLen sCap:Nat) (hle:sLen<=sCap) (ay:Option Addr) (c:Nat):
  (Builtin.append_ #[t,t] ty #[.slice ax sLen sCap,.slice ay 0 c]).run P w=.ok (.slice ax sLen sCap) w:=by
 cases ay<;>cases ax<;>simp[Builtin.append_,run_underlying ht,sizeOf,typeInfo,hi,Builtin.lenOf,Builtin.firstCells,hle,loadCells,loadCellsFrom,storeCells]
end
end
end Go.Proofs.Ytjfejoadcdoobaa
