/- Part of the proof of TopTwins. No condition. -/
import Derived.Test.YtjfejoadcdoobaaMTopTwinsAD
namespace Go.Proofs.Ytjfejoadcdoobaa
set_option maxRecDepth 100000
set_option linter.all false
section
open Go Go.RowKit
variable[Sp]
open Go.ChangeMaps (setBlock)
theorem scal_inj:∀{p q:PV}{v:Value},scal p=some v->scal q=some v->p=q
 |.int k a,.int k' b,v,h1,h2=>by
  simp only[scal,Option.some.injEq]at h1 h2;subst h1;injection h2 with e1 e2;rw[e1,e2]
 |.bool a,.bool b,v,h1,h2=>by
  simp only[scal,Option.some.injEq]at h1 h2;subst h1;injection h2 with e1;rw[e1]
 |.int _ _,.bool _,v,h1,h2=>by
  simp only[scal,Option.some.injEq]at h1 h2;subst h1;cases h2
 |.bool _,.int _ _,v,h1,h2=>by
  simp only[scal,Option.some.injEq]at h1 h2;subst h1;cases h2
 |.int _ _,.str _,_,_,h2 | .int _ _,.undef,_,_,h2 | .int _ _,.bad,_,_,h2 | .int _ _,.nilp,_,_,h2 | .int _ _,.nilfn,_,_,h2 | .int _ _,.snil,_,_,h2 | .int _ _,.dead _,_,_,h2 | .int _ _,.yld _,_,_,h2
 |.int _ _,.ptr _ _,_,_,h2 | .int _ _,.sl _ _ _ _ _,_,_,h2 | .int _ _,.eref _ _ _,_,_,h2 | .int _ _,.fn _ _,_,_,h2 | .int _ _,.agg _,_,_,h2 | .int _ _,.tup _,_,_,h2 | .int _ _,.mp _ _ _ _,_,_,h2
 |.bool _,.str _,_,_,h2 | .bool _,.undef,_,_,h2 | .bool _,.bad,_,_,h2 | .bool _,.nilp,_,_,h2 | .bool _,.nilfn,_,_,h2 | .bool _,.snil,_,_,h2 | .bool _,.dead _,_,_,h2 | .bool _,.yld _,_,_,h2
 |.bool _,.ptr _ _,_,_,h2 | .bool _,.sl _ _ _ _ _,_,_,h2 | .bool _,.eref _ _ _,_,_,h2 | .bool _,.fn _ _,_,_,h2 | .bool _,.agg _,_,_,h2 | .bool _,.tup _,_,_,h2 | .bool _,.mp _ _ _ _,_,_,h2=>by cases h2
 |.str _,_,_,h1,_ | .undef,_,_,h1,_ | .bad,_,_,h1,_ | .nilp,_,_,h1,_ | .nilfn,_,_,h1,_ | .snil,_,_,h1,_ | .dead _,_,_,h1,_ | .yld _,_,_,h1,_ | .ptr _ _,_,_,h1,_ | .hd _ _ _,_,_,h1,_ | .sl _ _ _ _ _,_,_,h1,_
 |.eref _ _ _,_,_,h1,_ | .fn _ _,_,_,h1,_ | .agg _,_,_,h1,_ | .tup _,_,_,h1,_ | .mp _ _ _ _,_,_,h1,_=>by cases h1
theorem scalL_inj:∀{p q:List PV}{v:List Value},scalL p=some v->scalL q=some v->p=q
 |[],[],_,_,_=>rfl
 |[],q::qs,v,h1,h2=>by
  simp only[scalL,Option.some.injEq]at h1;subst h1;simp only[scalL]at h2;split at h2<;>cases h2
 |p::ps,[],v,h1,h2=>by
  simp only[scalL,Option.some.injEq]at h2;subst h2;simp only[scalL]at h1;split at h1<;>cases h1
 |p::ps,q::qs,v,h1,h2=>by
  simp only[scalL]at h1 h2;split at h1
  ·rename_i a b ha hb;split at h2
   ·rename_i c d hc hd;injection h1 with h1;injection h2 with h2;rw[←h1]at h2;injection h2 with e1 e2;subst e1;subst e2;rw[scal_inj ha hc,scalL_inj hb hd]
   ·cases h2
  ·cases h1
theorem keyVal_inj{p q:List PV}{v:Value}(h1:keyVal p=some v)(h2:keyVal q=some v):p=q:=by
 unfold keyVal at h1 h2;obtain⟨a,ha,e1⟩:=Option.map_eq_some_iff.1 h1;obtain⟨b,hb,e2⟩:=Option.map_eq_some_iff.1 h2;rw[←e1]at e2;injection e2 with e2;have:b=a:=by simpa using congrArg Array.toList e2
 subst this;exact scalL_inj ha hb
theorem scB_eq:∀{p q:PV},scB p q=true->p=q:=by
 intro p q h;unfold scB at h;split at h
 ·simp only[Bool.and_eq_true,decide_eq_true_eq]at h;rw[h.1,h.2]
 ·simp only[beq_iff_eq]at h;rw[h]
 ·cases h
theorem scLB_eq:∀{p q:List PV},scLB p q=true->p=q
 |[],[],_=>rfl
 |[],_::_,h=>by cases h
 |_::_,[],h=>by cases h
 |p::ps,q::qs,h=>by
  simp only[scLB,Bool.and_eq_true]at h;rw[scB_eq h.1,scLB_eq h.2]
theorem scLB_refl:∀{p:List PV}{v:List Value},scalL p=some v->scLB p p=true
 |[],_,_=>rfl
 |p::ps,v,h=>by
  simp only[scalL]at h;split at h
  ·rename_i a b ha hb;simp only[scLB,Bool.and_eq_true];refine⟨?_,scLB_refl hb⟩;cases p<;>simp[scal]at ha<;>simp[scB]
  ·cases h
theorem keyVal_refl{p:List PV}{v:Value}(h:keyVal p=some v):scLB p p=true:=by
 unfold keyVal at h;obtain⟨a,ha,_⟩:=Option.map_eq_some_iff.1 h;exact scLB_refl ha
theorem krel_len{sz:Nat}:∀{es:List MapEntry}{cs:List PV},KRel sz cs es->cs.length=es.length*sz
 |[],cs,h=>by simp only[KRel]at h;subst h;simp
 |e::es,cs,h=>by
  obtain⟨k,r,rfl,hk,_,hr⟩:=h;simp only[List.length_append,List.length_cons,krel_len hr,hk,Nat.add_mul];omega
theorem krel_get{sz:Nat}:∀{es:List MapEntry}{cs:List PV},KRel sz cs es->∀(i:Nat) e,es[i]?=some e->keyVal (chunk sz cs i)=some e.key
 |[],_,_,i,e,h=>by simp at h
 |x::es,cs,h,i,e,he=>by
  obtain⟨k,r,rfl,hk,hv,hr⟩:=h;cases i with
  |zero=>
   simp at he;subst he;simp only[chunk,Nat.zero_mul,List.drop_zero];rw[←hk,List.take_left']
   ·exact hv
   ·rfl
  |succ i=>
   have:=krel_get hr i e (by simpa using he);simp only[chunk]at this⊢;rw[show(i+1)*sz=k.length+i*sz by rw[hk,Nat.add_mul];omega,←List.drop_drop,List.drop_left' rfl];exact this
theorem krel_push{sz:Nat}{k:List PV}{x:MapEntry}(hk:k.length=sz)(hv:keyVal k=some x.key):∀{es:List MapEntry}{cs:List PV},KRel sz cs es->KRel sz (cs++k) (es++[x])
 |[],cs,h=>by
  simp only[KRel]at h;subst h;exact⟨k,[],by simp,hk,hv,rfl⟩
 |e::es,cs,h=>by
  obtain⟨k0,r,rfl,h1,h2,h3⟩:=h;exact⟨k0,r++k,by simp,h1,h2,krel_push hk hv h3⟩
theorem krel_keys{sz:Nat}:∀{es es':List MapEntry}{cs:List PV},KRel sz cs es->es'.map (·.key)=es.map (·.key)->KRel sz cs es'
 |[],es',cs,h,he=>by
  have:es'=[]:=by simpa using he
  subst this;exact h
 |e::es,[],cs,h,he=>by simp at he
 |e::es,e'::es',cs,h,he=>by
  simp only[List.map_cons,List.cons.injEq]at he;obtain⟨k0,r,rfl,h1,h2,h3⟩:=h;exact⟨k0,r,rfl,h1,by rw[he.1];exact h2,krel_keys h3 he.2⟩
theorem krel_erase{sz:Nat}:∀{es:List MapEntry}{cs:List PV}(i:Nat),KRel sz cs es->i<es.length->KRel sz (dropK sz cs i) (es.eraseIdx i)
 |[],cs,i,_,hi=>by simp at hi
 |e::es,cs,0,h,_=>by
  obtain⟨k0,r,rfl,h1,h2,h3⟩:=h;have:dropK sz (k0++r) 0=r:=by simp[dropK,←h1]
  rw[this];exact h3
 |e::es,cs,i+1,h,hi=>by
  obtain⟨k0,r,rfl,h1,h2,h3⟩:=h;have:=krel_erase i h3 (by simpa using hi);have e1:dropK sz (k0++r) (i+1)=k0++dropK sz r i:=by
   simp only[dropK];rw[show(i+1+1)*sz=k0.length+(i+1)*sz by rw[h1];simp only[Nat.add_mul];omega,←List.drop_drop,List.drop_left' rfl,show(i+1)*sz=k0.length+i*sz by rw[h1,Nat.add_mul];omega,List.take_append,List.take_of_length_le (l:=k0) (by omega)];simp
  rw[e1];exact⟨k0,_,rfl,h1,h2,this⟩
theorem filter_erase{α:Type}[DecidableEq α](f:MapEntry->α):∀{l:List MapEntry}{j:Nat}{e:MapEntry},(l.map f).Nodup->l[j]?=some e->l.filter (λx=>decide (f x≠f e))=l.eraseIdx j
 |[],j,e,_,h=>by simp at h
 |x::l,0,e,hn,h=>by
  simp at h;subst h;simp only[List.map_cons,List.nodup_cons]at hn;have:∀y∈l,f y≠f x:=λy hy e=>hn.1 (by rw[←e];exact List.mem_map_of_mem hy);simp only[List.eraseIdx_zero,List.tail_cons];rw[List.filter_cons_of_neg (by simp)];exact List.filter_eq_self.2 (λy hy=>by simpa using this y hy)
 |x::l,j+1,e,hn,h=>by
  simp only[List.map_cons,List.nodup_cons]at hn;have he:l[j]?=some e:=by simpa using h
  have hne:f x≠f e:=λk=>hn.1 (by rw[k];exact List.mem_map_of_mem (List.mem_of_getElem? he));rw[List.filter_cons_of_pos (by simpa using hne),filter_erase f hn.2 he];rfl
theorem left_push{es:Array MapEntry}{seen:Array Nat}(hn:(es.toList.map (·.born)).Nodup){j:Nat}{e:MapEntry}(h:(leftOf es seen).toList[j]?=some e):(leftOf es (seen.push e.born)).toList=(leftOf es seen).toList.eraseIdx j:=by
 have hs:((leftOf es seen).toList.map (·.born)).Nodup:=by
  unfold leftOf;rw[Array.toList_filter];exact hn.sublist (List.Sublist.map _ List.filter_sublist)
 rw[←filter_erase (·.born) hs h];unfold leftOf;simp only[Array.toList_filter,List.filter_filter];congr 1;funext x;simp only[Array.contains_push];by_cases hx:x.born=e.born<;>simp[hx,Bool.and_comm]
section
variable{P:Program}{φ:Phi}{w:World}{A:Anchor}{N n:Nat}{s:St}{a:Act}{K:St->Prop}{Q:Exit->Act->World->Prop}{r:Option Nat}{m:Mem}
theorem ao_new(hm:MRel φ m w){w':World}(hg:Grows w w')(hnew:AO w' w.heap.size):
  Keeps φ w (φ.withArr m.an w.heap.size) w'/\MRel (φ.withArr m.an w.heap.size) ⟨m.β,m.n,m.an+1,m.rc⟩ w':=by
 have hold:∀i b,φ.arr i=some b->i≠m.an:=λi b h e=>by have:=(hm.arr i b h).1;omega
 have k:Keeps φ w (φ.withArr m.an w.heap.size) w':=by
  refine keeps_grow hg hm (λi b h=>h) (λi b h=>?_) (λb h=>own_withArr h);simp only[Phi.withArr];rw[if_neg (hold i b h)];exact h
 refine⟨k,⟨λi hi=>?_,λi hi=>hm.boxn i hi,λi b h=>?_,λi j b h1 h2=>hm.boxinj i j b h1 h2,λi j b h1 h2=>?_,λi j b h1 h2=>?_,rcs_grow (m:=m) hg hm⟩⟩
 ·rcases hm.box i hi with h|⟨b,cur,e',hb,hh,hr⟩
  ·exact .inl h
  exact .inr ⟨b,cur,e',hb,(hg.old b (box_lt hm hb)).trans hh,brel_keeps k hr⟩
 ·simp only[Phi.withArr]at h;split at h
  ·have hb:=Option.some.inj h;subst hb;exact⟨by simp only;omega,hnew⟩
  ·obtain⟨h1,h2⟩:=hm.arr i b h;exact⟨by simp only;omega,h2.of_eq (hg.old b (arr_lt hm h))⟩
 ·simp only[Phi.withArr]at h1 h2;split at h1<;>split at h2
  ·omega
  ·have hb:=Option.some.inj h1;subst hb;exact absurd (arr_lt hm h2) (by omega)
  ·have hb:=Option.some.inj h2;subst hb;exact absurd (arr_lt hm h1) (by omega)
  ·exact hm.arrinj i j b h1 h2
 ·simp only[Phi.withArr]at h2;split at h2
  ·have hb:=Option.some.inj h2;subst hb;exact absurd (box_lt hm h1) (by omega)
  ·exact hm.sep i j b h1 h2
theorem good_mp{o:Oper}(ho:∀c,o.op≠.defer c)(h:SRel φ w N s a)(hst:Anch A φ w s.eff)(hd:∀t,o.dst=some t->t<N){ob:Obj}{v:Value}{it:MK}{sz:Nat}{cs:List PV}
  (hr:(execOp a.eval o).run P w=.ok (.value v) (w.alloc ob)) (hnew:AO (w.alloc ob) w.heap.size) (hv:MapAt (φ.withArr s.m.an w.heap.size) (w.alloc ob) it (some s.m.an) sz cs v)
  (hK:K (s.newMp o.dst it sz cs)):o.wpX r P a w (Good A N a.defers K) Q:=by
 refine wpX_of_run ho ?_;rw[hr];have hg:=Grows.alloc w ob;obtain⟨k,hm⟩:=ao_new h.mem hg hnew;refine⟨s.newMp o.dst it sz cs,φ.withArr s.m.an w.heap.size,?_,?_,put_defers _ _ _,hK⟩
 ·have h1:SRel (φ.withArr s.m.an w.heap.size) (w.alloc ob) N { s with m:=⟨s.m.β,s.m.n,s.m.an+1,s.m.rc⟩ } a:=⟨λt=>VRel.keeps k _ _ (h.tmp t),h.size,hm⟩;exact h1.put hd (pv:=.mp it (some s.m.an) sz cs) (by simpa only[VRel]using hv)
 ·have e:(s.newMp o.dst it sz cs).eff=s.eff:=by simp[St.newMp]
  rw[e];have:=hst.trans (step_of_keeps hg k);simpa using this
structure MSet(it0:MK)(j b sz:Nat)(cs:List PV)(φ:Phi)(w w':World):Prop where
 arr:φ.arr j=some b
 inj:∀i,φ.arr i=some b->i=j
 size:w.heap.size<=w'.heap.size
 others:∀k,k≠b->k<w.heap.size->w'.heap[k]?=w.heap[k]?
 norow:∀cur e f,w.heap[b]?≠some (.cells cur e f)
 new:∀it cs0 v,it.wrOf (it0.wrV cs)=some cs->MapAt φ w it (some j) sz cs0 v->MapAt φ w' it (some j) sz cs v
section
variable{w':World}{it0:MK}{j b sz:Nat}{cs:List PV}
theorem MSet.other(k:MSet it0 j b sz cs φ w w'){c:Nat}{o:Obj}(ho:¬φ.own c)(h:w.heap[c]?=some o):w'.heap[c]?=some o:=
 (k.others c (λe=>ho (.inr ⟨j,by rw[e];exact k.arr⟩)) (heap_lt h)).trans h
theorem place_mset(k:MSet it0 j b sz cs φ w w'){id:Option Nat}{b' sz' off cap:Nat}(h:place φ w id b' sz' off cap):place φ w' id b' sz' off cap/\b'≠b/\id≠some j:=by
 cases id with
 |none=>exact⟨⟨h.1,Nat.lt_of_lt_of_le h.2 k.size⟩,λe=>h.1 (.inr ⟨j,by rw[e];exact k.arr⟩),by simp⟩
 |some i=>
  obtain⟨ha,cur,e,hb,hc⟩:=h;have hij:i≠j:=by
   rintro rfl;have:b'=b:=by have:=ha.symm.trans k.arr;injection this
   subst this;exact k.norow _ _ _ hb
  have hne:b'≠b:=λe=>hij (k.inj i (by rw[←e];exact ha));exact⟨⟨ha,cur,e,(k.others b' hne (heap_lt hb)).trans hb,hc⟩,hne,by simpa using hij⟩
theorem sl_mset{i sz0 off len:Nat}{e:Eff}{cs0:List PV}(h:i≠e.id):PV.sub1 e (.sl (some i) sz0 off len cs0)=.sl (some i) sz0 off len (subL1 e cs0):=by cases e<;>simp only[PV.sub1,Eff.id]at h⊢<;>rw[if_neg h]
theorem eref_mset{i off:Nat}{e:Eff}{cs0:List PV}(h:i≠e.id):PV.sub1 e (.eref (some i) off cs0)=.eref (some i) off (subL1 e cs0):=by cases e<;>simp only[PV.sub1,Eff.id]at h⊢<;>rw[if_neg h]
mutual
theorem VRel.mset(k:MSet it0 j b sz cs φ w w'):∀(q:PV)(u:Value),VRel φ w q u->VRel φ w' (q.sub1 (.wr j sz (it0.wrV cs))) u
 |.int _ _,u,h=>by simpa only[VRel,PV.sub1]using h
 |.bool _,u,h=>by simpa only[VRel,PV.sub1]using h
 |.str _,u,h=>by simpa only[VRel,PV.sub1]using h
 |.undef,u,h=>by simpa only[VRel,PV.sub1]using h
 |.bad,u,h=>by simp only[VRel,PV.sub1]
 |.nilp,u,h=>by simpa only[VRel,PV.sub1]using h
 |.nilfn,u,h=>by simpa only[VRel,PV.sub1]using h
 |.snil,u,h=>by simpa only[VRel,PV.sub1]using h
 |.dead _,u,h | .yld _,u,h=>by simpa only[VRel,PV.sub1]using h
 |.ptr _ _,u,h=>by simpa only[VRel,PV.sub1]using h
 |.hd _ _ _,u,h=>by simpa only[VRel,PV.sub1]using h
 |.sl none sz0 off len cs0,u,h=>by
  simp only[VRel,PV.sub1,length_subL1]at h⊢;obtain⟨hl,a,cap,hv,hc,h⟩:=h;refine⟨hl,a,cap,hv,hc,?_⟩;rcases h with h|⟨b',ha,hp,hr⟩
  ·exact .inl h
  ·obtain⟨hp',hn,_⟩:=place_mset k hp;exact .inr ⟨b',ha,hp',VRelAt.mset k b' hn cs0 off hr⟩
 |.sl (some i) sz0 off len cs0,u,h=>by
  simp only[VRel]at h;obtain⟨hl,a,cap,hv,hc,h⟩:=h;rcases h with h|⟨b',ha,hp,hr⟩
  ·exact absurd h.1 (by simp)
  ·obtain⟨hp',hn,hs⟩:=place_mset k hp;rw[sl_mset (λe=>hs (by rw[e];rfl))];simp only[VRel,length_subL1];exact⟨hl,a,cap,hv,hc,.inr ⟨b',ha,hp',VRelAt.mset k b' hn cs0 off hr⟩⟩
 |.eref none off cs0,u,h=>by
  simp only[VRel,PV.sub1]at h⊢;obtain⟨b',hv,hp,hr⟩:=h;obtain⟨hp',hn,_⟩:=place_mset k hp;exact⟨b',hv,hp',VRelAt.mset k b' hn cs0 off hr⟩
 |.eref (some i) off cs0,u,h=>by
  simp only[VRel]at h;obtain⟨b',hv,hp,hr⟩:=h;obtain⟨hp',hn,hs⟩:=place_mset k hp;rw[eref_mset (λe=>hs (by rw[e];rfl))];simp only[VRel];exact⟨b',hv,hp',VRelAt.mset k b' hn cs0 off hr⟩
 |.fn f caps,u,h=>by
  simp only[VRel,PV.sub1]at h⊢;obtain⟨vs,hv,hr⟩:=h;exact⟨vs,hv,VRelL.mset k caps vs hr⟩
 |.agg cs0,u,h=>by
  simp only[VRel,PV.sub1]at h⊢;obtain⟨vs,hv,hr⟩:=h;exact⟨vs,hv,VRelL.mset k cs0 vs hr⟩
 |.tup cs0,u,h=>by
  simp only[VRel,PV.sub1]at h⊢;obtain⟨vs,hv,hr⟩:=h;exact⟨vs,hv,VRelL.mset k cs0 vs hr⟩
 |.mp it none sz0 cs0,u,h=>by
  simp only[VRel,PV.sub1]at h⊢;exact h.move (λc o hp hb _ _ _=>⟨hp,k.other hp hb⟩) λc o hp hb _ _ _=>⟨hp,k.other hp hb⟩
 |.mp it (some i) sz0 cs0,u,h=>by
  by_cases hij:i=j
  ·subst hij;simp only[PV.sub1,if_true];split
   ·rename_i cs' he;have hcs:=(MK.wrOf_kind he).1;subst hcs;split
    ·rename_i hs;subst hs;simp only[VRel]at h⊢;exact k.new _ _ _ he h
    ·simp only[VRel]
   ·simp only[VRel]
  ·simp only[PV.sub1,hij,if_false];simp only[VRel]at h⊢;exact h.move (λc o hp hb _ _ _=>⟨hp,(k.others c (λe=>hij (k.inj i (by rw[←e];exact hp))) (heap_lt hb)).trans hb⟩) λc o hp hb _ _ _=>⟨hp,k.other hp hb⟩
theorem VRelL.mset(k:MSet it0 j b sz cs φ w w'):∀(ps:List PV)(vs:List Value),VRelL φ w ps vs->VRelL φ w' (subL1 (.wr j sz (it0.wrV cs)) ps) vs
 |[],vs,h=>by simp only[VRelL,subL1]at h⊢;exact h
 |q::ps,vs,h=>by
  simp only[VRelL,subL1]at h⊢;obtain⟨u,vs',e,h0,h1⟩:=h;exact⟨u,vs',e,VRel.mset k q u h0,VRelL.mset k ps vs' h1⟩
theorem VRelAt.mset(k:MSet it0 j b sz cs φ w w')(b':Nat)(hb:b'≠b):∀(ps:List PV)(off:Nat),VRelAt φ w b' ps off->VRelAt φ w' b' (subL1 (.wr j sz (it0.wrV cs)) ps) off
 |[],_,_=>by simp only[VRelAt,subL1]
 |p::ps,off,h=>by
  simp only[VRelAt,subL1]at h⊢;obtain⟨⟨c,hc,h0⟩,h1⟩:=h;exact⟨⟨c,(cell_eq (k.others b' hb (cell_lt hc))).trans hc,VRel.mset k p c h0⟩,VRelAt.mset k b' hb ps (off+1) h1⟩
end
theorem mset_step(k:MSet it0 j b sz cs φ w w')(hos:w'.os=w.os)(htp:w'.tape=w.tape)(hou:w'.output=w.output):Step φ w φ w' [.wr j sz (it0.wrV cs)]:=
 ⟨λq c h=>VRel.mset k q c h,hos,hou,k.size,λc hc hno _=>⟨k.others c (λe=>hno (.inr ⟨j,by rw[e];exact k.arr⟩)) hc,hno⟩⟩
theorem mset_mrel(k:MSet it0 j b sz cs φ w w')(hm:MRel φ m w)(hao:AO w' b):MRel φ { m with β:=λi=>(m.β i).sub [.wr j sz (it0.wrV cs)] } w':=by
 refine⟨λi hi=>?_,hm.boxn,λi c hc=>?_,hm.boxinj,hm.arrinj,hm.sep,λl o h=>(k.others l (λe=>by have:=hm.rcs l o h;rw[e]at this;exact(hm.arr j b k.arr).2.noloop _ this) (heap_lt (hm.rcs l o h))).trans (hm.rcs l o h)⟩
 ·rcases hm.box i hi with⟨g1,g2⟩|⟨c,cur,e,hc,hh,hr⟩
  ·exact .inl ⟨hole_sub _ _ g1,g2⟩
  exact .inr ⟨c,cur,e,hc,(k.others c (λe=>hm.sep i j c hc (by rw[e];exact k.arr)) (box_lt hm hc)).trans hh,brel_tr (λq c h=>VRel.mset k q c h) hr⟩
 ·obtain⟨h1,h2⟩:=hm.arr i c hc;by_cases hcb:c=b
  ·subst hcb;exact⟨h1,hao⟩
  ·exact⟨h1,h2.of_eq (k.others c hcb (arr_lt hm hc))⟩
end
theorem good_set{o:Oper}(ho:∀c,o.op≠.defer c)(h:SRel φ w N s a)(hst:Anch A φ w s.eff)(hd:∀t,o.dst=some t->t<N)(hadd:∀e φ w,Anch A φ w (s.eff++[e])->Anch A φ w (addEff s.a0.a s.eff [e]))
  {w':World} {it0:MK} {id b:Nat} {sz:Nat} {cs:List PV} (k:MSet it0 id b sz cs φ w w') (hos:w'.os=w.os) (htp:w'.tape=w.tape) (hou:w'.output=w.output) (hao:AO w' b) {res:Next}
  (hr:(execOp a.eval o).run P w=.ok res w') (hres:(res=.skip/\o.dst=none/\K (s.setMp it0 id sz cs))\/∃v pv,res=.value v/\VRel φ w' pv v/\K ((s.setMp it0 id sz cs).put o.dst pv)):
  o.wpX r P a w (Good A N a.defers K) Q:=by
 refine wpX_of_run ho ?_;rw[hr];have h1:SRel φ w' N (s.setMp it0 id sz cs) a:=⟨λt=>VRel.mset k _ _ (h.tmp t),h.size,mset_mrel k h.mem hao⟩;have hA:Anch A φ w' (s.setMp it0 id sz cs).eff:=hadd _ _ _ (hst.trans (mset_step k hos htp hou));rcases hres with⟨rfl,hdst,hK⟩|⟨v,pv,rfl,hv,hK⟩
 ·show Good A N a.defers K (a.put o.dst undef) w';rw[hdst];exact⟨_,_,h1,hA,rfl,hK⟩
 ·exact⟨_,_,h1.put hd hv,by rw[St.put_eff];exact hA,put_defers _ _ _,hK⟩
theorem fit_get{kt:TypeId}{sz:Nat}{cs:List PV}(h:fitKeys P kt sz cs=true)(hsz:0<sz){es:List MapEntry}(hk:KRel sz cs es):∀e∈es,∃l,keyOf P kt e.key=some l:=by
 intro e he;obtain⟨j,hj,rfl⟩:=List.getElem_of_mem he;have hl:=krel_len hk;have hc:=krel_get hk j es[j] (by simp);have:=List.all_eq_true.1 h j (by rw[List.mem_range,hl,Nat.mul_div_cancel _ hsz];exact hj);unfold fitKey at this;rw[hc]at this;exact Option.isSome_iff_exists.1 this
theorem run_update{t kt e:TypeId}{key x:Value}{b:Nat}{es:Array MapEntry}{ck sz:Nat}{cs k:List PV}(ht:P.underlying t=some (.map kt e))(KY:Maps.Keyed P kt)(hsz:0<sz)(hkl:k.length=sz)
  (hf:fitKeys P kt sz cs=true) (hfk:fitKey P kt k=true) (hb:w.heap[b]?=some (.map es ck)) (hso:StampOk es ck) (hk:KRel sz cs es.toList) (hkey:keyVal k=some key):
  ∃es' ck',(Instr.mapUpdate t (.map (some b)) key x).run P w=.ok () (setBlock w b (.map es' ck'))/\StampOk es' ck'/\KRel sz (insC sz cs k) es'.toList:=by
 have hes:=fit_get hf hsz hk;obtain⟨lx,hlx⟩:∃l,keyOf P kt key=some l:=by
  unfold fitKey at hfk;rw[hkey]at hfk;exact Option.isSome_iff_exists.1 hfk
 have hc:=KY.check w false hlx;have hlen:=krel_len hk;have hnum:cs.length/sz=es.toList.length:=by rw[hlen,Nat.mul_div_cancel _ hsz]
 rcases KY.find w hlx es.toList hes with⟨h1,h2⟩|⟨j,e0,h1,h2,h3⟩
 ·refine⟨es.push { key,val:=x,born:=ck },ck+1,?_,⟨λy hy=>?_,?_⟩,?_⟩
  ·simp[Instr.mapUpdate,run_underlying ht,MapKept.run_getObj_map hb,hc,h1,MapKept.run_setObj_map _ hb,Result.andThen,setBlock]
  ·simp only[Array.toList_push,List.mem_append,List.mem_singleton]at hy;rcases hy with hy|rfl
   ·have:=hso.1 y hy;omega
   ·simp
  ·simp only[Array.toList_push,List.map_append,List.map_cons,List.map_nil];rw[List.nodup_append];refine⟨hso.2,by simp,λy hy z hz e=>?_⟩;simp only[List.mem_singleton]at hz;obtain⟨y0,hy0,rfl⟩:=List.mem_map.1 hy;have:=hso.1 y0 hy0;omega
  ·have hno:hasC sz cs k=false:=by
    rw[Bool.eq_false_iff];intro hh;obtain⟨i,hi,hi2⟩:=List.any_eq_true.1 hh;have hil:i<es.toList.length:=by rw[←hnum];simpa using hi
    have hki:=krel_get hk i es.toList[i] (by simp);rw[scLB_eq hi2,hkey]at hki;exact h2 _ (List.getElem_mem hil) (Option.some.inj hki).symm
   simp only[insC,hno,Bool.false_eq_true,if_false,Array.toList_push];exact krel_push hkl hkey hk
 ·have hj:j<es.toList.length:=(List.getElem?_eq_some_iff.1 h2).1;have h2':es[j]?=some e0:=by rw[←Array.getElem?_toList];exact h2
  refine⟨es.modify j λe=>{ e with key:=key,val:=x },ck,?_,?_,?_⟩
  ·have hs:=KY.stays w hlx;simp[Instr.mapUpdate,run_underlying ht,MapKept.run_getObj_map hb,hc,h1,h2',h3,hs,MapKept.run_setObj_map _ hb,Result.andThen,setBlock]
  ·have hb':(es.modify j λe=>{ e with key:=key,val:=x }).toList.map (·.born)=es.toList.map (·.born):=by
    rw[Array.toList_modify];apply List.ext_getElem?;intro i;simp only[List.getElem?_map,List.getElem?_modify];by_cases hij:j=i
    ·subst hij;simp only[if_true];cases es.toList[j]?<;>rfl
    ·simp[hij]
   refine⟨λy hy=>?_,by rw[hb'];exact hso.2⟩;have:y.born∈es.toList.map (·.born):=by rw[←hb'];exact List.mem_map_of_mem hy
   obtain⟨y0,hy0,e⟩:=List.mem_map.1 this;rw[←e];exact hso.1 y0 hy0
  ·have hyes:hasC sz cs k=true:=by
    refine List.any_eq_true.2 ⟨j,by rw[List.mem_range,hnum];exact hj,?_⟩;have hki:=krel_get hk j e0 h2;rw[h3]at hki;rw[keyVal_inj hki hkey];exact keyVal_refl hkey
   simp only[insC,hyes,if_true];refine krel_keys hk ?_;rw[Array.toList_modify];apply List.ext_getElem?;intro i;simp only[List.getElem?_map,List.getElem?_modify];by_cases hij:j=i
   ·subst hij;rw[h2];simp[h3]
   ·simp[hij]
theorem scal_vrel{p:PV}{v:Value}(h:scal p=some v):VRel φ w p v:=by cases p<;>simp[scal]at h<;>(subst h;simp only[VRel])
theorem scalL_vrel:∀{l:List PV}{vs:List Value},scalL l=some vs->VRelL φ w l vs
 |[],vs,h=>by simp only[scalL,Option.some.injEq]at h;subst h;simp only[VRelL]
 |p::l,vs,h=>by
  simp only[scalL]at h;split at h
  ·rename_i a b ha hb;injection h with h;subst h;exact⟨a,b,rfl,scal_vrel ha,scalL_vrel hb⟩
  ·cases h
theorem keyVal_vrel{l:List PV}{v:Value}(h:keyVal l=some v):VRel φ w (.agg l) v:=by
 unfold keyVal at h;obtain⟨vs,h1,rfl⟩:=Option.map_eq_some_iff.1 h;exact⟨vs,rfl,scalL_vrel h1⟩
theorem scal_rel{p:PV}{u v:Value}(h:scal p=some v)(hr:VRel φ w p u):u=v:=by cases p<;>simp[scal]at h<;>(subst h;simpa only[VRel]using hr)
theorem scalL_rel:∀{l:List PV}{us vs:List Value},scalL l=some vs->VRelL φ w l us->us=vs
 |[],us,vs,h,hr=>by simp only[scalL,Option.some.injEq]at h;simp only[VRelL]at hr;rw[hr,h]
 |p::l,us,vs,h,hr=>by
  simp only[scalL]at h;obtain⟨u,us',rfl,h0,h1⟩:=hr;split at h
  ·rename_i a b ha hb;injection h with h;subst h;rw[scal_rel ha h0,scalL_rel hb h1]
  ·cases h
theorem keyVal_rel{l:List PV}{u v:Value}(h:keyVal l=some v)(hr:VRel φ w (.agg l) u):u=v:=by
 unfold keyVal at h;obtain⟨vs,h1,rfl⟩:=Option.map_eq_some_iff.1 h;obtain⟨us,rfl,h2⟩:=hr;rw[scalL_rel h1 h2]
theorem setBlock_same{b:Nat}{o o':Obj}(h:w.heap[b]?=some o):(setBlock w b o').heap[b]?=some o':=by
 have:=heap_lt h;simp[setBlock,this]
theorem setBlock_other{b c:Nat}{o':Obj}(h:c≠b):(setBlock w b o').heap[c]?=w.heap[c]?:=by simp[setBlock,Array.getElem?_setIfInBounds_ne (Ne.symm h)]
theorem setBlock_size{b:Nat}{o':Obj}:(setBlock w b o').heap.size=w.heap.size:=by simp[setBlock]
theorem good_makeMap{o:Oper}{t kt e:TypeId}(hop:o.op=.makeMap t none)(h:SRel φ w N s a)(hst:Anch A φ w s.eff)(hd:∀t,o.dst=some t->t<N)(hu:P.underlying t=some (.map kt e))(hK:K (s.newMp o.dst .set (P.cellsOf kt) [])):
  o.wpX r P a w (Good A N a.defers K) Q:=by
 have hnew:=heap_alloc_new w (.map #[] 0);refine good_mp (λc e=>by rw[hop]at e;cases e) h hst hd (it:=.set) (sz:=P.cellsOf kt) (cs:=[]) (ob:=.map #[] 0) (v:=.map (some w.heap.size)) ?_ (.inr (.inl ⟨_,_,hnew⟩)) ⟨w.heap.size,rfl,by simp[mplace,Phi.withArr],#[],0,hnew,⟨by simp,by simp⟩,rfl⟩ hK;simp[execOp,hop,Instr.makeMap]
theorem good_makeTab{o:Oper}{t:TypeId}{sc:Bool}{sz:Nat}(hop:o.op=.makeMap t none)(h:SRel φ w N s a)(hst:Anch A φ w s.eff)(hd:∀t,o.dst=some t->t<N)(hK:K (s.newMp o.dst (.tab sc) sz [])):
  o.wpX r P a w (Good A N a.defers K) Q:=by
 have hnew:=heap_alloc_new w (.map #[] 0);refine good_mp (λc e=>by rw[hop]at e;cases e) h hst hd (it:=.tab sc) (sz:=sz) (cs:=[]) (ob:=.map #[] 0) (v:=.map (some w.heap.size)) ?_ (.inr (.inl ⟨_,_,hnew⟩)) ⟨w.heap.size,rfl,by simp[mplace,Phi.withArr],#[],0,hnew,⟨by simp,by simp⟩,rfl,by simp⟩ hK;simp[execOp,hop,Instr.makeMap]
theorem good_rangeS{o:Oper}{t:TypeId}{x:Operand}{c:ByteArray}(hop:o.op=.range t x)(h:SRel φ w N s a)(hst:Anch A φ w s.eff)(hd:∀t,o.dst=some t->t<N)(hu:P.underlying t=some .string)
  (hx:s.ev x=.str c) (hK:K (s.newMp o.dst .sit 2 [.str c,.int .i64 0])):o.wpX r P a w (Good A N a.defers K) Q:=by
 have hv:=h.ev x;rw[hx]at hv;simp only[VRel]at hv;have hnew:=heap_alloc_new w (.stringIter c 0);refine good_mp (λc e=>by rw[hop]at e;cases e) h hst hd (it:=.sit) (sz:=2) (cs:=[.str c,.int .i64 0]) (ob:=.stringIter c 0) (v:=.pointer (some ⟨w.heap.size,0,none⟩)) ?_ (.inr (.inr (.inr ⟨_,_,hnew⟩)))
  ⟨w.heap.size,rfl,by simp[mplace,Phi.withArr],c,0,hnew,rfl⟩ hK
 have hev:a.eval x=.string c:=hv;simp[execOp,hop,hev,Instr.range,run_underlying hu,Result.andThen]
theorem good_range{o:Oper}{t kt e:TypeId}{x:Operand}{sz:Nat}{cs:List PV}(hop:o.op=.range t x)(h:SRel φ w N s a)(hst:Anch A φ w s.eff)(hd:∀t,o.dst=some t->t<N)(hu:P.underlying t=some (.map kt e))
  (hx:s.ev x=.mp .set none sz cs) (hsz:0<sz) (hK:K (s.newMp o.dst .wlk sz (repl [.nilp] sz++cs))):o.wpX r P a w (Good A N a.defers K) Q:=by
 have hv:=h.ev x;rw[hx]at hv;obtain⟨bm,hv,hp,es,ck,hb,hso,hk⟩:=hv;have hnew:=heap_alloc_new w (.mapIter (some bm) ck #[] ck);have hblt:=heap_lt hb;have hleft:leftOf es #[]=es:=by unfold leftOf;simp
 refine good_mp (λc e=>by rw[hop]at e;cases e) h hst hd (it:=.wlk) (sz:=sz) (cs:=repl [.nilp] sz++cs) (ob:=.mapIter (some bm) ck #[] ck) (v:=.pointer (some ⟨w.heap.size,0,none⟩)) ?_ (.inr (.inr (.inl ⟨_,_,_,_,hnew⟩)))
  ⟨w.heap.size,rfl,by simp[mplace,Phi.withArr],bm,ck,#[],es,hnew,λho=>?_,(heap_alloc_lt w _ bm hblt).trans hb,hso,_,cs,rfl,?_,by rw[hleft];exact hk,.inl ⟨rfl,?_⟩⟩ hK
 ·have hev:a.eval x=.map (some bm):=hv;simp[execOp,hop,hev,Instr.range,run_underlying hu,MapKept.run_getObj_map hb,Result.andThen]
 ·rcases own_withArr ho with k|k
  ·exact hp k
  ·omega
 ·have:∀n,(repl [PV.nilp] n).length=n:=λn=>by induction n with|zero=>rfl|succ n ih=>simp[repl,ih]
  exact this sz
 ·obtain⟨m,rfl⟩:∃m,sz=m+1:=⟨sz-1,by omega⟩;rfl
theorem good_entry{o:Oper}{x:Operand}{id sz:Nat}{cs:List PV}(hop:o.op=.entry x)(h:SRel φ w N s a)(hst:Anch A φ w s.eff)(hd:∀t,o.dst=some t->t<N)
  (hx:s.ev x=.mp .wlk (some id) sz cs) (hkv:(keyVal (cs.take sz)).isSome=true) (hK:K (s.put o.dst (.tup [.agg (cs.take sz),.bad]))):o.wpX r P a w (Good A N a.defers K) Q:=by
 have hv:=h.ev x;rw[hx]at hv;obtain⟨b,hv,hp,bm,ck,seen,es,hb,ho,hbm,hso,lk,rem,rfl,hlk,hk,hl⟩:=hv;have htk:(lk++rem).take sz=lk:=by rw[←hlk];exact List.take_left' rfl
 rw[htk]at hkv hK;rcases hl with⟨_,hl⟩|⟨e,s0,he,rfl,hl⟩
 ·rw[hl]at hkv;cases hkv
 ·have hr:=run_entry_at (P:=P) w b bm ck s0 es ck e hb hbm he hso.2;refine good_val (λc e=>by rw[hop]at e;cases e) h hst hd (v:=.tuple #[e.key,e.val]) (pv:=.tup [.agg lk,.bad]) ?_ ⟨[e.key,e.val],rfl,_,_,rfl,keyVal_vrel hl,_,_,rfl,by simp only[VRel],rfl⟩ hK;have hev:a.eval x=.pointer (some ⟨b,0,none⟩):=hv;simp[execOp,hop,hev,hr,Result.andThen]
theorem good_update{o:Oper}{t kt e:TypeId}{x k y:Operand}{id sz:Nat}{cs key:List PV}(hop:o.op=.mapUpdate t x k y\/o.op=.insert t x k y)(h:SRel φ w N s a)(hst:Anch A φ w s.eff)(hd:∀t,o.dst=some t->t<N)
  (hadd:∀e φ w,Anch A φ w (s.eff++[e])->Anch A φ w (addEff s.a0.a s.eff [e])) (hu:P.underlying t=some (.map kt e)) (KY:Maps.Keyed P kt) (hdst:o.dst=none)
  (hx:s.ev x=.mp .set (some id) sz cs) (hkk:s.ev k=.agg key) (hsz:0<sz) (hkl:key.length=sz) (hf:fitKeys P kt sz cs=true) (hfk:fitKey P kt key=true)
  (hK:K (s.setMp .set id sz (insC sz cs key))):o.wpX r P a w (Good A N a.defers K) Q:=by
 have hv:=h.ev x;rw[hx]at hv;obtain⟨b,hv,hp,es,ck,hb,hso,hk⟩:=hv;have hkv:=h.ev k;rw[hkk]at hkv;obtain⟨kv,hkv'⟩:∃kv,keyVal key=some kv:=by
  unfold fitKey at hfk;cases hc:keyVal key with
  |none=>rw[hc]at hfk;cases hfk
  |some kv=>exact⟨kv,rfl⟩
 have ekv:=keyVal_rel hkv' hkv;obtain⟨es',ck',hr,hso',hk'⟩:=run_update (x:=a.eval y) hu KY hsz hkl hf hfk hb hso hk hkv';have hblt:=heap_lt hb;have ms:MSet .set id b sz (insC sz cs key) φ w (setBlock w b (.map es' ck')):=by
  refine⟨hp,λi hi=>h.mem.arrinj i id b hi hp,by rw[setBlock_size];exact Nat.le_refl _,λc hc _=>setBlock_other hc,λcur e f k=>(by rw[hb]at k;cases k),λit cs0 v he hm=>?_⟩;obtain⟨b0,e0,p0,hm⟩:=hm;have:b0=b:=by have:=(show φ.arr id=some b0 from p0).symm.trans hp;injection this
  subst this;cases it with
  |set=>exact⟨b0,e0,p0,es',ck',setBlock_same hb,hso',hk'⟩
  |tab _=>simp[MK.wrOf,MK.wrV]at he
  |sit=>obtain⟨_,_,h1,_⟩:=hm;rw[hb]at h1;cases h1
  |wlk=>obtain⟨_,_,_,_,h1,_⟩:=hm;rw[hb]at h1;cases h1
 refine good_set (λc e=>by rcases hop with hop|hop<;>(rw[hop]at e;cases e)) h hst hd hadd ms rfl rfl rfl (.inr (.inl ⟨_,_,setBlock_same hb⟩)) (res:=.skip) ?_ (.inl ⟨rfl,hdst,hK⟩);have hev:a.eval x=.map (some b):=hv;rcases hop with hop|hop<;>simp[execOp,hop,hev,ekv,hr,Result.andThen]
theorem tkey_inj{sc:Bool}{p q:List PV}{v:Value}(h1:tkey sc p=some v)(h2:tkey sc q=some v):p=q:=by
 cases sc with
 |false=>exact keyVal_inj (by simpa[tkey]using h1) (by simpa[tkey]using h2)
 |true=>
  simp only[tkey,if_true]at h1 h2;split at h1
  ·split at h2
   ·rw[scal_inj h1 h2]
   ·cases h2
  ·cases h1
theorem tkey_refl{sc:Bool}{p:List PV}{v:Value}(h:tkey sc p=some v):scLB p p=true:=by
 cases sc with
 |false=>exact keyVal_refl (by simpa[tkey]using h)
 |true=>
  simp only[tkey,if_true]at h;split at h
  ·rename_i q;cases q<;>simp[scal]at h<;>simp[scLB,scB]
  ·cases h
theorem row_cut{k r:List PV}{v:PV}{sz:Nat}(h:k.length+1=sz):(k++v::r).take (sz-1)=k/\(k++v::r).drop (sz-1)=v::r/\(k++v::r).drop sz=r/\(k++v::r).take sz=k++[v]:=by
 subst h;refine⟨by simp,by simp,?_,?_⟩
 ·rw[←List.drop_drop (i:=1)];simp
 ·rw[List.take_append,List.take_of_length_le (by omega)];simp
theorem trel_len{sc:Bool}{sz:Nat}:∀{es:List MapEntry}{cs:List PV},TRel sc sz cs es->cs.length=es.length*sz
 |[],cs,h=>by simp only[TRel]at h;subst h;simp
 |e::es,cs,h=>by
  obtain⟨k,v,r,rfl,hk,_,_,hr⟩:=h;simp only[List.length_append,List.length_cons,trel_len hr,Nat.add_mul];omega
theorem trel_fit{sc:Bool}{kt:TypeId}{sz:Nat}:∀{es:List MapEntry}{cs:List PV},TRel sc sz cs es->fitRows P kt sc sz es.length cs=true->∀e∈es,∃l,keyOf P kt e.key=some l
 |[],cs,h,_,e,he=>by cases he
 |e0::es,cs,h,hf,e,he=>by
  obtain⟨k,v,r,rfl,hk,hkey,_,hr⟩:=h;obtain⟨c1,c2,c3,c4⟩:=row_cut (v:=v) (r:=r) hk;simp only[List.length_cons,fitRows,c1,c3,Bool.and_eq_true]at hf;rcases List.mem_cons.1 he with rfl|he
  ·have:=hf.1;unfold fitT at this;rw[hkey]at this;exact Option.isSome_iff_exists.1 this
  ·exact trel_fit hr hf.2 e he
theorem tab_none{sc:Bool}{sz:Nat}{k:List PV}{key:Value}(hkl:k.length+1=sz)(hkey:tkey sc k=some key):∀{es:List MapEntry}{cs:List PV},TRel sc sz cs es->(∀e∈es,e.key≠key) ->
  tabGet sz k es.length cs=none/\∀p x b,scal p=some x->TRel sc sz (tabSet sz k p es.length cs) (es++[{ key:=key,val:=x,born:=b }])
 |[],cs,h,hn=>by
  simp only[TRel]at h;subst h;exact⟨rfl,λp x b hp=>⟨k,p,[],rfl,hkl,hkey,hp,rfl⟩⟩
 |e0::es,cs,h,hn=>by
  obtain⟨k0,v,r,rfl,hk,hkey0,hv,hr⟩:=h;obtain⟨c1,c2,c3,c4⟩:=row_cut (v:=v) (r:=r) hk;have hne:¬scLB k0 k=true:=λh=>by
   have:=scLB_eq h;subst this;exact hn e0 (by simp) (Option.some.inj (hkey0.symm.trans hkey))
  obtain⟨h1,h2⟩:=tab_none hkl hkey hr λe he=>hn e (by simp[he]);simp only[List.length_cons,tabGet,tabSet,c1,c3,c4,hne,if_false];refine⟨h1,λp x b hp=>⟨k0,v,_,by simp,hk,hkey0,hv,h2 p x b hp⟩⟩
theorem tab_some{sc:Bool}{sz:Nat}{k:List PV}{key:Value}(hkl:k.length+1=sz)(hkey:tkey sc k=some key):∀{es:List MapEntry}{cs:List PV}{j:Nat}{e0:MapEntry},TRel sc sz cs es->(es.map (·.key)).Nodup->es[j]?=some e0->e0.key=key ->
  ∃p0,tabGet sz k es.length cs=some p0/\scal p0=some e0.val/\∀p x,scal p=some x->TRel sc sz (tabSet sz k p es.length cs) (es.modify j λe=>{ e with key:=key,val:=x })
 |[],cs,j,e0,h,_,hj,_=>by simp at hj
 |e1::es,cs,j,e0,h,hn,hj,he=>by
  obtain⟨k0,v,r,rfl,hk,hkey0,hv,hr⟩:=h;obtain⟨c1,c2,c3,c4⟩:=row_cut (v:=v) (r:=r) hk;simp only[List.map_cons,List.nodup_cons]at hn;cases j with
  |zero=>
   simp at hj;subst hj;have hkk:k0=k:=tkey_inj hkey0 (by rw[he];exact hkey);subst hkk;simp only[List.length_cons,tabGet,tabSet,c1,c2,c3,tkey_refl hkey,if_true];refine⟨v,rfl,hv,λp x hp=>?_⟩;simp only[List.modify_zero_cons];exact⟨k0,p,r,rfl,hk,hkey,hp,hr⟩
  |succ j=>
   have hj':es[j]?=some e0:=by simpa using hj
   have hne:¬scLB k0 k=true:=λh=>by
    have:=scLB_eq h;subst this;have:e1.key=e0.key:=by rw[he];exact Option.some.inj (hkey0.symm.trans hkey)
    exact hn.1 (by rw[this];exact List.mem_map_of_mem (List.mem_of_getElem? hj'))
   obtain⟨p0,h1,h2,h3⟩:=tab_some hkl hkey hr hn.2 hj' he;simp only[List.length_cons,tabGet,tabSet,c1,c3,c4,hne,if_false];refine⟨p0,h1,h2,λp x hp=>?_⟩;simp only[List.modify_succ_cons];exact⟨k0,v,_,by simp,hk,hkey0,hv,h3 p x hp⟩
theorem run_updateT{t kt e:TypeId}{key x:Value}{p:PV}{b:Nat}{es:Array MapEntry}{ck sz:Nat}{cs k:List PV}{sc:Bool}(ht:P.underlying t=some (.map kt e))(KY:Maps.Keyed P kt)(hkl:k.length+1=sz)
  (hf:fitRows P kt sc sz es.toList.length cs=true) (hfk:fitT P kt sc k=true) (hb:w.heap[b]?=some (.map es ck)) (hso:StampOk es ck) (hk:TRel sc sz cs es.toList) (hn:(es.toList.map (·.key)).Nodup) (hkey:tkey sc k=some key) (hp:scal p=some x):
  ∃es' ck',(Instr.mapUpdate t (.map (some b)) key x).run P w=.ok () (setBlock w b (.map es' ck'))/\StampOk es' ck'/\TRel sc sz (tabSet sz k p es.toList.length cs) es'.toList/\(es'.toList.map (·.key)).Nodup:=by
 have hes:=trel_fit hk hf;obtain⟨lx,hlx⟩:∃l,keyOf P kt key=some l:=by
  unfold fitT at hfk;rw[hkey]at hfk;exact Option.isSome_iff_exists.1 hfk
 have hc:=KY.check w false hlx;rcases KY.find w hlx es.toList hes with⟨h1,h2⟩|⟨j,e0,h1,h2,h3⟩
 ·refine⟨es.push { key,val:=x,born:=ck },ck+1,?_,⟨λy hy=>?_,?_⟩,?_,?_⟩
  ·simp[Instr.mapUpdate,run_underlying ht,MapKept.run_getObj_map hb,hc,h1,MapKept.run_setObj_map _ hb,Result.andThen,setBlock]
  ·simp only[Array.toList_push,List.mem_append,List.mem_singleton]at hy;rcases hy with hy|rfl
   ·have:=hso.1 y hy;omega
   ·simp
  ·simp only[Array.toList_push,List.map_append,List.map_cons,List.map_nil];rw[List.nodup_append];refine⟨hso.2,by simp,λy hy z hz e=>?_⟩;simp only[List.mem_singleton]at hz;obtain⟨y0,hy0,rfl⟩:=List.mem_map.1 hy;have:=hso.1 y0 hy0;omega
  ·rw[Array.toList_push];exact(tab_none hkl hkey hk h2).2 p x ck hp
  ·simp only[Array.toList_push,List.map_append,List.map_cons,List.map_nil];rw[List.nodup_append];refine⟨hn,by simp,λy hy z hz e=>?_⟩;simp only[List.mem_singleton]at hz;obtain⟨y0,hy0,rfl⟩:=List.mem_map.1 hy;exact h2 y0 hy0 (e.trans hz)
 ·have h2':es[j]?=some e0:=by rw[←Array.getElem?_toList];exact h2
  obtain⟨p0,_,_,g3⟩:=tab_some hkl hkey hk hn h2 h3;refine⟨es.modify j λe=>{ e with key:=key,val:=x },ck,?_,?_,?_,?_⟩
  ·have hs:=KY.stays w hlx;simp[Instr.mapUpdate,run_underlying ht,MapKept.run_getObj_map hb,hc,h1,h2',h3,hs,MapKept.run_setObj_map _ hb,Result.andThen,setBlock]
  ·have hb':(es.modify j λe=>{ e with key:=key,val:=x }).toList.map (·.born)=es.toList.map (·.born):=by
    rw[Array.toList_modify];apply List.ext_getElem?;intro i;simp only[List.getElem?_map,List.getElem?_modify];by_cases hij:j=i
    ·subst hij;simp only[if_true];cases es.toList[j]?<;>rfl
    ·simp[hij]
   refine⟨λy hy=>?_,by rw[hb'];exact hso.2⟩;have:y.born∈es.toList.map (·.born):=by rw[←hb'];exact List.mem_map_of_mem hy
   obtain⟨y0,hy0,e⟩:=List.mem_map.1 this;rw[←e];exact hso.1 y0 hy0
  ·rw[Array.toList_modify];exact g3 p x hp
  ·have hb':(es.modify j λe=>{ e with key:=key,val:=x }).toList.map (·.key)=es.toList.map (·.key):=by
    rw[Array.toList_modify];apply List.ext_getElem?;intro i;simp only[List.getElem?_map,List.getElem?_modify];by_cases hij:j=i
    ·subst hij;rw[h2];simp[h3]
    ·simp[hij]
   rw[hb'];exact hn
theorem keyCs_rel{sc:Bool}{k:PV}{kl:List PV}{u key:Value}(hk:keyCs sc k=some kl)(hkey:tkey sc kl=some key)(hu:VRel φ w k u):u=key:=by
 cases sc with
 |true=>
  simp only[keyCs,if_true,Option.some.injEq]at hk;subst hk;exact scal_rel (by simpa[tkey]using hkey) hu
 |false=>
  simp only[keyCs,Bool.false_eq_true,if_false]at hk;split at hk
  ·injection hk with hk;subst hk;exact keyVal_rel (by simpa[tkey]using hkey) hu
  ·cases hk
theorem fitT_key{sc:Bool}{kt:TypeId}{kl:List PV}(h:fitT P kt sc kl=true):∃key,tkey sc kl=some key:=by
 unfold fitT at h;cases hc:tkey sc kl with
 |none=>rw[hc]at h;cases h
 |some kv=>exact⟨kv,rfl⟩
theorem good_updateT{o:Oper}{t kt e:TypeId}{x k y:Operand}{id sz:Nat}{cs cs':List PV}{sc:Bool}(hop:o.op=.mapUpdate t x k y\/o.op=.insert t x k y)(h:SRel φ w N s a)(hst:Anch A φ w s.eff)(hd:∀t,o.dst=some t->t<N)
  (hadd:∀e φ w,Anch A φ w (s.eff++[e])->Anch A φ w (addEff s.a0.a s.eff [e])) (hu:P.underlying t=some (.map kt e)) (KY:Maps.Keyed P kt) (hdst:o.dst=none)
  (hx:s.ev x=.mp (.tab sc) (some id) sz cs) (hset:aTabSet P t sc sz cs (s.ev k) (s.ev y)=some cs')
  (hK:K (s.setMp (.tab sc) id sz cs')):o.wpX r P a w (Good A N a.defers K) Q:=by
 have hv:=h.ev x;rw[hx]at hv;obtain⟨b,hv,hp,es,ck,hb,hso,hk,hn⟩:=hv;have hkv:=h.ev k;simp only[aTabSet,hu]at hset;split at hset
 ·rename_i kt' e' kl hkt hkl;simp only[Option.some.injEq,TypeDesc.map.injEq]at hkt;obtain⟨rfl,rfl⟩:=hkt;split at hset
  ·rename_i hc;obtain⟨c1,c2,c3,c4⟩:=hc;injection hset with hset;subst hset;obtain⟨key,hkey⟩:=fitT_key c2;obtain⟨xv,hxv⟩:=Option.isSome_iff_exists.1 c4;have ekv:=keyCs_rel hkl hkey hkv;have exv:=scal_rel hxv (h.ev y);have hlen:cs.length/sz=es.toList.length:=by rw[trel_len hk,Nat.mul_div_cancel _ (by omega)]
   rw[hlen]at c3 hK;obtain⟨es',ck',hr,hso',hk',hn'⟩:=run_updateT hu KY c1 c3 c2 hb hso hk hn hkey hxv;have ms:MSet (.tab sc) id b sz (tabSet sz kl (s.ev y) es.toList.length cs) φ w (setBlock w b (.map es' ck')):=by
    refine⟨hp,λi hi=>h.mem.arrinj i id b hi hp,by rw[setBlock_size];exact Nat.le_refl _,λc hc _=>setBlock_other hc,λcur e f k=>(by rw[hb]at k;cases k),λit cs0 v he hm=>?_⟩;obtain⟨b0,e0,p0,hm⟩:=hm;have:b0=b:=by have:=(show φ.arr id=some b0 from p0).symm.trans hp;injection this
    subst this;cases it with
    |tab sc'=>
     have:=(MK.wrOf_kind he).2.2 sc' rfl;injection this with this;subst this;exact⟨b0,e0,p0,es',ck',setBlock_same hb,hso',hk',hn'⟩
    |set=>simp[MK.wrOf,MK.wrV]at he
    |sit=>obtain⟨_,_,h1,_⟩:=hm;rw[hb]at h1;cases h1
    |wlk=>obtain⟨_,_,_,_,h1,_⟩:=hm;rw[hb]at h1;cases h1
   refine good_set (λc e=>by rcases hop with hop|hop<;>(rw[hop]at e;cases e)) h hst hd hadd ms rfl rfl rfl (.inr (.inl ⟨_,_,setBlock_same hb⟩)) (res:=.skip) ?_ (.inl ⟨rfl,hdst,hK⟩);have hev:a.eval x=.map (some b):=hv;rcases hop with hop|hop<;>simp[execOp,hop,hev,ekv,exv,hr,Result.andThen]
  ·cases hset
 ·cases hset
theorem zero_run{e:TypeId}{z:PV}{zv:Value}(hz:(zeroOf P e).map pvOf=some z)(hzv:scal z=some zv):(zeroValue e).run P w=.ok zv w:=by
 obtain⟨v,h1,rfl⟩:=Option.map_eq_some_iff.1 hz;have hv:v=zv:=by
  cases v with
  |int k n=>simpa[pvOf,scal]using hzv
  |bool b=>simpa[pvOf,scal]using hzv
  |pointer a=>cases a<;>simp[pvOf,scal]at hzv
  |slice a l c=>
   unfold pvOf at hzv;split at hzv<;>simp_all[scal]
  |tuple vs=>
   unfold pvOf at hzv;split at hzv<;>simp_all[scal]
  |_=>simp[pvOf,scal]at hzv
 subst hv;unfold zeroOf at h1;obtain⟨i,hi,hz'⟩:=Option.bind_eq_some_iff.1 h1;simp[zeroValue,typeInfo,hi,hz']
theorem good_lookup{o:Oper}{t kt e:TypeId}{x k:Operand}{ok:Bool}{id:Option Nat}{sz:Nat}{cs:List PV}{sc:Bool}{pv:PV}(hop:o.op=.lookup t x k ok)(h:SRel φ w N s a)(hst:Anch A φ w s.eff)(hd:∀t,o.dst=some t->t<N)
  (hu:P.underlying t=some (.map kt e)) (KY:Maps.Keyed P kt)
  (hx:s.ev x=.mp (.tab sc) id sz cs) (hget:aTabGet P t sc sz cs (s.ev k) ok=some pv)
  (hK:K (s.put o.dst pv)):o.wpX r P a w (Good A N a.defers K) Q:=by
 have hv:=h.ev x;rw[hx]at hv;obtain⟨b,hv,hp,es,ck,hb,hso,hk,hn⟩:=hv;have hkv:=h.ev k;simp only[aTabGet,hu]at hget;split at hget
 ·rename_i kt' e' kl hkt hkl;simp only[Option.some.injEq,TypeDesc.map.injEq]at hkt;obtain⟨rfl,rfl⟩:=hkt;split at hget
  ·rename_i z hz;split at hget
   ·rename_i hc;obtain⟨c1,c2,c3,c4⟩:=hc;obtain⟨key,hkey⟩:=fitT_key c2;obtain⟨zv,hzv⟩:=Option.isSome_iff_exists.1 c4;have ekv:=keyCs_rel hkl hkey hkv;have hlen:cs.length/sz=es.toList.length:=by rw[trel_len hk,Nat.mul_div_cancel _ (by omega)]
    rw[hlen]at c3 hget;have hes:=trel_fit hk c3;obtain⟨lx,hlx⟩:∃l,keyOf P kt key=some l:=by
     have:=c2;unfold fitT at this;rw[hkey]at this;exact Option.isSome_iff_exists.1 this
    have hchk:=KY.check w es.isEmpty hlx;have hzr:=zero_run (P:=P) (w:=w) hz hzv;have hev:a.eval x=.map (some b):=hv;rcases KY.find w hlx es.toList hes with⟨h1,h2⟩|⟨j,e0,h1,h2,h3⟩
    ·have hg:=(tab_none c1 hkey hk h2).1;rw[hg]at hget;simp only[Option.some.injEq]at hget;subst hget;refine good_val (λc e=>by rw[hop]at e;cases e) h hst hd (v:=if ok=true then .tuple #[zv,.bool false]else zv) ?_ ?_ hK
     ·simp[execOp,hop,hev,ekv,Instr.lookup,run_underlying hu,MapKept.run_getObj_map hb,hchk,h1,hzr,Result.andThen]
     ·cases ok with
      |false=>exact scal_vrel hzv
      |true=>exact⟨[zv,.bool false],rfl,_,_,rfl,scal_vrel hzv,_,_,rfl,rfl,rfl⟩
    ·obtain⟨p0,hg,hpv,_⟩:=tab_some c1 hkey hk hn h2 h3;rw[hg]at hget;simp only[Option.some.injEq]at hget;subst hget;refine good_val (λc e=>by rw[hop]at e;cases e) h hst hd (v:=if ok=true then .tuple #[e0.val,.bool true]else e0.val) ?_ ?_ hK
     ·simp[execOp,hop,hev,ekv,Instr.lookup,run_underlying hu,MapKept.run_getObj_map hb,hchk,h1,Result.andThen]
     ·cases ok with
      |false=>exact scal_vrel hpv
      |true=>exact⟨[e0.val,.bool true],rfl,_,_,rfl,scal_vrel hpv,_,_,rfl,rfl,rfl⟩
   ·cases hget
  ·cases hget
 ·cases hget
theorem run_getObj_sit{b pos:Nat}{c:ByteArray}(hb:w.heap[b]?=some (.stringIter c pos)):(getObj b).run P w=.ok (.stringIter c pos) w:=by simp[getObj,Sem.run,hb]
theorem run_setObj_sit{b pos:Nat}{c:ByteArray}(ob:Obj)(hb:w.heap[b]?=some (.stringIter c pos)):(setObj b ob).run P w=.ok () (setBlock w b ob):=by simp[setObj,Sem.run,setBlock,hb]
theorem good_nextS{o:Oper}{x:Operand}{id:Nat}{c:ByteArray}{pos:Int}(hop:o.op=.next x true)(h:SRel φ w N s a)(hst:Anch A φ w s.eff)(hd:∀t,o.dst=some t->t<N)
  (hadd:∀e φ w,Anch A φ w (s.eff++[e])->Anch A φ w (addEff s.a0.a s.eff [e]))
  (hx:s.ev x=.mp .sit (some id) 2 [.str c,.int .i64 pos])
  (hK:if pos.toNat<c.size then K ((s.setMp .sit id 2 [.str c,.int .i64 ((pos.toNat+(Utf8.decode c pos.toNat).2:Nat):Int)]).put o.dst (.tup [.bool true,.int .i64 pos,.int .i32 (Utf8.decode c pos.toNat).1]))else K (s.put o.dst (.tup [.bool false]))):
  o.wpX r P a w (Good A N a.defers K) Q:=by
 have hdf:∀c,o.op≠.defer c:=λc e=>by rw[hop]at e;cases e
 have hv:=h.ev x;rw[hx]at hv;obtain⟨b,hv,hp,c',pos',hb,hcs⟩:=hv;simp only[List.cons.injEq,PV.str.injEq,PV.int.injEq,and_true,true_and]at hcs;obtain⟨rfl,rfl⟩:=hcs;have hev:a.eval x=.pointer (some ⟨b,0,none⟩):=hv;simp only[Int.toNat_natCast]at hK;split at hK
 ·rename_i hlt;have ms:MSet .sit id b 2 [.str c,.int .i64 ((pos'+(Utf8.decode c pos').2:Nat):Int)] φ w (setBlock w b (.stringIter c (pos'+(Utf8.decode c pos').2))):=by
   refine⟨hp,λi hi=>h.mem.arrinj i id b hi hp,by rw[setBlock_size];exact Nat.le_refl _,λc hc _=>setBlock_other hc,λcur e f k=>(by rw[hb]at k;cases k),λit cs0 v he hm=>?_⟩;obtain⟨b0,e0,p0,hm⟩:=hm;have:b0=b:=by have:=(show φ.arr id=some b0 from p0).symm.trans hp;injection this
   subst this;cases it with
   |tab _|set=>obtain⟨_,_,h1,_⟩:=hm;rw[hb]at h1;cases h1
   |sit=>exact⟨b0,e0,p0,_,_,setBlock_same hb,rfl⟩
   |wlk=>obtain⟨_,_,_,_,h1,_⟩:=hm;rw[hb]at h1;cases h1
  refine good_set hdf h hst hd hadd ms rfl rfl rfl (.inr (.inr (.inr ⟨_,_,setBlock_same hb⟩))) (res:=.value (.tuple #[.bool true,goInt pos',.int .i32 (Utf8.decode c pos').1])) ?_
   (.inr ⟨_,.tup [.bool true,.int .i64 pos',.int .i32 (Utf8.decode c pos').1],rfl,⟨[.bool true,goInt pos',.int .i32 (Utf8.decode c pos').1],rfl,_,_,rfl,rfl,_,_,rfl,rfl,_,_,rfl,rfl,rfl⟩,hK⟩)
  simp[execOp,hop,hev,Instr.next,Result.andThen,run_getObj_sit hb,run_setObj_sit _ hb,hlt]
 ·rename_i hlt;refine good_val hdf h hst hd (v:=.tuple #[.bool false]) (pv:=.tup [.bool false]) ?_ ⟨[.bool false],rfl,_,_,rfl,rfl,rfl⟩ hK;simp[execOp,hop,hev,Instr.next,Result.andThen,run_getObj_sit hb,hlt]
theorem good_next{o:Oper}{x:Operand}{id sz:Nat}{cs:List PV}(hop:o.op=.next x false)(h:SRel φ w N s a)(hst:Anch A φ w s.eff)(hd:∀t,o.dst=some t->t<N)
  (hadd:∀e φ w,Anch A φ w (s.eff++[e])->Anch A φ w (addEff s.a0.a s.eff [e])) (hsz:0<sz)
  (hx:s.ev x=.mp .wlk (some id) sz cs) (h0:(cs.drop sz).length/sz=0->K (s.put o.dst (.tup [.bool false])))
  (hK:∀i,i<(cs.drop sz).length/sz->K ((s.setMp .wlk id sz (chunk sz (cs.drop sz) i++dropK sz (cs.drop sz) i)).put o.dst (.tup [.bool true,.agg (chunk sz (cs.drop sz) i),.bad]))):
  o.wpX r P a w (Good A N a.defers K) Q:=by
 have hdf:∀c,o.op≠.defer c:=λc e=>by rw[hop]at e;cases e
 have hv:=h.ev x;rw[hx]at hv;obtain⟨b,hv,hp,bm,ck,seen,es,hb,hno,hbm,hso,lk,rem,rfl,hlk,hk,hl⟩:=hv;have hdr:(lk++rem).drop sz=rem:=by rw[←hlk];exact List.drop_left' rfl
 rw[hdr]at h0 hK;have hlen:=krel_len hk;have hnum:rem.length/sz=(leftOf es seen).toList.length:=by rw[hlen,Nat.mul_div_cancel _ hsz]
 rcases run_next_at (P:=P) w o.type b bm ck ck seen es ck hb hbm hso.1 (Nat.le_refl _)with⟨h1,h2⟩|⟨e,he,w1,hw1,h2⟩
 ·refine good_val hdf h hst hd (v:=.tuple #[.bool false]) (pv:=.tup [.bool false]) ?_ ⟨[.bool false],rfl,_,_,rfl,rfl,rfl⟩ (h0 (by rw[hnum];simpa using h1));have hev:a.eval x=.pointer (some ⟨b,0,none⟩):=hv;simp[execOp,hop,hev,h2,Result.andThen]
 ·obtain⟨j,hj,hje⟩:=List.getElem_of_mem he;have hje':(leftOf es seen).toList[j]?=some e:=by rw[←hje];simp
  have hkey:=krel_get hk j e hje';have hrem:=left_push hso.2 hje';have hkr:KRel sz (dropK sz rem j) (leftOf es (seen.push e.born)).toList:=by rw[hrem];exact krel_erase j hk hj
  have hw1h:w1.heap=w.heap:=by rcases hw1 with rfl|rfl<;>rfl
  have hes:e∈es.toList:=by
   unfold leftOf at he;rw[Array.toList_filter]at he;exact(List.mem_filter.1 he).1
  have hb1:w1.heap[b]?=some (.mapIter (some bm) ck seen ck):=by rw[hw1h];exact hb
  have hbne:bm≠b:=λe=>by rw[e,hb]at hbm;cases hbm
  have hcl:(chunk sz rem j).length=sz:=by
   have:j*sz+sz<=rem.length:=by
    rw[hlen,←Nat.succ_mul];exact Nat.mul_le_mul_right _ hj
   simp only[chunk,List.length_take,List.length_drop];omega
  have ms:MSet .wlk id b sz (chunk sz rem j++dropK sz rem j) φ w (setBlock w1 b (.mapIter (some bm) ck (seen.push e.born) ck)):=by
   refine⟨hp,λi hi=>h.mem.arrinj i id b hi hp,by rw[setBlock_size,hw1h];exact Nat.le_refl _,λc hc _=>by rw[setBlock_other hc,hw1h],λcur e f k=>(by rw[hb]at k;cases k),λit cs0 v he hm=>?_⟩;obtain⟨b0,e0,p0,hm⟩:=hm;have:b0=b:=by have:=(show φ.arr id=some b0 from p0).symm.trans hp;injection this
   subst this;cases it with
   |set|tab _|sit=>obtain⟨_,_,h1,_⟩:=hm;rw[hb]at h1;cases h1
   |wlk=>exact⟨b0,e0,p0,bm,ck,_,es,setBlock_same hb1,hno,by rw[setBlock_other hbne,hw1h];exact hbm,hso,_,_,rfl,hcl,hkr,.inr ⟨e,seen,hes,rfl,hkey⟩⟩
  refine good_set hdf h hst hd hadd ms (by rcases hw1 with rfl|rfl<;>rfl) (by rcases hw1 with rfl|rfl<;>rfl) (by rcases hw1 with rfl|rfl<;>rfl) (.inr (.inr (.inl ⟨_,_,_,_,setBlock_same hb1⟩))) (res:=.value (.tuple #[.bool true,e.key,e.val])) ?_
   (.inr ⟨_,.tup [.bool true,.agg (chunk sz rem j),.bad],rfl,⟨[.bool true,e.key,e.val],rfl,_,_,rfl,rfl,_,_,rfl,keyVal_vrel hkey,_,_,rfl,by simp only[VRel],rfl⟩,hK j (by rw[hnum];exact hj)⟩)
  have hev:a.eval x=.pointer (some ⟨b,0,none⟩):=hv;simp[execOp,hop,hev,h2,Result.andThen]
end
end
end Go.Proofs.Ytjfejoadcdoobaa
