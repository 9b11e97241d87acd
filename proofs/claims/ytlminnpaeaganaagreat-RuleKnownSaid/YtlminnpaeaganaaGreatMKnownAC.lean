/- Part of the proof of RuleKnown. No condition. -/
import Derived.Test.YtlminnpaeaganaaGreatMKnownAB
namespace Go.Proofs.YtlminnpaeaganaaGreat
set_option maxRecDepth 100000
set_option linter.all false
section
open Go Go.RowKit
variable[cQ]
section
variable{P:Program}{φ:bo}{w:World}{A:Anchor}{N n:Nat}{s:aA}{a:Act}{K:aA->Prop}{Q:Exit->Act->World->Prop}{r:Option Nat}{m:Mem}
theorem bl.P0{bn:bo}{w':World}{j:Nat}(k:sB j φ w bn w'){a7:List aa}{af:List Value}(h:bl φ w a7 af)(aI:∀p∈a7,w8 j p):bl bn w' a7 af:=by
 have:=bl.kill k a7 af h;rwa[pV,List.map_congr_left (g:=id) (λp ae=>aI p ae),List.map_id]at this
theorem P1{id b:Nat}{off:Nat}{e:TypeId}(au:φ.arr id=some b)(Ff:∀i,φ.arr i=some b->i=id):∀(a7:List aa)(af:List Value)(i:Nat)(w:World)(cur:Array Value),
  bl φ w a7 af->a7.all aa.one=true->(∀p∈a7,w8 id p)->w.heap[b]?=some (.cells cur e (0,0))->off+i+af.length<=cur.size ->
  ∃w',(storeCells ⟨b,off,none⟩ af i).run P w=.ok () w'/\(∀q u,aY φ w q u->aY φ w' (q.sub (nd id (off+i) a7)) u)/\(∀k,k≠b->w'.heap[k]?=w.heap[k]?)/\w'.heap.size=w.heap.size /\
   (∃m2,w'.heap[b]?=some (.cells m2 e (0,0))/\m2.size=cur.size)/\w'.os=w.os/\w'.tape=w.tape/\w'.output=w.output
 |[],af,i,w,cur,ai,_,_,hb,_=>by
  subst ai;exact⟨w,by rfl,λq u h=>h,λ_ _=>rfl,rfl,⟨cur,hb,rfl⟩,rfl,rfl,rfl⟩
 |p::a7,af,i,w,cur,ai,U,aI,hb,aQ=>by
  obtain⟨v,cB,rfl,ae,e0⟩:=ai;simp  at aQ;simp only[List.all_cons,Bool.and_eq_true]at U;have mX:(w.cell? ⟨b,off+i,none⟩)=some (cur[off+i]'(by omega)):=by grind [World.cell?]
  have ag5:w.frozen? ⟨b,off+i,none⟩=false:=by simp[World.frozen?,hb]
  obtain⟨w1,fg⟩:∃w1,w1=w.setCell ⟨b,off+i,none⟩ v:=⟨_,rfl⟩;have kH:∀k,k≠b->w1.heap[k]?=w.heap[k]?:=λk aq=>by grind [Below.heap_setCell]
  have du:w1.heap[b]?=some (.cells (cur.setIfInBounds (off+i) v) e (0,0)):=by grind [World.setCell]
  have q7:sB id φ w φ w1:=by
   refine⟨λ_ _ h=>h,λ_ _ _ h=>h,λ_ _ h=>h,by simp_all,λj c aC ah=>kH c (λe=>?_),λc _ ar=>kH c (λe=>ar (.inr ⟨id,by grind⟩))⟩;grind
  have eW:aY φ w1 p v:=by
   have:=aY.kill q7 p v ae;rwa[aI p (by simp)]at this
  have ql:wC id b (off+i) p φ w w1:=by
   refine⟨au,Ff,by simp_all,λk aq _=>kH k aq,λm2 e' h=>?_,⟨_,_,hb⟩,λo ar=>?_,⟨v,?_,eW⟩⟩;all_goals grind [World.cell?_setCell_other,World.cell?_setCell_same]
  have afs:bl φ w1 a7 cB:=bl.P0 q7 e0 (λq aH=>aI q (by simp[aH]));obtain⟨w',ad,vk,ar,ao,⟨m2,gv,hcs⟩,aK,aO,bS⟩:=P1 (off:=off) au Ff a7 cB (i+1) w1 (cur.setIfInBounds (off+i) v) afs U.2 (λq aH=>aI q (by simp[aH])) du (by simp;omega);refine⟨w',?_,λq u aH=>vk _ _ (aY.wr ql q u aH),λk aq=>(ar k aq).trans (kH k aq),by rw[ao,fg];simp,⟨m2,gv,by grind⟩,by rw[aK,fg];rfl,by rw[aO,fg];rfl,by rw[bS,fg];rfl⟩;grind [run_store,PZ,storeCells,Sem.run_bind,q0,Result.andThen_ok]
theorem P2(E:List b9)(c:di):di.sub E c=match c with | .cells l=>.cells (l.map (aa.sub E)) | .inv I=>.inv I | .hole=>.hole:=by
 unfold di.sub;induction E generalizing c with
 |nil=>cases c<;>simp;exact(List.map_id' _).symm
 |cons e E az=>
  rw[List.foldl_cons,az];cases c<;>simp[di.bW];intro a _;rfl
theorem ZR(E:List b9)(l:List aa):l.map (aa.sub E)=E.foldl (λl e=>eF e l) l:=by
 induction E generalizing l with
 |nil=>exact List.map_id' _
 |cons e E az=>rw[List.foldl_cons,←az,pV,List.map_map];rfl
theorem Iy{bn:bo}{w':World}{E:List b9}(tr:∀q c,aY φ w q c->aY bn w' (q.sub E) c){c:di}{af:List Value}(h:m3 φ w c af):m3 bn w' (c.sub E) af:=by
 have ak:∀l:List aa,bl φ w l af->bl bn w' (l.map (aa.sub E)) af:=λl ak=>by grind [sy]
 rw[P2];cases c with
 |cells l=>exact ak l h
 |inv I=>
  obtain⟨l,U,ab,aJ,al⟩:=h;refine⟨l,U,ab,aJ,?_⟩;have akO:l.map (aa.sub E)=l:=by
   rw[ZR];clear U al aJ ak tr;induction E with
   |nil=>rfl
   |cons e E az=>grind
  grind
 |hole=>trivial
theorem H2(E:List b9)(c:di)(h:c=.hole):c.sub E=.hole:=by grind [P2]
theorem Yo{t:TypeId}{id off:Nat}{cs:List aa}{pv:aa}{v dP:Value}(aX:(P.info? t).isSome)(eb:0<P.cellsOf t)(ah:pv.cells.length=P.cellsOf t)(U:pv.cells.all aa.one=true)(hle:pv.cells.length<=cs.length)
  (aI:∀c∈pv.cells,w8 id c) (hm:c0 φ m w) (aj:aY φ w (.bJ (some id) off cs) dP) (ai:aY φ w pv v) (aq:pv.known=true):
  ∃w',(Instr.storeAt t dP v).run P w=.ok () w'/\c0 φ { m with β:=λi=>(m.β i).sub (nd id off pv.cells) } w'/\Step φ w φ w' (nd id off pv.cells):=by
 obtain⟨b,rfl,⟨au,cur,e,hb,_⟩,dA⟩:=aj;have BM:=Al ai aq;have hlen:=mg BM;have Ff:∀i,φ.arr i=some b->i=id:=λi h=>hm.hp i id b h au;have gN:off+0+v.cells.toList.length<=cur.size:=by
  have aC:cs[pv.cells.length-1]?=some (cs[pv.cells.length-1]'(by omega)):=by simp
  grind [r5,World.cell?]
 obtain⟨w',ad,vk,ar,ao,⟨m2,gv,hcs⟩,aK,aO,bS⟩:=P1 (P:=P) au Ff pv.cells v.cells.toList 0 w cur BM U aI hb gN;have bX:v.cells.size=P.cellsOf t:=by grind
 refine⟨w',by simp[Instr.storeAt,Instr.sureAddr,storeVar,bX,run_sizeOf aX,ad],⟨λi aX=>?_,hm.dt,λi c ah=>?_,hm.jo,hm.hp,hm.sep,λl o h=>(ar l (λe=>by have:=hm.gw l o h;grind)).trans (hm.gw l o h)⟩,⟨vk,aK,bS,by omega,λc aU fu _=>⟨ar c (λe=>fu (.inr ⟨id,by grind⟩)),fu⟩⟩⟩
 ·rcases hm.box i aX with⟨g1,g2⟩|⟨c,m2,e',gv,tm,ir⟩
  ·grind [H2]
  exact .inr ⟨c,m2,e',gv,(ar c (λe=>hm.sep i id c gv (by grind))).trans tm,Iy vk ir⟩
 ·obtain⟨U,ab⟩:=hm.arr i c ah;by_cases tn:c=b
  ·grind [kz.cells]
  ·exact⟨U,ab.of_eq (ar c tn)⟩
theorem Yp{w':World}{id b fw:Nat}(hm:c0 φ m w)(au:φ.arr id=some b)(kr:fw=b\/fw=w.heap.size)(ao:w.heap.size<=w'.heap.size)
  (ar:∀c,c<w.heap.size->c≠b->w'.heap[c]?=w.heap[c]?) (du:kz w' fw):
  sB id φ w (φ.fD id fw) w'/\c0 (φ.fD id fw) { m with β:=λi=>(m.β i).sub [.kill id] } w':=by
 have bU:∀i c,i≠id->φ.arr i=some c->c≠b:=λi c aX ah e=>aX (hm.hp i id b (by grind) au);have k:sB id φ w (φ.fD id fw) w':=by
  refine⟨λ_ _ h=>h,λi c aX ah=>by grind [bo.fD],λc ah fu h=>?_,ao,λi c aX ah=>ar c (jN hm ah) (bU i c aX ah),λc ah fu=>ar c ah (λe=>fu (.inr ⟨id,by grind⟩))⟩;rcases C5 h with h|h
  ·exact fu h
  ·rcases kr with e|e
   ·subst h;subst e;exact fu (.inr ⟨id,au⟩)
   ·omega
 have tr:∀q c,aY φ w q c->aY (φ.fD id fw) w' (q.sub [.kill id]) c:=λq c h=>aY.kill k q c h;refine⟨k,⟨λi aX=>?_,hm.dt,λi c ah=>?_,hm.jo,λi j c U ab=>?_,λi j c U ab=>?_,λl o h=>(ar l (Array.getElem?_eq_some_iff.1 (hm.gw l o h)).1 (λe=>by have:=hm.gw l o h;rw[e]at this;exact(hm.arr id b au).2.Q5 _ this)).trans (hm.gw l o h)⟩⟩
 ·rcases hm.box i aX with⟨g1,g2⟩|⟨c,cur,e,ah,bq,ad⟩
  ·exact .inl ⟨H2 _ _ g1,g2⟩
  exact .inr ⟨c,cur,e,ah,(ar c (mo hm ah) (λe=>hm.sep i id c ah (by grind))).trans bq,Iy tr ad⟩
 ·simp only[bo.fD]at ah;split at ah
  ·rename_i aX;subst aX;have:=Option.some.inj ah;subst this;exact⟨(hm.arr i b au).1,du⟩
  ·rename_i aX;obtain⟨U,ab⟩:=hm.arr i c ah;exact⟨U,ab.of_eq (ar c (jN hm ah) (bU i c aX ah))⟩
 ·simp only[bo.fD]at U ab;split at U<;>split at ab
  ·omega
  ·have:=Option.some.inj U;rcases kr with e|e
   ·grind
   ·exact absurd (jN hm ab) (by omega)
  ·have:=Option.some.inj ab;rcases kr with e|e
   ·grind
   ·exact absurd (jN hm U) (by omega)
  ·exact hm.hp i j c U ab
 ·simp only[bo.fD]at ab;split at ab
  ·have:=Option.some.inj ab;subst this;rcases kr with e|e
   ·exact hm.sep i id b (by rw[←e];exact U) au
   ·exact absurd (mo hm U) (by omega)
  ·exact hm.sep i j c U ab
theorem Hw{id:Nat}{o:Oper}(ar:∀c,o.op≠.defer c)(h:cW φ w N s a)(bh:cY A φ w s.bb)(aV:∀t,o.dst=some t->t<N)(m5:∀φ w,cY A φ w (s.bb++[b9.kill id])->cY A φ w (gV s.a0.a s.bb [b9.kill id]))
  {w':World} {b fw:Nat} (au:φ.arr id=some b) (kr:fw=b\/fw=w.heap.size) (ao:w.heap.size<=w'.heap.size)
  (s5:∀c,c<w.heap.size->c≠b->w'.heap[c]?=w.heap[c]?) (tp:w'.os=w.os) (KH:w'.tape=w.tape) (BN:w'.output=w.output)
  {cur:Array Value} {e:TypeId} (du:w'.heap[fw]?=some (.cells cur e (0,0))) {sz len cap:Nat} {l:List aa} {af:List Value}
  (ad:(execOp a.eval o).run P w=.ok (.value (.slice (some ⟨fw,0,none⟩) len cap)) w')
  (hlen:l.length=len*sz) (lg:len<=cap) (bX:cap*sz<=cur.size) (ak:bl φ w l af) (aI:∀c∈l,w8 id c) (e0:∀(j:Nat) v,af[j]?=some v->cur[j]?=some v)
  (eP:K ((s.gY [.kill id]).put o.dst (.sl (some id) sz 0 len l))):o.dE r P a w (Good A N a.defers K) Q:=by
 refine o0 ar ?_;rw[ad];obtain⟨k,hm⟩:=Yp h.mem au kr ao s5 (kz.cells du);have tr:∀q c,aY φ w q c->aY (φ.fD id fw) w' (q.sub [.kill id]) c:=λq c h=>aY.kill k q c h;have er:bl (φ.fD id fw) w' l af:=bl.P0 k ak aI;refine⟨(s.gY [.kill id]).put o.dst (.sl (some id) sz 0 len l),φ.fD id fw,?_,?_,put_defers _ _ _,eP⟩
 ·have U:cW (φ.fD id fw) w' N (s.gY [.kill id]) a:=⟨λt=>tr _ _ (h.tmp t),h.size,hm⟩;refine U.put aV ⟨hlen,_,cap,rfl,lg,.inr ⟨fw,rfl,⟨by simp[bo.fD],cur,e,du,by omega⟩,sA λj p aC=>?_⟩⟩;grind [o1,World.cell?]
 ·rw[aA.uA];exact m5 _ _ (bh.trans ⟨tr,tp,BN,ao,λc ah fu _=>⟨k.rest c ah fu,k.rG c ah fu⟩⟩)
theorem ZS{sz m:Nat}{news:List aa}{y:aa}(h:wO sz y=some (m,news)){j4:Value}(aF:aY φ w y j4):
  news.length=m*sz/\∃vE xV,j4=.slice vE m xV/\(0<m->∃b off af,vE=some ⟨b,off,none⟩/\bl φ w news af/\∀j v,af[j]?=some v->w.cell? ⟨b,off+j,none⟩=some v):=by
 unfold wO at h;grind [aY,Hb]
theorem Vy(w:World)(t ty e gH:TypeId)(i:TypeInfo)(a1:P.underlying t=some (.slice e))(aX:P.info? e=some i)
  (g oF xa:Nat) (cur:Array Value) (aN:w.heap[g]?=some (.cells cur gH (0,0)))
  (a:Addr) (m c:Nat) (news:List Value) (ak:news.length=m*i.size) (q8:∀j u,news[j]?=some u->w.cell? (a.add j)=some u) (U:∀u∈news,u.oneCell'=true)
  (Si:oF+m<=xa) (gN:oF*i.size+news.length<=cur.size):
  (Builtin.append_ #[t,t] ty #[.slice (some ⟨g,0,none⟩) oF xa,.slice (some a) m c]).run P w =
   .ok (.slice (some ⟨g,0,none⟩) (oF+m) xa) (w.setRow g (cur.toList.take (oF*i.size)++news++cur.toList.drop (oF*i.size+news.length)).toArray):=by
 have aQ:=run_firstCells_some (P:=P) w i.size m a m c news ak q8;have bh:=run_storeCells_at P g (oF*i.size) gH news 0 cur w aN (by grind) U;simp[Builtin.append_,run_underlying a1,sizeOf,typeInfo,aX,Builtin.lenOf,Si,aQ,Addr.add_lit,bh]
theorem Mc(w:World)(t ty e:TypeId)(i:TypeInfo)(a1:P.underlying t=some (.slice e))(aX:P.info? e=some i)
  (vF:Option Addr) (oF xa:Nat) (hle:oF<=xa) (vE:Option Addr) (c:Nat):
  (Builtin.append_ #[t,t] ty #[.slice vF oF xa,.slice vE 0 c]).run P w=.ok (.slice vF oF xa) w:=by
 cases vE<;>cases vF<;>simp[Builtin.append_,run_underlying a1,sizeOf,typeInfo,aX,Builtin.lenOf,Builtin.firstCells,hle,loadCells,loadCellsFrom,storeCells]
end
end
section
open Go Go.RowKit
variable[cQ]
section
variable{P:Program}{φ:bo}{w:World}{A:Anchor}{N n:Nat}{s:aA}{a:Act}{K:aA->Prop}{Q:Exit->Act->World->Prop}{r:Option Nat}{m:Mem}
theorem Yq{b off:Nat}{cur:Array Value}{e:TypeId}{f:Nat×Nat}(h:w.heap[b]?=some (.cells cur e f)){j:Nat}{v:Value}(ah:w.cell? ⟨b,off+j,none⟩=some v):cur[off+j]?=some v:=by grind [World.cell?]
theorem Wz{o:Oper}{t:TypeId}{x y:Operand}(ar:o.op=.call { callee:=.builtin .append,args:=#[x,y],argTypes:=#[t,t] })
  (h:cW φ w N s a) (bh:cY A φ w s.bb) (aV:∀t,o.dst=some t->t<N) (m5:∀(i:Nat) φ w,cY A φ w (s.bb++[b9.kill i])->cY A φ w (gV s.a0.a s.bb [b9.kill i]))
  (eP:uB P s o.dst t (s.ay x) (s.ay y) K):o.dE r P a w (Good A N a.defers K) Q:=by
 have iY:∀c,o.op≠.defer c:=λc e=>by grind
 have aB:∀{v:Value}{w':World},(Builtin.append_ #[t,t] o.type #[a.eval x,a.eval y]).run P w=.ok v w'->(execOp a.eval o).run P w=.ok (.value v) w':=λ{v w'} ad=>by simp[execOp,ar,resolve,invoke,builtin,ad]
 unfold uB at eP;split at eP
 ·rename_i e hu;obtain⟨aX,eb,KI,eP⟩:=eP;obtain⟨i,e1,bX,TR⟩:=Aa aX;obtain⟨z,bO,TS⟩:∃z,i.zero=some z/\z.cells.size=i.size:=by
   unfold zeroOf at KI;rw[e1]at KI;simp only[Option.bind_some]at KI;cases ak0:i.zero with
   |none=>grind
   |some z=>grind
  split at eP
  ·rename_i iz news aF;obtain⟨lR,eP⟩:=eP;obtain⟨mB,vE,xV,ajd,zc⟩:=ZS aF (h.ay y);rw[ajd]at aB;split at eP
   ·rename_i aj;obtain⟨lY,oK,eP⟩:=eP;have ex:a.eval x=.slice none 0 0:=by have:=h.ay x;rw[aj]at this;exact this
    rw[ex]at aB;rcases Nat.eq_zero_or_pos iz with aT|aT
    ·subst aT;rw[if_pos rfl]at eP;exact iG iY h bh aV (aB (Mc w t o.type e i hu e1 none 0 0 (Nat.le_refl _) vE xV)) (pv:=.bC) rfl eP
    ·rw[if_neg (by omega)]at eP;obtain⟨b,off,af,rfl,e0,aN⟩:=zc aT;have xq:af.length=iz*i.size:=by grind [mg]
     have h3:=grownCap_ge w iz 0 e;refine H0 iY h bh aV (jQ.Xi w _) (aB (run_append_nil w t o.type e i z hu e1 bO ⟨b,off,none⟩ iz xV af xq (λj v ai=>by grind [q0]) aT (by omega) (by grind)))
      (heap_alloc_new w.drew _) (sz:=P.cellsOf e) mB h3 ?_ e0 (λj v ai=>?_) eP
     ·rw[Array.size_append,List.size_toArray,size_zeroCells,TS,xq,bX,←Nat.add_mul];grind
     grind
   ·rename_i id sz off len cs aj;obtain⟨rfl,rfl,lY,oK,aI,eP⟩:=eP;have hd:=h.ay x;rw[aj]at hd;obtain⟨ak,vF,cap,ex,lg,ae⟩:=hd;rw[ex]at aB;rcases ae with ae|⟨b,rfl,⟨au,cur,gH,hb,Si⟩,dA⟩
    ·grind
    obtain⟨af,e0,aN⟩:=Hb dA;have TT:∀(j:Nat) v,af[j]?=some v->cur[j]?=some v:=λj v ai=>by
     have:=Yq hb (aN j v ai);grind
    have xq:af.length=len*i.size:=by grind [mg]
    rcases Nat.eq_zero_or_pos iz with aT|aT
    ·subst aT;have nf:news=[]:=List.eq_nil_of_length_eq_zero (by simpa using mB);subst nf;rw[List.append_nil]at eP aI;exact Hw iY h bh aV (m5 id) au (.inl rfl) (Nat.le_refl _) (λ_ _ _=>rfl) rfl rfl rfl hb (aB (Mc w t o.type e i hu e1 _ len cap lg vE xV)) ak lg (by omega) e0 aI TT eP
    ·obtain⟨a6,zb,us,rfl,zt,oL⟩:=zc aT;have FI:us.length=iz*i.size:=by rw[←mg zt,mB,bX]
     have q8:∀j u,us[j]?=some u->w.cell? ((⟨a6,zb,none⟩:Addr).add j)=some u:=λj v ai=>by rw[q0];exact oL j v ai
     have hlen:(cs++news).length=(len+iz)*P.cellsOf e:=by rw[List.length_append,ak,mB,Nat.add_mul]
     have TU:=Ad e0 zt;by_cases gN:len+iz<=cap
     ·have ac9:len*i.size+us.length<=cur.size:=by
       rw[FI,←Nat.add_mul,←bX];exact Nat.le_trans (Nat.mul_le_mul_right _ gN) (by omega)
      have ad:=Vy (P:=P) w t o.type e gH i hu e1 b len cap cur hb ⟨a6,zb,none⟩ iz xV us FI q8 (OT zt lR) gN ac9;refine Hw iY h bh aV (m5 id) au (.inl rfl) (by rw[setRow_size];exact Nat.le_refl _) (λc _ ah=>setRow_other w b c _ ah) rfl rfl rfl (setRow_heap w b cur _ gH _ hb) (aB ad) hlen gN ?_ TU aI (λj v ai=>?_) eP
      ·simp ;omega
      ·have BO:af=cur.toList.take (len*i.size):=by
        apply List.ext_getElem?;intro k;rw[List.getElem?_take];by_cases aq:k<len*i.size
        ·rw[if_pos aq];have gx:k<af.length:=by omega
         have:=TT k af[k] (by simp[gx]);simp[gx]at this⊢;exact this.symm
        ·rw[if_neg aq,List.getElem?_eq_none (by omega)]
       rw[←BO];have aC:j<(af++us).length:=(List.getElem?_eq_some_iff.1 ai).1;simp only[List.getElem?_toArray];rw[List.getElem?_append_left aC];exact ai
     ·have ad:=run_append_grow (P:=P) w t o.type e i z hu e1 bO ⟨b,0,none⟩ len cap af xq (λj v ai=>by rw[q0];exact aN j v ai) ⟨a6,zb,none⟩ iz xV us FI q8 (by omega) (by omega)
       (growslice_fits (by omega) (by rw[←TR];exact lY))
      have h3:=grownCap_ge w (len+iz) cap e;refine Hw iY h bh aV (m5 id) au (.inr rfl) (by simp) (λc ah _=>CV w.drew _ c ah) rfl rfl rfl (heap_alloc_new w.drew _) (aB ad) hlen h3 ?_ TU aI (λj v ai=>?_) eP
      ·rw[Array.size_append,Array.size_append,List.size_toArray,List.size_toArray,size_zeroCells,TS,xq,FI,bX,←Nat.add_mul,←Nat.add_mul];exact Nat.mul_le_mul_right _ (by omega)
      ·have aC:j<(af++us).length:=(List.getElem?_eq_some_iff.1 ai).1;rw[Array.getElem?_append_left (by simpa using aC)];simpa using ai
   grind
  grind
 grind
theorem NY(off:Nat):∀(af:List Value)(k:Nat)(cells:Array Value),((af.zipIdx k).foldl (λcs (c,j)=>cs.setIfInBounds (off+j) c) cells).size=cells.size /\
  ∀i,((af.zipIdx k).foldl (λcs (c,j)=>cs.setIfInBounds (off+j) c) cells)[i]?=if off+k<=i/\i<off+k+af.length/\i<cells.size then af[i-(off+k)]? else cells[i]?
 |[],k,cells=>by simp;grind
 |v::af,k,cells=>by
  rw[List.zipIdx_cons,List.foldl_cons];obtain⟨U,ab⟩:=NY off af (k+1) (cells.setIfInBounds (off+k) v);refine⟨by grind,λi=>?_⟩;grind [Array.getElem?_setIfInBounds_ne]
theorem WA(off:Nat)(af cells:Array Value)(h:off+af.size<=cells.size):
  (af.zipIdx.foldl (λcs (c,j)=>cs.setIfInBounds (off+j) c) cells).toList=cells.toList.take off++af.toList++cells.toList.drop (off+af.toList.length):=by
 have aQ:=NY off af.toList 0 cells;have he:af.zipIdx.foldl (λcs (c,j)=>cs.setIfInBounds (off+j) c) cells=(af.toList.zipIdx 0).foldl (λcs (c,j)=>cs.setIfInBounds (off+j) c) cells:=by rw[←Array.foldl_toList];simp
 apply List.ext_getElem?;intro i;by_cases U:i<off
 ·grind
 grind
theorem Ef{place:Nat->Option (Nat×Nat)}:∀(parts:List (Nat×aa))(sJ:List (Nat×Value))(sn cs:List aa)(cells:Array Value),kJ place sn parts=some cs->bl φ w sn cells.toList ->
  parts.map (·.1)=sJ.map (·.1)->bl φ w (parts.map (·.2)) (sJ.map (·.2))->∃af,Instr.fill place cells sJ=some af/\bl φ w cs af.toList
 |[],sJ,sn,cs,cells,h,bO,aX,ai=>by
  have:sJ=[]:=by simp_all
  subst this;injection h with h;subst h;exact⟨cells,rfl,bO⟩
 |(i,p)::parts,sJ,sn,cs,cells,h,bO,aX,ai=>by
  cases sJ with
  |nil=>simp at aX
  |cons q sJ=>
   obtain⟨cm,v⟩:=q;simp  at aX;obtain⟨rfl,aX⟩:=aX;obtain⟨bg,cB,e,ae,e0⟩:=ai;injection e with aK aO;subst aK;subst aO;simp only[kJ]at h;split at h
   ·cases h
   ·rename_i off size cD;split at h
    ·rename_i ah;have BP:=Al ae ah.1;have hlen:p.cells.length=v.cells.size:=by simpa using mg BP
     have rI:sn.length=cells.size:=by simpa using mg bO
     have gN:off+v.cells.size<=cells.size:=by omega
     obtain⟨af,aQ,ad⟩:=Ef parts sJ (fa sn off p.cells) cs _ h (by rw[WA off v.cells cells gN];grind [Mv]) aX e0;grind [Instr.fill]
    ·cases h
theorem C6(φ:bo)(w:World)(l:List Value):bl φ w (l.map jT) l:=by
 induction l with
 |nil=>rfl
 |cons v l az=>exact⟨v,l,rfl,Hu φ w v,az⟩
theorem ye{t:TypeId}{z:List aa}(h:ki P t=some z):∃i fx,P.info? t=some i/\i.zero=some fx/\z=fx.cells.toList.map jT:=by
 unfold ki zeroOf at h;cases aX:P.info? t with
 |none=>grind
 |some i=>
  cases bO:i.zero with
  |none=>grind
  |some fx=>grind
theorem NZ(h:cW φ w N s a)(parts:Array (Nat×Operand)):
  (parts.toList.map λp=>(p.1,s.ay p.2)).map (·.1)=((parts.map λ(i,x)=>(i,a.eval x)).toList).map (·.1) /\
  bl φ w ((parts.toList.map λp=>(p.1,s.ay p.2)).map (·.2)) (((parts.map λ(i,x)=>(i,a.eval x)).toList).map (·.2)):=by
 obtain⟨l⟩:=parts;simp only[List.map_toArray,List.map_map];refine⟨by simp,?_⟩;induction l with
 |nil=>rfl
 |cons p l az=>exact⟨_,_,rfl,h.ay p.2,az⟩
theorem ZT{t:TypeId}{parts:Array (Nat×Operand)}{pv:aa}(h:cW φ w N s a)(hb:sI P t (parts.toList.map λp=>(p.1,s.ay p.2))=some pv):
  ∃v,(Instr.build t (parts.map λ(i,x)=>(i,a.eval x))).run P w=.ok v w/\aY φ w pv v:=by
 obtain⟨oM,lZ⟩:=NZ h parts;unfold sI at hb;split at hb
 ·rename_i fs z hu bO;obtain⟨i,fx,aX,tq,rfl⟩:=ye bO;split at hb
  ·obtain⟨cs,hcs,rfl⟩:=Option.map_eq_some_iff.1 hb;have J6:∀l:List Field,(l.all λf=>(P.info? f.type).isSome)=true->l.mapM (λf=>(P.info? f.type).map λi=>(f.offset,i.size))=some (l.map λf=>(f.offset,P.cellsOf f.type)):=by
    intro l ak;induction l with
    |nil=>rfl
    |cons f l az=>grind [Aa]
   obtain⟨af,aQ,ad⟩:=Ef _ _ _ _ fx.cells hcs (C6 φ w _) oM lZ;refine⟨.agg af,run_build w t _ af ?_,af.toList,by simp,ad⟩;have he:(λx:Nat=>((fs.toList.map λf=>(f.offset,P.cellsOf f.type)).toArray)[x]?)=ya P fs:=by grind [ya]
   grind [Program.built]
  ·cases hb
 ·rename_i dZ e z hu bO;obtain⟨i,fx,aX,tq,rfl⟩:=ye bO;split at hb
  ·rename_i ag6;obtain⟨cs,hcs,rfl⟩:=Option.map_eq_some_iff.1 hb;obtain⟨j,aC,ao,_⟩:=Aa ag6;obtain⟨af,aQ,ad⟩:=Ef _ _ _ _ fx.cells hcs (C6 φ w _) oM lZ;refine⟨.agg af,run_build w t _ af ?_,af.toList,by simp,ad⟩;simp_all[Program.built]
  ·cases hb
 ·cases hb
theorem yf(z:List aa)(k:Nat):(e8 z k).length=k*z.length:=by
 induction k with
 |zero=>simp[e8]
 |succ k az=>grind [e8]
theorem OV(z:List aa):∀(k j:Nat),j<k*z.length->(e8 z k)[j]?=z[j%z.length]?
 |0,j,h=>by simp at h
 |k+1,j,h=>by
  rw[Nat.add_mul,Nat.one_mul]at h;rw[e8];by_cases aC:j<z.length
  ·grind [Nat.mod_eq_of_lt]
  ·have aft:=Nat.mod_eq_sub_mod (a:=j) (b:=z.length) (by omega);rw[List.getElem?_append_right (by omega),OV z k (j-z.length) (by omega),aft]
theorem N0(φ:bo)(w:World)(fx:Array Value)(k:Nat)(bO:0<fx.size){c:Nat}(ah:k<=c):
  bl φ w (e8 (fx.toList.map jT) k) ((madeCells fx (c*fx.size)).toList.take (k*fx.size)):=by
 have hle:k*fx.size<=c*fx.size:=Nat.mul_le_mul_right _ ah;rw[sy];refine⟨by grind [yf,size_madeCells],λj p v aC ai=>?_⟩;have ag7:(fx.toList.map jT).length=fx.size:=by simp
 rw[OV _ _ _ (by grind),ag7]at aC;grind [madeCells,Hu]
theorem Yr{o:Oper}{t e:TypeId}{l c:Operand}{l8 oW:Int}{z:List aa}(ar:o.op=.makeSlice t l c)(h:cW φ w N s a)(bh:cY A φ w s.bb)(aV:∀t,o.dst=some t->t<N)
  (hu:P.underlying t=some (.slice e)) (ak:s.ay l=.int .i64 l8) (ah:s.ay c=.int .i64 oW) (bO:ki P e=some z) (rI:z.length=P.cellsOf e) (eb:0<z.length) (aX:(P.info? e).isSome)
  (aT:0<=l8) (hle:l8<=oW) (TR:oW*P.bytesOf e<=140737488355328) (ag8:oW<=9223372036854775807) (eP:K (s.pc o.dst (P.cellsOf e) l8.toNat (e8 z l8.toNat))):
  o.dE r P a w (Good A N a.defers K) Q:=by
 have iY:∀c,o.op≠.defer c:=λc e=>by grind
 obtain⟨i,fx,e1,tq,rfl⟩:=ye bO;obtain⟨i2,rJ,ao,hb⟩:=Aa aX;have:i2=i:=by grind
 subst this;have aK:a.eval l=.int .i64 l8:=by have:=h.ay l;rw[ak]at this;exact this
 have aO:a.eval c=.int .i64 oW:=by have:=h.ay c;rw[ah]at this;exact this
 have ad:=run_make (P:=P) w t e i2 fx hu e1 tq .i64 .i64 l8 oW aT hle (by grind) ag8;have aB:(execOp a.eval o).run P w=.ok (.value (.slice (some ⟨w.heap.size,0,none⟩) l8.toNat oW.toNat)) (w.alloc (.cells (madeCells fx.cells (oW.toNat*i2.size)) e)):=by simp_all[execOp]
 simp  at rI eb;refine H0 iY h bh aV (jQ.alloc w _) aB (heap_alloc_new w _) ?_ (by omega) ?_ (N0 φ w fx.cells l8.toNat eb (c:=oW.toNat) (by omega)) (λj v ai=>?_) eP;all_goals grind [yf,size_madeCells]
theorem N1{m:Mem}(hm:c0 φ m w){w':World}(aN:jQ w w')(k:kk φ w φ w'):c0 φ m w':=by
 refine⟨λi aX=>?_,hm.dt,λi b h=>?_,hm.jo,hm.hp,hm.sep,Ay aN hm⟩
 ·rcases hm.box i aX with h|⟨b,cur,e',hb,bq,ad⟩
  ·grind
  exact .inr ⟨b,cur,e',hb,(aN.old b (mo hm hb)).trans bq,v7 k ad⟩
 ·obtain⟨U,ab⟩:=hm.arr i b h;exact⟨U,ab.of_eq (aN.old b (jN hm h))⟩
theorem Mg{o:Oper}{t e:TypeId}{len:Nat}{parts:Array (Nat×Operand)}{z cs:List aa}(ar:o.op=.buildSlice t len parts)(h:cW φ w N s a)
  (hu:P.underlying t=some (.slice e)) (bO:ki P e=some z) (aX:(P.info? e).isSome) (rI:z.length=P.cellsOf e) (eb:0<z.length) (Br:len*P.cellsOf e<=16777216)
  (aQ:kJ (λi=>some (i*P.cellsOf e,P.cellsOf e)) (e8 z len) (parts.toList.map λp=>(p.1,s.ay p.2))=some cs):
  ∃af:Array Value,(execOp a.eval o).run P w=.ok (.value (.slice (some ⟨w.heap.size,0,none⟩) len len)) (w.alloc (.cells af e))/\cs.length=len*P.cellsOf e/\af.size=len*P.cellsOf e/\bl φ w cs af.toList:=by
 obtain⟨i,fx,e1,tq,rfl⟩:=ye bO;obtain⟨oM,lZ⟩:=NZ h parts;simp  at rI eb;have hm:=N0 φ w fx.cells len eb (Nat.le_refl len);have BO:(madeCells fx.cells (len*fx.cells.size)).toList.take (len*fx.cells.size)=(madeCells fx.cells (len*fx.cells.size)).toList:=List.take_of_length_le (by simp[size_madeCells]);rw[BO]at hm;obtain⟨af,xr,ad⟩:=Ef _ _ _ _ _ aQ hm oM lZ;have bX:(sizeOf e).run P w=.ok fx.cells.size w:=by grind [run_sizeOf]
 have iu:cs.length=len*P.cellsOf e:=by
  have hlen:∀(pl:Nat->Option (Nat×Nat))(a7:List (Nat×aa))(sn out:List aa),kJ pl sn a7=some out->out.length=sn.length:=by
   intro pl a7;induction a7 with
   |nil=>grind [kJ]
   |cons q a7 az=>grind [kJ,fa]
  grind [yf]
 have xq:af.size=len*P.cellsOf e:=by rw[←iu];simpa using(mg ad).symm
 obtain⟨pp,rK⟩:∃pp,pp=(parts.map λ(i,x)=>(i,a.eval x)):=⟨_,rfl⟩;rw[←rK]at xr;have gZ:(madeCells fx.cells (len*fx.cells.size))=(Array.range (len*fx.cells.size)).map (fx.cells[·%fx.cells.size]!):=rfl;rw[gZ,←rI]at xr;have aB:(execOp a.eval o).run P w=.ok (.value (.slice (some ⟨w.heap.size,0,none⟩) len len)) (w.alloc (.cells af e)):=by
  simp only[execOp,ar,Instr.buildSlice,Sem.run_bind,run_underlying hu,Result.andThen_ok,bX];rw[←rK,if_neg (by grind)];by_cases n9:len=0
  ·simp_all[Array.range_zero',newRow]
  ·have bU:¬(len*fx.cells.size=0):=by grind [Nat.mul_eq_zero]
   simp only[bU,if_false,zeroValue,typeInfo,Sem.run_bind,run_program,Result.andThen_ok,e1,tq,Sem.run_pure,xr];rfl
 grind
theorem VA{o:Oper}{t e:TypeId}{len:Nat}{parts:Array (Nat×Operand)}{z cs:List aa}(ar:o.op=.buildSlice t len parts)(h:cW φ w N s a)(bh:cY A φ w s.bb)(aV:∀t,o.dst=some t->t<N)
  (hu:P.underlying t=some (.slice e)) (bO:ki P e=some z) (aX:(P.info? e).isSome) (rI:z.length=P.cellsOf e) (eb:0<z.length) (Br:len*P.cellsOf e<=16777216)
  (aQ:kJ (λi=>some (i*P.cellsOf e,P.cellsOf e)) (e8 z len) (parts.toList.map λp=>(p.1,s.ay p.2))=some cs) (eP:K (s.pc o.dst (P.cellsOf e) len cs)):
  o.dE r P a w (Good A N a.defers K) Q:=by
 grind [Mg,H0,jQ.alloc,heap_alloc_new]
theorem N3{o:Oper}{t e:TypeId}{len:Nat}{parts:Array (Nat×Operand)}{z cs:List aa}(ar:o.op=.buildSlice t len parts)(h:cW φ w N s a)(bh:cY A φ w s.bb)(aV:∀t,o.dst=some t->t<N)
  (hu:P.underlying t=some (.slice e)) (bO:ki P e=some z) (aX:(P.info? e).isSome) (rI:z.length=P.cellsOf e) (eb:0<z.length) (Br:len*P.cellsOf e<=16777216)
  (aQ:kJ (λi=>some (i*P.cellsOf e,P.cellsOf e)) (e8 z len) (parts.toList.map λp=>(p.1,s.ay p.2))=some cs) (eP:K (s.dz o.dst (P.cellsOf e) len cs)):
  o.dE r P a w (Good A N a.defers K) Q:=by
 have iY:∀c,o.op≠.defer c:=λc e=>by rw[ar]at e;cases e
 obtain⟨af,aB,iu,xq,ad⟩:=Mg ar h hu bO aX rI eb Br aQ;exact SA (cs:=af.toList) iY h bh aV aB (Nat.le_refl _) ad eP
theorem Mh{o:Oper}{t e:TypeId}{len:Nat}{parts:Array (Nat×Operand)}{z cs:List aa}(ar:o.op=.buildSlice t len parts)(h:cW φ w N s a)(bh:cY A φ w s.bb)(aV:∀t,o.dst=some t->t<N)
  (hu:P.underlying t=some (.slice e)) (bO:ki P e=some z) (aX:(P.info? e).isSome) (rI:z.length=P.cellsOf e) (eb:0<z.length) (Br:len*P.cellsOf e<=16777216)
  (aQ:kJ (λi=>some (i*P.cellsOf e,P.cellsOf e)) (e8 z len) (parts.toList.map λp=>(p.1,s.ay p.2))=some cs) (eP:K (s.put o.dst (.sl none (P.cellsOf e) 0 len cs))):
  o.dE r P a w (Good A N a.defers K) Q:=by
 obtain⟨af,aB,iu,xq,ad⟩:=Mg ar h hu bO aX rI eb Br aQ;refine o0 (λc e=>by grind) ?_;rw[aB];have aN:=jQ.alloc w (.cells af e);have k:kk φ w φ (w.alloc (.cells af e)):=yg aN h.mem (λ_ _ h=>h) (λ_ _ h=>h) (λ_ h=>.inl h);have fu:¬φ.own w.heap.size:=λar=>by
  rcases ar with⟨i,aX⟩|⟨i,aX⟩
  ·exact absurd (mo h.mem aX) (by omega)
  ·exact absurd (jN h.mem aX) (by omega)
 have gM:=heap_alloc_new w (.cells af e);refine⟨_,φ,?_,?_,put_defers _ _ _,eP⟩
 ·have U:cW φ (w.alloc (.cells af e)) N s a:=⟨λt=>aY.keeps k _ _ (h.tmp t),h.size,N1 h.mem aN k⟩;refine U.put aV ⟨iu,_,len,rfl,Nat.le_refl _,.inr ⟨w.heap.size,rfl,⟨fu,by simp⟩,sA λj p aC=>?_⟩⟩;grind [o1,World.cell?,aY.keeps]
 ·rw[aA.uA];have:=bh.trans (x9 aN k);grind
end
end
section
open Go Go.RowKit
variable[cQ]
open Go.ChangeMaps (setBlock)
theorem Rv:∀{p q:aa}{v:Value},pr p=some v->pr q=some v->p=q
 |.int k a,.int bB b,v,U,ab=>by
  simp only[pr,Option.some.injEq]at U ab;subst U;injection ab with aK aO;rw[aK,aO]
 |.bool a,.bool b,v,U,ab=>by
  simp only[pr,Option.some.injEq]at U ab;subst U;injection ab with aK;rw[aK]
 |.int _ _,.bool _,v,U,ab=>by
  simp only[pr,Option.some.injEq]at U ab;subst U;cases ab
 |.bool _,.int _ _,v,U,ab=>by
  simp only[pr,Option.some.injEq]at U ab;subst U;cases ab
 |.int _ _,.str _,_,_,ab | .int _ _,.undef,_,_,ab | .int _ _,.bad,_,_,ab | .int _ _,.ca,_,_,ab | .int _ _,.eL,_,_,ab | .int _ _,.bC,_,_,ab | .int _ _,.dead _,_,_,ab | .int _ _,.cq _,_,_,ab
 |.int _ _,.ptr _ _,_,_,ab | .int _ _,.sl _ _ _ _ _,_,_,ab | .int _ _,.bJ _ _ _,_,_,ab | .int _ _,.fn _ _,_,_,ab | .int _ _,.agg _,_,_,ab | .int _ _,.bD _,_,_,ab | .int _ _,.mp _ _ _ _,_,_,ab
 |.bool _,.str _,_,_,ab | .bool _,.undef,_,_,ab | .bool _,.bad,_,_,ab | .bool _,.ca,_,_,ab | .bool _,.eL,_,_,ab | .bool _,.bC,_,_,ab | .bool _,.dead _,_,_,ab | .bool _,.cq _,_,_,ab
 |.bool _,.ptr _ _,_,_,ab | .bool _,.sl _ _ _ _ _,_,_,ab | .bool _,.bJ _ _ _,_,_,ab | .bool _,.fn _ _,_,_,ab | .bool _,.agg _,_,_,ab | .bool _,.bD _,_,_,ab | .bool _,.mp _ _ _ _,_,_,ab=>by cases ab
 |.str _,_,_,U,_ | .undef,_,_,U,_ | .bad,_,_,U,_ | .ca,_,_,U,_ | .eL,_,_,U,_ | .bC,_,_,U,_ | .dead _,_,_,U,_ | .cq _,_,_,U,_ | .ptr _ _,_,_,U,_ | .aV _ _ _,_,_,U,_ | .sl _ _ _ _ _,_,_,U,_
 |.bJ _ _ _,_,_,U,_ | .fn _ _,_,_,U,_ | .agg _,_,_,U,_ | .bD _,_,_,U,_ | .mp _ _ _ _,_,_,U,_=>by cases U
theorem zu:∀{p q:List aa}{v:List Value},lN p=some v->lN q=some v->p=q
 |[],[],_,_,_=>rfl
 |[],q::bz,v,U,ab=>by grind [lN]
 |p::a7,[],v,U,ab=>by grind [lN]
 |p::a7,q::bz,v,U,ab=>by
  simp only[lN]at U ab;split at U
  ·rename_i a b au hb;split at ab
   ·rename_i c d ah aV;injection U with U;injection ab with ab;rw[←U]at ab;injection ab with aK aO;subst aK;subst aO;rw[Rv au ah,zu hb aV]
   ·cases ab
  ·cases U
theorem Pm{p q:List aa}{v:Value}(U:jM p=some v)(ab:jM q=some v):p=q:=by grind [jM,Option.map_eq_some_iff,zu]
theorem SG:∀{p q:aa},FH p q=true->p=q:=by
 intro p q h;unfold FH at h;grind
theorem Co:∀{p q:List aa},w9 p q=true->p=q
 |[],[],_=>rfl
 |[],_::_,h=>by cases h
 |_::_,[],h=>by cases h
 |p::a7,q::bz,h=>by
  simp[w9]at h;rw[SG h.1,Co h.2]
theorem zx:∀{p:List aa}{v:List Value},lN p=some v->w9 p p=true
 |[],_,_=>rfl
 |p::a7,v,h=>by
  simp only[lN]at h;split at h
  ·rename_i a b au hb;simp[w9];refine⟨?_,zx hb⟩;cases p<;>simp[pr]at au<;>simp[FH]
  ·cases h
theorem OW{p:List aa}{v:Value}(h:jM p=some v):w9 p p=true:=by grind [jM,Option.map_eq_some_iff,zx]
theorem pI{sz:Nat}:∀{es:List MapEntry}{cs:List aa},lQ sz cs es->cs.length=es.length*sz
 |[],cs,h=>by grind [lQ]
 |e::es,cs,h=>by
  obtain⟨k,r,rfl,aq,_,ad⟩:=h;simp only[List.length_append,List.length_cons,pI ad,aq,Nat.add_mul];omega
theorem m8{sz:Nat}:∀{es:List MapEntry}{cs:List aa},lQ sz cs es->∀(i:Nat) e,es[i]?=some e->jM (chunk sz cs i)=some e.key
 |[],_,_,i,e,h=>by simp at h
 |x::es,cs,h,i,e,he=>by
  obtain⟨k,r,rfl,aq,ai,ad⟩:=h;cases i with
  |zero=>grind [chunk]
  |succ i=>
   have:=m8 ad i e (by grind);simp only[chunk]at this⊢;rw[show(i+1)*sz=k.length+i*sz by grind,←List.drop_drop,List.drop_left' rfl];exact this
theorem zH{sz:Nat}{k:List aa}{x:MapEntry}(aq:k.length=sz)(ai:jM k=some x.key):∀{es:List MapEntry}{cs:List aa},lQ sz cs es->lQ sz (cs++k) (es++[x])
 |[],cs,h=>by grind [lQ]
 |e::es,cs,h=>by
  obtain⟨oq,r,rfl,U,ab,al⟩:=h;exact⟨oq,r++k,by simp,U,ab,zH aq ai al⟩
theorem zI{sz:Nat}:∀{es ec:List MapEntry}{cs:List aa},lQ sz cs es->ec.map (·.key)=es.map (·.key)->lQ sz cs ec
 |[],ec,cs,h,he=>by simp_all
 |e::es,[],cs,h,he=>by simp at he
 |e::es,e'::ec,cs,h,he=>by
  simp  at he;obtain⟨oq,r,rfl,U,ab,al⟩:=h;exact⟨oq,r,rfl,U,by grind,zI al he.2⟩
theorem wu{sz:Nat}:∀{es:List MapEntry}{cs:List aa}(i:Nat),lQ sz cs es->i<es.length->lQ sz (hL sz cs i) (es.eraseIdx i)
 |[],cs,i,_,aX=>by simp at aX
 |e::es,cs,0,h,_=>by
  obtain⟨oq,r,rfl,U,ab,al⟩:=h;grind [hL]
 |e::es,cs,i+1,h,aX=>by
  obtain⟨oq,r,rfl,U,ab,al⟩:=h;have:=wu i al (by grind);have aK:hL sz (oq++r) (i+1)=oq++hL sz r i:=by grind [hL,Nat.add_mul,List.drop_drop]
  rw[aK];exact⟨oq,_,rfl,U,ab,this⟩
theorem wj{α:Type}[DecidableEq α](f:MapEntry->α):∀{l:List MapEntry}{j:Nat}{e:MapEntry},(l.map f).Nodup->l[j]?=some e->l.filter (λx=>decide (f x≠f e))=l.eraseIdx j
 |[],j,e,_,h=>by simp at h
 |x::l,0,e,aI,h=>by simp_all
 |x::l,j+1,e,aI,h=>by
  simp  at aI;have he:l[j]?=some e:=by grind
  rw[List.filter_cons_of_pos (by grind),wj f aI.2 he];rfl
theorem Qt{es:Array MapEntry}{seen:Array Nat}(aI:(es.toList.map (·.born)).Nodup){j:Nat}{e:MapEntry}(h:(leftOf es seen).toList[j]?=some e):(leftOf es (seen.push e.born)).toList=(leftOf es seen).toList.eraseIdx j:=by
 have ao:((leftOf es seen).toList.map (·.born)).Nodup:=by grind [leftOf]
 rw[←wj (·.born) ao h];simp_all[leftOf,Bool.and_comm]
section
variable{P:Program}{φ:bo}{w:World}{A:Anchor}{N n:Nat}{s:aA}{a:Act}{K:aA->Prop}{Q:Exit->Act->World->Prop}{r:Option Nat}{m:Mem}
theorem S7(hm:c0 φ m w){w':World}(aN:jQ w w')(gM:kz w' w.heap.size):
  kk φ w (φ.fD m.an w.heap.size) w'/\c0 (φ.fD m.an w.heap.size) ⟨m.β,m.n,m.an+1,m.rc⟩ w':=by
 have hold:∀i b,φ.arr i=some b->i≠m.an:=λi b h e=>by have:=(hm.arr i b h).1;omega
 have k:kk φ w (φ.fD m.an w.heap.size) w':=by
  refine yg aN hm (λi b h=>h) (λi b h=>?_) (λb h=>C5 h);grind [bo.fD]
 refine⟨k,⟨λi aX=>?_,λi aX=>hm.dt i aX,λi b h=>?_,λi j b U ab=>hm.jo i j b U ab,λi j b U ab=>?_,λi j b U ab=>?_,Ay (m:=m) aN hm⟩⟩
 ·rcases hm.box i aX with h|⟨b,cur,e',hb,bq,ad⟩
  ·exact .inl h
  exact .inr ⟨b,cur,e',hb,(aN.old b (mo hm hb)).trans bq,v7 k ad⟩
 ·simp only[bo.fD]at h;split at h
  ·grind
  ·obtain⟨U,ab⟩:=hm.arr i b h;exact⟨by grind,ab.of_eq (aN.old b (jN hm h))⟩
 ·simp only[bo.fD]at U ab;split at U<;>split at ab
  ·omega
  ·have hb:=Option.some.inj U;exact absurd (jN hm ab) (by omega)
  ·have hb:=Option.some.inj ab;exact absurd (jN hm U) (by omega)
  ·exact hm.hp i j b U ab
 ·simp only[bo.fD]at ab;split at ab
  ·have hb:=Option.some.inj ab;exact absurd (mo hm U) (by omega)
  ·exact hm.sep i j b U ab
theorem Cp{o:Oper}(ar:∀c,o.op≠.defer c)(h:cW φ w N s a)(bh:cY A φ w s.bb)(aV:∀t,o.dst=some t->t<N){ob:Obj}{v:Value}{it:Bool}{sz:Nat}{cs:List aa}
  (ad:(execOp a.eval o).run P w=.ok (.value v) (w.alloc ob)) (gM:kz (w.alloc ob) w.heap.size) (ai:wM (φ.fD s.m.an w.heap.size) (w.alloc ob) it (some s.m.an) sz cs v)
  (eP:K (s.qa o.dst it sz cs)):o.dE r P a w (Good A N a.defers K) Q:=by
 refine o0 ar ?_;rw[ad];have aN:=jQ.alloc w ob;obtain⟨k,hm⟩:=S7 h.mem aN gM;refine⟨s.qa o.dst it sz cs,φ.fD s.m.an w.heap.size,?_,?_,put_defers _ _ _,eP⟩
 ·have U:cW (φ.fD s.m.an w.heap.size) (w.alloc ob) N { s with m:=⟨s.m.β,s.m.n,s.m.an+1,s.m.rc⟩ } a:=⟨λt=>aY.keeps k _ _ (h.tmp t),h.size,hm⟩;exact U.put aV (pv:=.mp it (some s.m.an) sz cs) (by assumption)
 ·have e:(s.qa o.dst it sz cs).bb=s.bb:=by simp[aA.qa]
  have:=bh.trans (x9 aN k);grind
structure gS(j b sz:Nat)(cs:List aa)(φ:bo)(w w':World):Prop where
 arr:φ.arr j=some b
 inj:∀i,φ.arr i=some b->i=j
 size:w.heap.size<=w'.heap.size
 others:∀k,k≠b->k<w.heap.size->w'.heap[k]?=w.heap[k]?
 Tu:∀cur e f,w.heap[b]?≠some (.cells cur e f)
 new:∀it gD v,wM φ w it (some j) sz gD v->wM φ w' it (some j) sz cs v
section
variable{w':World}{j b sz:Nat}{cs:List aa}
theorem gS.other(k:gS j b sz cs φ w w'){c:Nat}{o:Obj}(ar:¬φ.own c)(h:w.heap[c]?=some o):w'.heap[c]?=some o:=
 (k.others c (λe=>ar (.inr ⟨j,by rw[e];exact k.arr⟩)) (jK h)).trans h
theorem pf(k:gS j b sz cs φ w w'){id:Option Nat}{a6 iL off cap:Nat}(h:place φ w id a6 iL off cap):place φ w' id a6 iL off cap/\a6≠b/\id≠some j:=by
 cases id with
 |none=>exact⟨⟨h.1,Nat.lt_of_lt_of_le h.2 k.size⟩,λe=>h.1 (.inr ⟨j,by rw[e];exact k.arr⟩),by simp⟩
 |some i=>
  obtain⟨au,cur,e,hb,ah⟩:=h;have dL:i≠j:=by
   rintro rfl;have:a6=b:=by have:=au.symm.trans k.arr;grind
   subst this;exact k.Tu _ _ _ hb
  have bU:a6≠b:=λe=>dL (k.inj i (by grind));exact⟨⟨au,cur,e,(k.others a6 bU (jK hb)).trans hb,ah⟩,bU,by grind⟩
theorem SB{i kg off len:Nat}{e:b9}{gD:List aa}(h:i≠e.id):aa.bW e (.sl (some i) kg off len gD)=.sl (some i) kg off len (eF e gD):=by cases e<;>simp only[aa.bW,b9.id]at h⊢<;>rw[if_neg h]
theorem Qu{i off:Nat}{e:b9}{gD:List aa}(h:i≠e.id):aa.bW e (.bJ (some i) off gD)=.bJ (some i) off (eF e gD):=by cases e<;>simp only[aa.bW,b9.id]at h⊢<;>rw[if_neg h]
mutual
theorem aY.dT(k:gS j b sz cs φ w w'):∀(q:aa)(u:Value),aY φ w q u->aY φ w' (q.bW (.wr j sz (.agg cs))) u
 |.int _ _,u,h=>by simpa only[aY,aa.bW]using h
 |.bool _,u,h=>by simpa only[aY,aa.bW]using h
 |.str _,u,h=>by simpa only[aY,aa.bW]using h
 |.undef,u,h=>by simpa only[aY,aa.bW]using h
 |.bad,u,h=>by simp only[aY,aa.bW]
 |.ca,u,h=>by simpa only[aY,aa.bW]using h
 |.eL,u,h=>by simpa only[aY,aa.bW]using h
 |.bC,u,h=>by simpa only[aY,aa.bW]using h
 |.dead _,u,h | .cq _,u,h=>by simpa only[aY,aa.bW]using h
 |.ptr _ _,u,h=>by simpa only[aY,aa.bW]using h
 |.aV _ _ _,u,h=>by simpa only[aY,aa.bW]using h
 |.sl none kg off len gD,u,h=>by
  simp only[aY,aa.bW,vT]at h⊢;obtain⟨ak,a,cap,ai,ah,h⟩:=h;refine⟨ak,a,cap,ai,ah,?_⟩;rcases h with h|⟨a6,au,ae,ad⟩
  ·exact .inl h
  ·obtain⟨p5,aI,_⟩:=pf k ae;exact .inr ⟨a6,au,p5,b7.dT k a6 aI gD off ad⟩
 |.sl (some i) kg off len gD,u,h=>by
  simp only[aY]at h;obtain⟨ak,a,cap,ai,ah,h⟩:=h;rcases h with h|⟨a6,au,ae,ad⟩
  ·exact absurd h.1 (by simp)
  ·obtain⟨p5,aI,ao⟩:=pf k ae;rw[SB (λe=>ao (by rw[e];rfl))];simp only[aY,vT];exact⟨ak,a,cap,ai,ah,.inr ⟨a6,au,p5,b7.dT k a6 aI gD off ad⟩⟩
 |.bJ none off gD,u,h=>by
  simp only[aY,aa.bW]at h⊢;obtain⟨a6,ai,ae,ad⟩:=h;obtain⟨p5,aI,_⟩:=pf k ae;exact⟨a6,ai,p5,b7.dT k a6 aI gD off ad⟩
 |.bJ (some i) off gD,u,h=>by
  simp only[aY]at h;obtain⟨a6,ai,ae,ad⟩:=h;obtain⟨p5,aI,ao⟩:=pf k ae;rw[Qu (λe=>ao (by rw[e];rfl))];simp only[aY];exact⟨a6,ai,p5,b7.dT k a6 aI gD off ad⟩
 |.fn f bf,u,h=>by
  simp only[aY,aa.bW]at h⊢;obtain⟨af,ai,ad⟩:=h;exact⟨af,ai,bl.dT k bf af ad⟩
 |.agg gD,u,h=>by
  simp only[aY,aa.bW]at h⊢;obtain⟨af,ai,ad⟩:=h;exact⟨af,ai,bl.dT k gD af ad⟩
 |.bD gD,u,h=>by
  simp only[aY,aa.bW]at h⊢;obtain⟨af,ai,ad⟩:=h;exact⟨af,ai,bl.dT k gD af ad⟩
 |.mp it none kg gD,u,h=>by
  simp only[aY,aa.bW]at h⊢;exact h.move (λc o ae hb _ _ _=>⟨ae,k.other ae hb⟩) λc o ae hb _ _ _=>⟨ae,k.other ae hb⟩
 |.mp it (some i) kg gD,u,h=>by
  by_cases dL:i=j
  ·subst dL;simp only[aa.bW,if_true];split
   ·rename_i ao;subst ao;simp only[aY]at h⊢;exact k.new _ _ _ h
   ·simp only[aY]
  ·simp only[aa.bW,dL,if_false];simp only[aY]at h⊢;exact h.move (λc o ae hb _ _ _=>⟨ae,(k.others c (λe=>dL (k.inj i (by rw[←e];exact ae))) (jK hb)).trans hb⟩) λc o ae hb _ _ _=>⟨ae,k.other ae hb⟩
theorem bl.dT(k:gS j b sz cs φ w w'):∀(a7:List aa)(af:List Value),bl φ w a7 af->bl φ w' (eF (.wr j sz (.agg cs)) a7) af
 |[],af,h=>by simp only[bl,eF]at h⊢;exact h
 |q::a7,af,h=>by
  simp only[bl,eF]at h⊢;obtain⟨u,cB,e,aT,U⟩:=h;exact⟨u,cB,e,aY.dT k q u aT,bl.dT k a7 cB U⟩
theorem b7.dT(k:gS j b sz cs φ w w')(a6:Nat)(hb:a6≠b):∀(a7:List aa)(off:Nat),b7 φ w a6 a7 off->b7 φ w' a6 (eF (.wr j sz (.agg cs)) a7) off
 |[],_,_=>by simp only[b7,eF]
 |p::a7,off,h=>by
  simp only[b7,eF]at h⊢;obtain⟨⟨c,ah,aT⟩,U⟩:=h;exact⟨⟨c,(AQ (k.others a6 hb (PX ah))).trans ah,aY.dT k p c aT⟩,b7.dT k a6 hb a7 (off+1) U⟩
end
theorem Qw(k:gS j b sz cs φ w w')(tp:w'.os=w.os)(KH:w'.tape=w.tape)(BN:w'.output=w.output):Step φ w φ w' [.wr j sz (.agg cs)]:=
 ⟨λq c h=>aY.dT k q c h,tp,BN,k.size,λc ah fu _=>⟨k.others c (λe=>fu (.inr ⟨j,by rw[e];exact k.arr⟩)) ah,fu⟩⟩
theorem Qx(k:gS j b sz cs φ w w')(hm:c0 φ m w)(KJ:kz w' b):c0 φ { m with β:=λi=>(m.β i).sub [.wr j sz (.agg cs)] } w':=by
 refine⟨λi aX=>?_,hm.dt,λi c ah=>?_,hm.jo,hm.hp,hm.sep,λl o h=>(k.others l (λe=>by have:=hm.gw l o h;rw[e]at this;exact(hm.arr j b k.arr).2.Q5 _ this) (jK (hm.gw l o h))).trans (hm.gw l o h)⟩
 ·rcases hm.box i aX with⟨g1,g2⟩|⟨c,cur,e,ah,bq,ad⟩
  ·grind [H2]
  exact .inr ⟨c,cur,e,ah,(k.others c (λe=>hm.sep i j c ah (by rw[e];exact k.arr)) (mo hm ah)).trans bq,Iy (λq c h=>aY.dT k q c h) ad⟩
 ·obtain⟨U,ab⟩:=hm.arr i c ah;by_cases tn:c=b
  ·grind
  ·exact⟨U,ab.of_eq (k.others c tn (jN hm ah))⟩
end
theorem BB{o:Oper}(ar:∀c,o.op≠.defer c)(h:cW φ w N s a)(bh:cY A φ w s.bb)(aV:∀t,o.dst=some t->t<N)(m5:∀e φ w,cY A φ w (s.bb++[e])->cY A φ w (gV s.a0.a s.bb [e]))
  {w':World} {id b:Nat} {sz:Nat} {cs:List aa} (k:gS id b sz cs φ w w') (tp:w'.os=w.os) (KH:w'.tape=w.tape) (BN:w'.output=w.output) (KJ:kz w' b) {res:Next}
  (ad:(execOp a.eval o).run P w=.ok res w') (gO:(res=.skip/\o.dst=none/\K (s.q6 id sz cs))\/∃v pv,res=.value v/\aY φ w' pv v/\K ((s.q6 id sz cs).put o.dst pv)):
  o.dE r P a w (Good A N a.defers K) Q:=by
 refine o0 ar ?_;rw[ad];have U:cW φ w' N (s.q6 id sz cs) a:=⟨λt=>aY.dT k _ _ (h.tmp t),h.size,Qx k h.mem KJ⟩;have aW:cY A φ w' (s.q6 id sz cs).bb:=m5 _ _ _ (bh.trans (Qw k tp KH BN));rcases gO with⟨rfl,nX,eP⟩|⟨v,pv,rfl,ai,eP⟩
 ·show Good A N a.defers K (a.put o.dst undef) w';rw[nX];exact⟨_,_,U,aW,rfl,eP⟩
 ·exact⟨_,_,U.put aV ai,by simp_all,put_defers _ _ _,eP⟩
theorem SC{cR:TypeId}{sz:Nat}{cs:List aa}(h:AR P cR sz cs=true)(bX:0<sz){es:List MapEntry}(aq:lQ sz cs es):∀e∈es,∃l,keyOf P cR e.key=some l:=by
 intro e he;obtain⟨j,aC,rfl⟩:=List.getElem_of_mem he;have ak:=pI aq;have ah:=m8 aq j es[j] (by simp);have:=List.all_eq_true.1 h j (by simp_all);grind [uL,Option.isSome_iff_exists]
theorem Pn{t cR e:TypeId}{key x:Value}{b:Nat}{es:Array MapEntry}{eS sz:Nat}{cs k:List aa}(a1:P.underlying t=some (.map cR e))(oj:Maps.Keyed P cR)(bX:0<sz)(vl:k.length=sz)
  (aQ:AR P cR sz cs=true) (rL:uL P cR k=true) (hb:w.heap[b]?=some (.map es eS)) (eK:Ee es eS) (aq:lQ sz cs es.toList) (sX:jM k=some key):
  ∃ec n4,(Instr.mapUpdate t (.map (some b)) key x).run P w=.ok () (setBlock w b (.map ec n4))/\Ee ec n4/\lQ sz (m4 sz cs k) ec.toList:=by
 have hf:=SC aQ bX aq;obtain⟨lx,BR⟩:∃l,keyOf P cR key=some l:=by grind [uL,Option.isSome_iff_exists]
 have ah:=oj.check w false BR;have hlen:=pI aq;have El:cs.length/sz=es.toList.length:=by simp_all
 rcases oj.find w BR es.toList hf with⟨U,ab⟩|⟨j,gH,U,ab,al⟩
 ·refine⟨es.push { key,val:=x,born:=eS },eS+1,?_,⟨λy aF=>?_,?_⟩,?_⟩
  ·simp[Instr.mapUpdate,run_underlying a1,MapKept.run_getObj_map hb,ah,U,MapKept.run_setObj_map _ hb,Result.andThen,setBlock]
  ·simp only[Array.toList_push,List.mem_append,List.mem_singleton]at aF;rcases aF with aF|rfl
   ·have:=eK.1 y aF;omega
   ·simp
  ·simp ;rw[List.nodup_append];refine⟨eK.2,by simp,λy aF z bO e=>?_⟩;simp only[List.mem_singleton]at bO;obtain⟨mK,vm,rfl⟩:=List.mem_map.1 aF;have:=eK.1 mK vm;omega
  ·have fu:J5 sz cs k=false:=by
    rw[Bool.eq_false_iff];intro bq;obtain⟨i,aX,rJ⟩:=List.any_eq_true.1 bq;have oN:i<es.toList.length:=by grind
    have tt:=m8 aq i es.toList[i] (by simp);grind [Co]
   grind [m4,zH]
 ·have ha:es[j]?=some gH:=by grind
  refine⟨es.modify j λe=>{ e with key:=key,val:=x },eS,?_,?_,?_⟩
  ·have ao:=oj.stays w BR;simp[Instr.mapUpdate,run_underlying a1,MapKept.run_getObj_map hb,ah,U,ha,al,ao,MapKept.run_setObj_map _ hb,Result.andThen,setBlock]
  ·have dB:(es.modify j λe=>{ e with key:=key,val:=x }).toList.map (·.born)=es.toList.map (·.born):=by
    apply List.ext_getElem?;grind
   refine⟨λy aF=>?_,by rw[dB];exact eK.2⟩;have:y.born∈es.toList.map (·.born):=by grind
   obtain⟨mK,vm,e⟩:=List.mem_map.1 this;rw[←e];exact eK.1 mK vm
  ·have Vh:J5 sz cs k=true:=by
    refine List.any_eq_true.2 ⟨j,by grind,?_⟩;grind [m8,Pm,OW]
   simp only[m4,Vh,if_true];refine zI aq ?_;apply List.ext_getElem?;grind
theorem Qy{p:aa}{v:Value}(h:pr p=some v):aY φ w p v:=by cases p<;>simp[pr]at h<;>(grind [aY])
theorem wI:∀{l:List aa}{af:List Value},lN l=some af->bl φ w l af
 |[],af,h=>by grind [lN,bl]
 |p::l,af,h=>by
  simp only[lN]at h;split at h
  ·rename_i a b au hb;injection h with h;subst h;exact⟨a,b,rfl,Qy au,wI hb⟩
  ·cases h
theorem wq{l:List aa}{v:Value}(h:jM l=some v):aY φ w (.agg l) v:=by
 obtain⟨af,U,rfl⟩:=Option.map_eq_some_iff.1 h;exact⟨af,rfl,wI U⟩
theorem Rw{p:aa}{u v:Value}(h:pr p=some v)(ad:aY φ w p u):u=v:=by cases p<;>simp[pr]at h<;>(grind [aY])
theorem z6:∀{l:List aa}{us af:List Value},lN l=some af->bl φ w l us->us=af
 |[],us,af,h,ad=>by grind [lN,bl]
 |p::l,us,af,h,ad=>by
  simp only[lN]at h;obtain⟨u,us',rfl,aT,U⟩:=ad;split at h
  ·rename_i a b au hb;injection h with h;subst h;rw[Rw au aT,z6 hb U]
  ·cases h
theorem Po{l:List aa}{u v:Value}(h:jM l=some v)(ad:aY φ w (.agg l) u):u=v:=by
 obtain⟨af,U,rfl⟩:=Option.map_eq_some_iff.1 h;obtain⟨us,rfl,ab⟩:=ad;rw[z6 U ab]
theorem oX{b:Nat}{o o':Obj}(h:w.heap[b]?=some o):(setBlock w b o').heap[b]?=some o':=by grind [setBlock]
theorem qV{b c:Nat}{o':Obj}(h:c≠b):(setBlock w b o').heap[c]?=w.heap[c]?:=by grind [setBlock]
theorem vX{b:Nat}{o':Obj}:(setBlock w b o').heap.size=w.heap.size:=by simp[setBlock]
theorem Ol{o:Oper}{t cR e:TypeId}(aE:o.op=.makeMap t none)(h:cW φ w N s a)(bh:cY A φ w s.bb)(aV:∀t,o.dst=some t->t<N)(hu:P.underlying t=some (.map cR e))(eP:K (s.qa o.dst false (P.cellsOf cR) [])):
  o.dE r P a w (Good A N a.defers K) Q:=by
 have gM:=heap_alloc_new w (.map #[] 0);refine Cp (λc e=>by grind) h bh aV (it:=false) (sz:=P.cellsOf cR) (cs:=[]) (ob:=.map #[] 0) (v:=.map (some w.heap.size)) ?_ (.inr (.inl ⟨_,_,gM⟩)) ⟨w.heap.size,rfl,by simp[o9,bo.fD],#[],0,gM,⟨by simp,by simp⟩,rfl⟩ eP;simp[execOp,aE,Instr.makeMap]
theorem Pp{o:Oper}{t cR e:TypeId}{x:Operand}{sz:Nat}{cs:List aa}(aE:o.op=.range t x)(h:cW φ w N s a)(bh:cY A φ w s.bb)(aV:∀t,o.dst=some t->t<N)(hu:P.underlying t=some (.map cR e))
  (aj:s.ay x=.mp false none sz cs) (bX:0<sz) (eP:K (s.qa o.dst true sz (e8 [.ca] sz++cs))):o.dE r P a w (Good A N a.defers K) Q:=by
 have ai:=h.ay x;rw[aj]at ai;obtain⟨ky,ai,ae,es,eS,hb,eK,aq⟩:=ai;have gM:=heap_alloc_new w (.mapIter (some ky) eS #[] eS);have Xk:=jK hb;have Y1:leftOf es #[]=es:=by unfold leftOf;simp
 refine Cp (λc e=>by grind) h bh aV (it:=true) (sz:=sz) (cs:=e8 [.ca] sz++cs) (ob:=.mapIter (some ky) eS #[] eS) (v:=.pointer (some ⟨w.heap.size,0,none⟩)) ?_ (.inr (.inr ⟨_,_,_,_,gM⟩))
  ⟨w.heap.size,rfl,by simp[o9,bo.fD],ky,eS,#[],es,gM,λar=>?_,(CV w _ ky Xk).trans hb,eK,_,cs,rfl,?_,by grind,.inl ⟨rfl,?_⟩⟩ eP
 ·have fR:a.eval x=.map (some ky):=ai;simp[execOp,aE,fR,Instr.range,run_underlying hu,MapKept.run_getObj_map hb,Result.andThen]
 ·rcases C5 ar with k|k
  ·exact ae k
  ·omega
 ·have:∀n,(e8 [aa.ca] n).length=n:=λn=>by induction n with|zero=>rfl|succ n az=>simp[e8,az]
  grind
 ·obtain⟨m,rfl⟩:∃m,sz=m+1:=⟨sz-1,by omega⟩;rfl
theorem PS{o:Oper}{x:Operand}{id sz:Nat}{cs:List aa}(aE:o.op=.entry x)(h:cW φ w N s a)(bh:cY A φ w s.bb)(aV:∀t,o.dst=some t->t<N)
  (aj:s.ay x=.mp true (some id) sz cs) (ia:(jM (cs.take sz)).isSome=true) (eP:K (s.put o.dst (.bD [.agg (cs.take sz),.bad]))):o.dE r P a w (Good A N a.defers K) Q:=by
 have ai:=h.ay x;rw[aj]at ai;obtain⟨b,ai,ae,ky,eS,seen,es,hb,ar,qt,eK,mI,rem,rfl,Xl,aq,ak⟩:=ai;have BO:(mI++rem).take sz=mI:=by grind
 rw[BO]at ia eP;rcases ak with⟨_,ak⟩|⟨e,cc,he,rfl,ak⟩
 ·grind
 ·have ad:=run_entry_at (P:=P) w b ky eS cc es eS e hb qt he eK.2;refine iG (λc e=>by grind) h bh aV (v:=.tuple #[e.key,e.val]) (pv:=.bD [.agg mI,.bad]) ?_ ⟨[e.key,e.val],rfl,_,_,rfl,wq ak,_,_,rfl,by trivial,rfl⟩ eP;have fR:a.eval x=.pointer (some ⟨b,0,none⟩):=ai;simp_all[execOp]
theorem Pk{o:Oper}{t cR e:TypeId}{x k y:Operand}{id sz:Nat}{cs key:List aa}(aE:o.op=.mapUpdate t x k y)(h:cW φ w N s a)(bh:cY A φ w s.bb)(aV:∀t,o.dst=some t->t<N)
  (m5:∀e φ w,cY A φ w (s.bb++[e])->cY A φ w (gV s.a0.a s.bb [e])) (hu:P.underlying t=some (.map cR e)) (oj:Maps.Keyed P cR) (nX:o.dst=none)
  (aj:s.ay x=.mp false (some id) sz cs) (xt:s.ay k=.agg key) (bX:0<sz) (vl:key.length=sz) (aQ:AR P cR sz cs=true) (rL:uL P cR key=true)
  (eP:K (s.q6 id sz (m4 sz cs key))):o.dE r P a w (Good A N a.defers K) Q:=by
 have ai:=h.ay x;rw[aj]at ai;obtain⟨b,ai,ae,es,eS,hb,eK,aq⟩:=ai;have ia:=h.ay k;rw[xt]at ia;obtain⟨MN,EJ⟩:∃MN,jM key=some MN:=by grind [uL]
 have Y5:=Po EJ ia;obtain⟨ec,n4,ad,Vj,gx⟩:=Pn (x:=a.eval y) hu oj bX vl aQ rL hb eK aq EJ;have ms:gS id b sz (m4 sz cs key) φ w (setBlock w b (.map ec n4)):=by
  refine⟨ae,λi aX=>h.mem.hp i id b aX ae,by grind [vX],λc ah _=>qV ah,λcur e f k=>(by grind),λit gD v hm=>?_⟩;obtain⟨gf,gH,qB,hm⟩:=hm;have:gf=b:=by have:=(show φ.arr id=some gf from qB).symm.trans ae;grind
  subst this;cases it with
  |false=>exact⟨gf,gH,qB,ec,n4,oX hb,Vj,gx⟩
  |true=>grind
 refine BB (λc e=>by grind) h bh aV m5 ms rfl rfl rfl (.inr (.inl ⟨_,_,oX hb⟩)) (res:=.skip) ?_ (.inl ⟨rfl,nX,eP⟩);have fR:a.eval x=.map (some b):=ai;simp_all[execOp]
theorem Qz{o:Oper}{x:Operand}{id sz:Nat}{cs:List aa}(aE:o.op=.next x false)(h:cW φ w N s a)(bh:cY A φ w s.bb)(aV:∀t,o.dst=some t->t<N)
  (m5:∀e φ w,cY A φ w (s.bb++[e])->cY A φ w (gV s.a0.a s.bb [e])) (bX:0<sz)
  (aj:s.ay x=.mp true (some id) sz cs) (aT:(cs.drop sz).length/sz=0->K (s.put o.dst (.bD [.bool false])))
  (eP:∀i,i<(cs.drop sz).length/sz->K ((s.q6 id sz (chunk sz (cs.drop sz) i++hL sz (cs.drop sz) i)).put o.dst (.bD [.bool true,.agg (chunk sz (cs.drop sz) i),.bad]))):
  o.dE r P a w (Good A N a.defers K) Q:=by
 have iY:∀c,o.op≠.defer c:=λc e=>by grind
 have ai:=h.ay x;rw[aj]at ai;obtain⟨b,ai,ae,ky,eS,seen,es,hb,fu,qt,eK,mI,rem,rfl,Xl,aq,ak⟩:=ai;have Xm:(mI++rem).drop sz=rem:=by grind
 rw[Xm]at aT eP;have hlen:=pI aq;have El:rem.length/sz=(leftOf es seen).toList.length:=by simp_all
 rcases run_next_at (P:=P) w o.type b ky eS eS seen es eS hb qt eK.1 (Nat.le_refl _)with⟨U,ab⟩|⟨e,he,w1,fg,ab⟩
 ·refine iG iY h bh aV (v:=.tuple #[.bool false]) (pv:=.bD [.bool false]) ?_ ⟨[.bool false],rfl,_,_,rfl,rfl,rfl⟩ (aT (by grind));have fR:a.eval x=.pointer (some ⟨b,0,none⟩):=ai;simp_all[execOp]
 ·obtain⟨j,aC,Y7⟩:=List.getElem_of_mem he;have EY:(leftOf es seen).toList[j]?=some e:=by grind
  have sX:=m8 aq j e EY;have Y4:=Qt eK.2 EY;have vn:lQ sz (hL sz rem j) (leftOf es (seen.push e.born)).toList:=by grind [wu]
  have tc:w1.heap=w.heap:=by rcases fg with rfl|rfl<;>rfl
  have hf:e∈es.toList:=by grind [leftOf]
  have lY:w1.heap[b]?=some (.mapIter (some ky) eS seen eS):=by grind
  have VT:ky≠b:=λe=>by grind
  have iu:(chunk sz rem j).length=sz:=by
   have:j*sz+sz<=rem.length:=by
    rw[hlen,←Nat.succ_mul];exact Nat.mul_le_mul_right _ aC
   simp[chunk];omega
  have ms:gS id b sz (chunk sz rem j++hL sz rem j) φ w (setBlock w1 b (.mapIter (some ky) eS (seen.push e.born) eS)):=by
   refine⟨ae,λi aX=>h.mem.hp i id b aX ae,by rw[vX,tc];exact Nat.le_refl _,λc ah _=>by rw[qV ah,tc],λcur e f k=>(by rw[hb]at k;cases k),λit gD v hm=>?_⟩;obtain⟨gf,gH,qB,hm⟩:=hm;have:gf=b:=by have:=(show φ.arr id=some gf from qB).symm.trans ae;injection this
   subst this;cases it with
   |false=>obtain⟨_,_,U,_⟩:=hm;rw[hb]at U;cases U
   |true=>exact⟨gf,gH,qB,ky,eS,_,es,oX lY,fu,by rw[qV VT,tc];exact qt,eK,_,_,rfl,iu,vn,.inr ⟨e,seen,hf,rfl,sX⟩⟩
  refine BB iY h bh aV m5 ms (by rcases fg with rfl|rfl<;>rfl) (by rcases fg with rfl|rfl<;>rfl) (by rcases fg with rfl|rfl<;>rfl) (.inr (.inr ⟨_,_,_,_,oX lY⟩)) (res:=.value (.tuple #[.bool true,e.key,e.val])) ?_
   (.inr ⟨_,.bD [.bool true,.agg (chunk sz rem j),.bad],rfl,⟨[.bool true,e.key,e.val],rfl,_,_,rfl,rfl,_,_,rfl,wq sX,_,_,rfl,by simp only[aY],rfl⟩,eP j (by rw[El];exact aC)⟩)
  have fR:a.eval x=.pointer (some ⟨b,0,none⟩):=ai;simp_all[execOp]
end
end
end Go.Proofs.YtlminnpaeaganaaGreat
