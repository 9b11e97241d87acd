/- Part of the proof of RuleCover. No condition. -/
import Derived.RangeFuncRecord
import Derived.Test.YtlminnpaeaganaaGreatMCoverAB
namespace Go.Proofs.YtlminnpaeaganaaGreat
set_option maxRecDepth 100000
set_option linter.all false
section
open Go Go.RowKit
variable[cQ]
section
variable{P:Program}{φ:bo}{w:World}{A:Anchor}{N n:Nat}{s:aA}{a:Act}{K:aA->Prop}{Q:Exit->Act->World->Prop}{r:Option Nat}{m:Mem}
theorem Yq{b off:Nat}{cur:Array Value}{e:TypeId}{f:Nat×Nat}(h:w.heap[b]?=some (.cells cur e f)){j:Nat}{v:Value}(ah:w.cell? ⟨b,off+j,none⟩=some v):cur[off+j]?=some v:=by grind [World.cell?]
theorem Wz{o:Oper}{t:TypeId}{x y:Operand}(ar:o.op=.call { callee:=.builtin .append,args:=#[x,y],argTypes:=#[t,t] })
  (h:cW φ w N s a) (bh:cY A φ w s.bb) (aV:∀t,o.dst=some t->t<N) (m5:∀(i:Nat) φ w,cY A φ w (s.bb++[b9.kill i])->cY A φ w (gV s.bg.a s.bb [b9.kill i]))
  (a9:uB P s o.dst t (s.ay x) (s.ay y) K):o.dE r P a w (Good A N a.defers K) Q:=by
 have iY:∀c,o.op≠.defer c:=λc e=>by grind
 have aB:∀{v:Value}{w':World},(Builtin.append_ #[t,t] o.type #[a.eval x,a.eval y]).run P w=.ok v w'->(execOp a.eval o).run P w=.ok (.value v) w':=λ{v w'} ad=>by simp[execOp,ar,resolve,invoke,builtin,ad]
 unfold uB at a9;split at a9
 ·rename_i e hu;obtain⟨hi,eb,KI,a9⟩:=a9;obtain⟨i,e1,bX,TR⟩:=Aa hi;obtain⟨z,bO,TS⟩:∃z,i.zero=some z/\z.cells.size=i.size:=by
   unfold zeroOf at KI;rw[e1]at KI;simp only[Option.bind_some]at KI;cases ak0:i.zero with
   |none=>grind
   |some z=>grind
  split at a9
  ·rename_i iz news aF;obtain⟨lR,a9⟩:=a9;obtain⟨mB,vE,xV,ajd,zc⟩:=ZS aF (h.ay y);rw[ajd]at aB;split at a9
   ·rename_i aj;obtain⟨lY,oK,a9⟩:=a9;have ex:a.eval x=.slice none 0 0:=by have:=h.ay x;rw[aj]at this;exact this
    rw[ex]at aB;rcases Nat.eq_zero_or_pos iz with aT|aT
    ·subst aT;rw[if_pos rfl]at a9;exact iG iY h bh aV (aB (Mc w t o.type e i hu e1 none 0 0 (Nat.le_refl _) vE xV)) (pv:=.bC) rfl a9
    ·rw[if_neg (by omega)]at a9;obtain⟨b,off,af,rfl,e0,aN⟩:=zc aT;have xq:af.length=iz*i.size:=by grind [mg]
     have h3:=grownCap_ge w iz 0 e;refine H0 iY h bh aV (jQ.Xi w _) (aB (run_append_nil w t o.type e i z hu e1 bO ⟨b,off,none⟩ iz xV af xq (λj v ai=>by grind [q0]) aT (by omega) (by grind)))
      (heap_alloc_new w.drew _) (sz:=P.cellsOf e) mB h3 ?_ e0 (λj v ai=>?_) a9
     ·rw[Array.size_append,List.size_toArray,size_zeroCells,TS,xq,bX,←Nat.add_mul];grind
     grind
   ·rename_i id sz off len cs aj;obtain⟨rfl,rfl,lY,oK,aI,a9⟩:=a9;have hd:=h.ay x;rw[aj]at hd;obtain⟨ak,vF,cap,ex,lg,ae⟩:=hd;rw[ex]at aB;rcases ae with ae|⟨b,rfl,⟨au,cur,gH,hb,Si⟩,dA⟩
    ·grind
    obtain⟨af,e0,aN⟩:=Hb dA;have TT:∀(j:Nat) v,af[j]?=some v->cur[j]?=some v:=λj v ai=>by
     have:=Yq hb (aN j v ai);grind
    have xq:af.length=len*i.size:=by grind [mg]
    rcases Nat.eq_zero_or_pos iz with aT|aT
    ·subst aT;have nf:news=[]:=List.eq_nil_of_length_eq_zero (by simpa using mB);subst nf;rw[List.append_nil]at a9 aI;exact Hw iY h bh aV (m5 id) au (.inl rfl) (Nat.le_refl _) (λ_ _ _=>rfl) rfl rfl rfl hb (aB (Mc w t o.type e i hu e1 _ len cap lg vE xV)) ak lg (by omega) e0 aI TT a9
    ·obtain⟨a6,zb,us,rfl,zt,oL⟩:=zc aT;have FI:us.length=iz*i.size:=by rw[←mg zt,mB,bX]
     have q8:∀j u,us[j]?=some u->w.cell? ((⟨a6,zb,none⟩:Addr).add j)=some u:=λj v ai=>by rw[q0];exact oL j v ai
     have hlen:(cs++news).length=(len+iz)*P.cellsOf e:=by rw[List.length_append,ak,mB,Nat.add_mul]
     have TU:=Ad e0 zt;by_cases gN:len+iz<=cap
     ·have ac9:len*i.size+us.length<=cur.size:=by
       rw[FI,←Nat.add_mul,←bX];exact Nat.le_trans (Nat.mul_le_mul_right _ gN) (by omega)
      have ad:=Vy (P:=P) w t o.type e gH i hu e1 b len cap cur hb ⟨a6,zb,none⟩ iz xV us FI q8 (OT zt lR) gN ac9;refine Hw iY h bh aV (m5 id) au (.inl rfl) (by rw[setRow_size];exact Nat.le_refl _) (λc _ ah=>setRow_other w b c _ ah) rfl rfl rfl (setRow_heap w b cur _ gH _ hb) (aB ad) hlen gN ?_ TU aI (λj v ai=>?_) a9
      ·simp ;omega
      ·have BO:af=cur.toList.take (len*i.size):=by
        apply List.ext_getElem?;intro k;rw[List.getElem?_take];by_cases aq:k<len*i.size
        ·rw[if_pos aq];have gx:k<af.length:=by omega
         have:=TT k af[k] (by simp[gx]);simp[gx]at this⊢;exact this.symm
        ·rw[if_neg aq,List.getElem?_eq_none (by omega)]
       rw[←BO];have aC:j<(af++us).length:=(List.getElem?_eq_some_iff.1 ai).1;simp only[List.getElem?_toArray];rw[List.getElem?_append_left aC];exact ai
     ·have ad:=run_append_grow (P:=P) w t o.type e i z hu e1 bO ⟨b,0,none⟩ len cap af xq (λj v ai=>by rw[q0];exact aN j v ai) ⟨a6,zb,none⟩ iz xV us FI q8 (by omega) (by omega)
       (growslice_fits (by omega) (by rw[←TR];exact lY))
      have h3:=grownCap_ge w (len+iz) cap e;refine Hw iY h bh aV (m5 id) au (.inr rfl) (by simp) (λc ah _=>CV w.drew _ c ah) rfl rfl rfl (heap_alloc_new w.drew _) (aB ad) hlen h3 ?_ TU aI (λj v ai=>?_) a9
      ·rw[Array.size_append,Array.size_append,List.size_toArray,List.size_toArray,size_zeroCells,TS,xq,FI,bX,←Nat.add_mul,←Nat.add_mul];exact Nat.mul_le_mul_right _ (by omega)
      ·have aC:j<(af++us).length:=(List.getElem?_eq_some_iff.1 ai).1;rw[Array.getElem?_append_left (by simpa using aC)];simpa using ai
   grind
  grind
 grind
theorem NY(off:Nat):∀(af:List Value)(k:Nat)(cells:Array Value),((af.zipIdx k).foldl (λcs (c,j)=>cs.setIfInBounds (off+j) c) cells).size=cells.size /\
  ∀i,((af.zipIdx k).foldl (λcs (c,j)=>cs.setIfInBounds (off+j) c) cells)[i]?=if off+k<=i/\i<off+k+af.length/\i<cells.size then af[i-(off+k)]? else cells[i]?
 |[],k,cells=>by simp;grind
 |v::af,k,cells=>by
  rw[List.zipIdx_cons,List.foldl_cons];obtain⟨U,ab⟩:=NY off af (k+1) (cells.setIfInBounds (off+k) v);refine⟨by grind,λi=>?_⟩;grind [Array.getElem?_setIfInBounds_ne]
theorem WA(off:Nat)(af cells:Array Value)(h:off+af.size<=cells.size):
  (af.zipIdx.foldl (λcs (c,j)=>cs.setIfInBounds (off+j) c) cells).toList=cells.toList.take off++af.toList++cells.toList.drop (off+af.toList.length):=by
 have aQ:=NY off af.toList 0 cells;have he:af.zipIdx.foldl (λcs (c,j)=>cs.setIfInBounds (off+j) c) cells=(af.toList.zipIdx 0).foldl (λcs (c,j)=>cs.setIfInBounds (off+j) c) cells:=by rw[←Array.foldl_toList];simp
 apply List.ext_getElem?;intro i;by_cases U:i<off
 ·grind
 grind
theorem Ef{place:Nat->Option (Nat×Nat)}:∀(parts:List (Nat×aa))(sJ:List (Nat×Value))(sn cs:List aa)(cells:Array Value),kJ place sn parts=some cs->bl φ w sn cells.toList ->
  parts.map (·.1)=sJ.map (·.1)->bl φ w (parts.map (·.2)) (sJ.map (·.2))->∃af,Instr.fill place cells sJ=some af/\bl φ w cs af.toList
 |[],sJ,sn,cs,cells,h,bO,hi,ai=>by
  have:sJ=[]:=by simp_all
  subst this;injection h with h;subst h;exact⟨cells,rfl,bO⟩
 |(i,p)::parts,sJ,sn,cs,cells,h,bO,hi,ai=>by
  cases sJ with
  |nil=>simp at hi
  |cons q sJ=>
   obtain⟨cm,v⟩:=q;simp  at hi;obtain⟨rfl,hi⟩:=hi;obtain⟨a3,cB,e,ae,e0⟩:=ai;injection e with aK aO;subst aK;subst aO;simp only[kJ]at h;split at h
   ·cases h
   ·rename_i off size cD;split at h
    ·rename_i ah;have BP:=Al ae ah.1;have hlen:p.cells.length=v.cells.size:=by simpa using mg BP
     have rI:sn.length=cells.size:=by simpa using mg bO
     have gN:off+v.cells.size<=cells.size:=by omega
     obtain⟨af,aQ,ad⟩:=Ef parts sJ (fa sn off p.cells) cs _ h (by rw[WA off v.cells cells gN];grind [Mv]) hi e0;grind [Instr.fill]
    ·cases h
theorem C6(φ:bo)(w:World)(l:List Value):bl φ w (l.map jT) l:=by
 induction l with
 |nil=>rfl
 |cons v l az=>exact⟨v,l,rfl,Hu φ w v,az⟩
theorem ye{t:TypeId}{z:List aa}(h:ki P t=some z):∃i fx,P.info? t=some i/\i.zero=some fx/\z=fx.cells.toList.map jT:=by
 unfold ki zeroOf at h;cases hi:P.info? t with
 |none=>grind
 |some i=>
  cases bO:i.zero with
  |none=>grind
  |some fx=>grind
theorem NZ(h:cW φ w N s a)(parts:Array (Nat×Operand)):
  (parts.toList.map λp=>(p.1,s.ay p.2)).map (·.1)=((parts.map λ(i,x)=>(i,a.eval x)).toList).map (·.1) /\
  bl φ w ((parts.toList.map λp=>(p.1,s.ay p.2)).map (·.2)) (((parts.map λ(i,x)=>(i,a.eval x)).toList).map (·.2)):=by
 obtain⟨l⟩:=parts;simp only[List.map_toArray,List.map_map];refine⟨by simp,?_⟩;induction l with
 |nil=>rfl
 |cons p l az=>exact⟨_,_,rfl,h.ay p.2,az⟩
theorem ZT{t:TypeId}{parts:Array (Nat×Operand)}{pv:aa}(h:cW φ w N s a)(hb:sI P t (parts.toList.map λp=>(p.1,s.ay p.2))=some pv):
  ∃v,(Instr.build t (parts.map λ(i,x)=>(i,a.eval x))).run P w=.ok v w/\aY φ w pv v:=by
 obtain⟨oM,lZ⟩:=NZ h parts;unfold sI at hb;split at hb
 ·rename_i fs z hu bO;obtain⟨i,fx,hi,tq,rfl⟩:=ye bO;split at hb
  ·obtain⟨cs,hcs,rfl⟩:=Option.map_eq_some_iff.1 hb;have J6:∀l:List Field,(l.all λf=>(P.info? f.type).isSome)=true->l.mapM (λf=>(P.info? f.type).map λi=>(f.offset,i.size))=some (l.map λf=>(f.offset,P.cellsOf f.type)):=by
    intro l ak;induction l with
    |nil=>rfl
    |cons f l az=>grind [Aa]
   obtain⟨af,aQ,ad⟩:=Ef _ _ _ _ fx.cells hcs (C6 φ w _) oM lZ;refine⟨.agg af,run_build w t _ af ?_,af.toList,by simp,ad⟩;have he:(λx:Nat=>((fs.toList.map λf=>(f.offset,P.cellsOf f.type)).toArray)[x]?)=ya P fs:=by grind [ya]
   grind [Program.built]
  ·cases hb
 ·rename_i dZ e z hu bO;obtain⟨i,fx,hi,tq,rfl⟩:=ye bO;split at hb
  ·rename_i ag6;obtain⟨cs,hcs,rfl⟩:=Option.map_eq_some_iff.1 hb;obtain⟨j,aC,ao,_⟩:=Aa ag6;obtain⟨af,aQ,ad⟩:=Ef _ _ _ _ fx.cells hcs (C6 φ w _) oM lZ;refine⟨.agg af,run_build w t _ af ?_,af.toList,by simp,ad⟩;simp_all[Program.built]
  ·cases hb
 ·cases hb
theorem yf(z:List aa)(k:Nat):(e8 z k).length=k*z.length:=by
 induction k with
 |zero=>simp[e8]
 |succ k az=>grind [e8]
theorem OV(z:List aa):∀(k j:Nat),j<k*z.length->(e8 z k)[j]?=z[j%z.length]?
 |0,j,h=>by simp at h
 |k+1,j,h=>by
  rw[Nat.add_mul,Nat.one_mul]at h;rw[e8];by_cases aC:j<z.length
  ·grind [Nat.mod_eq_of_lt]
  ·have aft:=Nat.mod_eq_sub_mod (a:=j) (b:=z.length) (by omega);rw[List.getElem?_append_right (by omega),OV z k (j-z.length) (by omega),aft]
theorem N0(φ:bo)(w:World)(fx:Array Value)(k:Nat)(bO:0<fx.size){c:Nat}(ah:k<=c):
  bl φ w (e8 (fx.toList.map jT) k) ((madeCells fx (c*fx.size)).toList.take (k*fx.size)):=by
 have hle:k*fx.size<=c*fx.size:=Nat.mul_le_mul_right _ ah;rw[sy];refine⟨by grind [yf,size_madeCells],λj p v aC ai=>?_⟩;have ag7:(fx.toList.map jT).length=fx.size:=by simp
 rw[OV _ _ _ (by grind),ag7]at aC;grind [madeCells,Hu]
theorem Yr{o:Oper}{t e:TypeId}{l c:Operand}{l8 oW:Int}{z:List aa}(ar:o.op=.makeSlice t l c)(h:cW φ w N s a)(bh:cY A φ w s.bb)(aV:∀t,o.dst=some t->t<N)
  (hu:P.underlying t=some (.slice e)) (ak:s.ay l=.int .i64 l8) (ah:s.ay c=.int .i64 oW) (bO:ki P e=some z) (rI:z.length=P.cellsOf e) (eb:0<z.length) (hi:(P.info? e).isSome)
  (aT:0<=l8) (hle:l8<=oW) (TR:oW*P.bytesOf e<=140737488355328) (ag8:oW<=9223372036854775807) (a9:K (s.pc o.dst (P.cellsOf e) l8.toNat (e8 z l8.toNat))):
  o.dE r P a w (Good A N a.defers K) Q:=by
 have iY:∀c,o.op≠.defer c:=λc e=>by grind
 obtain⟨i,fx,e1,tq,rfl⟩:=ye bO;obtain⟨i2,rJ,ao,hb⟩:=Aa hi;have:i2=i:=by grind
 subst this;have aK:a.eval l=.int .i64 l8:=by have:=h.ay l;rw[ak]at this;exact this
 have aO:a.eval c=.int .i64 oW:=by have:=h.ay c;rw[ah]at this;exact this
 have ad:=run_make (P:=P) w t e i2 fx hu e1 tq .i64 .i64 l8 oW aT hle (by grind) ag8;have aB:(execOp a.eval o).run P w=.ok (.value (.slice (some ⟨w.heap.size,0,none⟩) l8.toNat oW.toNat)) (w.alloc (.cells (madeCells fx.cells (oW.toNat*i2.size)) e)):=by simp_all[execOp]
 simp  at rI eb;refine H0 iY h bh aV (jQ.alloc w _) aB (heap_alloc_new w _) ?_ (by omega) ?_ (N0 φ w fx.cells l8.toNat eb (c:=oW.toNat) (by omega)) (λj v ai=>?_) a9;all_goals grind [yf,size_madeCells]
theorem N1{m:Mem}(hm:c0 φ m w){w':World}(aN:jQ w w')(k:kk φ w φ w'):c0 φ m w':=by
 refine⟨λi hi=>?_,hm.dt,λi b h=>?_,hm.jo,hm.hp,hm.sep,Ay aN hm⟩
 ·rcases hm.box i hi with h|⟨b,cur,e',hb,bq,ad⟩
  ·grind
  exact .inr ⟨b,cur,e',hb,(aN.old b (mo hm hb)).trans bq,v7 k ad⟩
 ·obtain⟨U,ab⟩:=hm.arr i b h;exact⟨U,ab.of_eq (aN.old b (jN hm h))⟩
theorem Mg{o:Oper}{t e:TypeId}{len:Nat}{parts:Array (Nat×Operand)}{z cs:List aa}(ar:o.op=.buildSlice t len parts)(h:cW φ w N s a)
  (hu:P.underlying t=some (.slice e)) (bO:ki P e=some z) (hi:(P.info? e).isSome) (rI:z.length=P.cellsOf e) (eb:0<z.length) (Br:len*P.cellsOf e<=16777216)
  (aQ:kJ (λi=>some (i*P.cellsOf e,P.cellsOf e)) (e8 z len) (parts.toList.map λp=>(p.1,s.ay p.2))=some cs):
  ∃af:Array Value,(execOp a.eval o).run P w=.ok (.value (.slice (some ⟨w.heap.size,0,none⟩) len len)) (w.alloc (.cells af e))/\cs.length=len*P.cellsOf e/\af.size=len*P.cellsOf e/\bl φ w cs af.toList:=by
 obtain⟨i,fx,e1,tq,rfl⟩:=ye bO;obtain⟨oM,lZ⟩:=NZ h parts;simp  at rI eb;have hm:=N0 φ w fx.cells len eb (Nat.le_refl len);have BO:(madeCells fx.cells (len*fx.cells.size)).toList.take (len*fx.cells.size)=(madeCells fx.cells (len*fx.cells.size)).toList:=List.take_of_length_le (by simp[size_madeCells]);rw[BO]at hm;obtain⟨af,xr,ad⟩:=Ef _ _ _ _ _ aQ hm oM lZ;have bX:(sizeOf e).run P w=.ok fx.cells.size w:=by grind [run_sizeOf]
 have iu:cs.length=len*P.cellsOf e:=by
  have hlen:∀(pl:Nat->Option (Nat×Nat))(ps:List (Nat×aa))(sn out:List aa),kJ pl sn ps=some out->out.length=sn.length:=by
   intro pl ps;induction ps with
   |nil=>grind [kJ]
   |cons q ps az=>grind [kJ,fa]
  grind [yf]
 have xq:af.size=len*P.cellsOf e:=by rw[←iu];simpa using(mg ad).symm
 obtain⟨pp,rK⟩:∃pp,pp=(parts.map λ(i,x)=>(i,a.eval x)):=⟨_,rfl⟩;rw[←rK]at xr;have gZ:(madeCells fx.cells (len*fx.cells.size))=(Array.range (len*fx.cells.size)).map (fx.cells[·%fx.cells.size]!):=rfl;rw[gZ,←rI]at xr;have aB:(execOp a.eval o).run P w=.ok (.value (.slice (some ⟨w.heap.size,0,none⟩) len len)) (w.alloc (.cells af e)):=by
  simp only[execOp,ar,Instr.buildSlice,Sem.run_bind,run_underlying hu,Result.andThen_ok,bX];rw[←rK,if_neg (by grind)];by_cases n9:len=0
  ·simp_all[Array.range_zero',newRow]
  ·have bU:¬(len*fx.cells.size=0):=by grind [Nat.mul_eq_zero]
   simp only[bU,if_false,zeroValue,typeInfo,Sem.run_bind,run_program,Result.andThen_ok,e1,tq,Sem.run_pure,xr];rfl
 grind
theorem VA{o:Oper}{t e:TypeId}{len:Nat}{parts:Array (Nat×Operand)}{z cs:List aa}(ar:o.op=.buildSlice t len parts)(h:cW φ w N s a)(bh:cY A φ w s.bb)(aV:∀t,o.dst=some t->t<N)
  (hu:P.underlying t=some (.slice e)) (bO:ki P e=some z) (hi:(P.info? e).isSome) (rI:z.length=P.cellsOf e) (eb:0<z.length) (Br:len*P.cellsOf e<=16777216)
  (aQ:kJ (λi=>some (i*P.cellsOf e,P.cellsOf e)) (e8 z len) (parts.toList.map λp=>(p.1,s.ay p.2))=some cs) (a9:K (s.pc o.dst (P.cellsOf e) len cs)):
  o.dE r P a w (Good A N a.defers K) Q:=by
 grind [Mg,H0,jQ.alloc,heap_alloc_new]
theorem Mh{o:Oper}{t e:TypeId}{len:Nat}{parts:Array (Nat×Operand)}{z cs:List aa}(ar:o.op=.buildSlice t len parts)(h:cW φ w N s a)(bh:cY A φ w s.bb)(aV:∀t,o.dst=some t->t<N)
  (hu:P.underlying t=some (.slice e)) (bO:ki P e=some z) (hi:(P.info? e).isSome) (rI:z.length=P.cellsOf e) (eb:0<z.length) (Br:len*P.cellsOf e<=16777216)
  (aQ:kJ (λi=>some (i*P.cellsOf e,P.cellsOf e)) (e8 z len) (parts.toList.map λp=>(p.1,s.ay p.2))=some cs) (a9:K (s.put o.dst (.sl none (P.cellsOf e) 0 len cs))):
  o.dE r P a w (Good A N a.defers K) Q:=by
 obtain⟨af,aB,iu,xq,ad⟩:=Mg ar h hu bO hi rI eb Br aQ;refine o0 (λc e=>by grind) ?_;rw[aB];have aN:=jQ.alloc w (.cells af e);have k:kk φ w φ (w.alloc (.cells af e)):=yg aN h.mem (λ_ _ h=>h) (λ_ _ h=>h) (λ_ h=>.inl h);have fu:¬φ.own w.heap.size:=λar=>by
  rcases ar with⟨i,hi⟩|⟨i,hi⟩
  ·exact absurd (mo h.mem hi) (by omega)
  ·exact absurd (jN h.mem hi) (by omega)
 have gM:=heap_alloc_new w (.cells af e);refine⟨_,φ,?_,?_,put_defers _ _ _,a9⟩
 ·have U:cW φ (w.alloc (.cells af e)) N s a:=⟨λt=>aY.keeps k _ _ (h.tmp t),h.size,N1 h.mem aN k⟩;refine U.put aV ⟨iu,_,len,rfl,Nat.le_refl _,.inr ⟨w.heap.size,rfl,⟨fu,by simp⟩,sA λj p aC=>?_⟩⟩;grind [o1,World.cell?,aY.keeps]
 ·rw[aA.uA];have:=bh.trans (x9 aN k);grind
end
end
section
open Go Go.RowKit
variable[cQ]
open Go.ChangeMaps (setBlock)
theorem ZU:∀{p q:aa}{v:Value},pr p=some v->pr q=some v->p=q
 |.int k a,.int bB b,v,U,ab=>by grind [pr]
 |.bool a,.bool b,v,U,ab=>by grind [pr]
 |.int _ _,.bool _,v,U,ab=>by grind [pr]
 |.bool _,.int _ _,v,U,ab=>by grind [pr]
 |.int _ _,.str _,_,_,ab | .int _ _,.undef,_,_,ab | .int _ _,.bad,_,_,ab | .int _ _,.ca,_,_,ab | .int _ _,.eL,_,_,ab | .int _ _,.bC,_,_,ab | .int _ _,.dead _,_,_,ab | .int _ _,.cq _,_,_,ab
 |.int _ _,.ptr _ _,_,_,ab | .int _ _,.sl _ _ _ _ _,_,_,ab | .int _ _,.bJ _ _ _,_,_,ab | .int _ _,.fn _ _,_,_,ab | .int _ _,.agg _,_,_,ab | .int _ _,.bD _,_,_,ab | .int _ _,.mp _ _ _ _,_,_,ab
 |.bool _,.str _,_,_,ab | .bool _,.undef,_,_,ab | .bool _,.bad,_,_,ab | .bool _,.ca,_,_,ab | .bool _,.eL,_,_,ab | .bool _,.bC,_,_,ab | .bool _,.dead _,_,_,ab | .bool _,.cq _,_,_,ab
 |.bool _,.ptr _ _,_,_,ab | .bool _,.sl _ _ _ _ _,_,_,ab | .bool _,.bJ _ _ _,_,_,ab | .bool _,.fn _ _,_,_,ab | .bool _,.agg _,_,_,ab | .bool _,.bD _,_,_,ab | .bool _,.mp _ _ _ _,_,_,ab=>by cases ab
 |.str _,_,_,U,_ | .undef,_,_,U,_ | .bad,_,_,U,_ | .ca,_,_,U,_ | .eL,_,_,U,_ | .bC,_,_,U,_ | .dead _,_,_,U,_ | .cq _,_,_,U,_ | .ptr _ _,_,_,U,_ | .sl _ _ _ _ _,_,_,U,_
 |.bJ _ _ _,_,_,U,_ | .fn _ _,_,_,U,_ | .agg _,_,_,U,_ | .bD _,_,_,U,_ | .mp _ _ _ _,_,_,U,_=>by cases U
theorem N2:∀{p q:List aa}{v:List Value},lN p=some v->lN q=some v->p=q
 |[],[],_,_,_=>rfl
 |[],q::bz,v,U,ab=>by grind [lN]
 |p::ps,[],v,U,ab=>by grind [lN]
 |p::ps,q::bz,v,U,ab=>by
  simp only[lN]at U ab;split at U
  ·rename_i a b au hb;split at ab
   ·rename_i c d ah aV;injection U with U;injection ab with ab;rw[←U]at ab;injection ab with aK aO;subst aK;subst aO;rw[ZU au ah,N2 hb aV]
   ·cases ab
  ·cases U
theorem Xj{p q:List aa}{v:Value}(U:jM p=some v)(ab:jM q=some v):p=q:=by grind [jM,Option.map_eq_some_iff,N2]
theorem ada:∀{p q:aa},FH p q=true->p=q:=by
 intro p q h;unfold FH at h;grind
theorem P3:∀{p q:List aa},w9 p q=true->p=q
 |[],[],_=>rfl
 |[],_::_,h=>by cases h
 |_::_,[],h=>by cases h
 |p::ps,q::bz,h=>by
  simp[w9]at h;rw[ada h.1,P3 h.2]
theorem N3:∀{p:List aa}{v:List Value},lN p=some v->w9 p p=true
 |[],_,_=>rfl
 |p::ps,v,h=>by
  simp only[lN]at h;split at h
  ·rename_i a b au hb;simp[w9];refine⟨?_,N3 hb⟩;cases p<;>simp[pr]at au<;>simp[FH]
  ·cases h
theorem WB{p:List aa}{v:Value}(h:jM p=some v):w9 p p=true:=by grind [jM,Option.map_eq_some_iff,N3]
theorem DN{sz:Nat}:∀{es:List MapEntry}{cs:List aa},lQ sz cs es->cs.length=es.length*sz
 |[],cs,h=>by grind [lQ]
 |e::es,cs,h=>by
  obtain⟨k,r,rfl,aq,_,ad⟩:=h;simp only[List.length_append,List.length_cons,DN ad,aq,Nat.add_mul];omega
theorem Az{sz:Nat}:∀{es:List MapEntry}{cs:List aa},lQ sz cs es->∀(i:Nat) e,es[i]?=some e->jM (chunk sz cs i)=some e.key
 |[],_,_,i,e,h=>by simp at h
 |x::es,cs,h,i,e,he=>by
  obtain⟨k,r,rfl,aq,ai,ad⟩:=h;cases i with
  |zero=>grind [chunk]
  |succ i=>
   have:=Az ad i e (by grind);simp only[chunk]at this⊢;rw[show(i+1)*sz=k.length+i*sz by grind,←List.drop_drop,List.drop_left' rfl];exact this
theorem N4{sz:Nat}{k:List aa}{x:MapEntry}(aq:k.length=sz)(ai:jM k=some x.key):∀{es:List MapEntry}{cs:List aa},lQ sz cs es->lQ sz (cs++k) (es++[x])
 |[],cs,h=>by grind [lQ]
 |e::es,cs,h=>by
  obtain⟨oq,r,rfl,U,ab,al⟩:=h;exact⟨oq,r++k,by simp,U,ab,N4 aq ai al⟩
theorem N5{sz:Nat}:∀{es ec:List MapEntry}{cs:List aa},lQ sz cs es->ec.map (·.key)=es.map (·.key)->lQ sz cs ec
 |[],ec,cs,h,he=>by simp_all
 |e::es,[],cs,h,he=>by simp at he
 |e::es,e'::ec,cs,h,he=>by
  simp  at he;obtain⟨oq,r,rfl,U,ab,al⟩:=h;exact⟨oq,r,rfl,U,by grind,N5 al he.2⟩
theorem Ng{sz:Nat}:∀{es:List MapEntry}{cs:List aa}(i:Nat),lQ sz cs es->i<es.length->lQ sz (hL sz cs i) (es.eraseIdx i)
 |[],cs,i,_,hi=>by simp at hi
 |e::es,cs,0,h,_=>by
  obtain⟨oq,r,rfl,U,ab,al⟩:=h;grind [hL]
 |e::es,cs,i+1,h,hi=>by
  obtain⟨oq,r,rfl,U,ab,al⟩:=h;have:=Ng i al (by grind);have aK:hL sz (oq++r) (i+1)=oq++hL sz r i:=by grind [hL,Nat.add_mul,List.drop_drop]
  rw[aK];exact⟨oq,_,rfl,U,ab,this⟩
theorem Mw{α:Type}[DecidableEq α](f:MapEntry->α):∀{l:List MapEntry}{j:Nat}{e:MapEntry},(l.map f).Nodup->l[j]?=some e->l.filter (λx=>decide (f x≠f e))=l.eraseIdx j
 |[],j,e,_,h=>by simp at h
 |x::l,0,e,aI,h=>by simp_all
 |x::l,j+1,e,aI,h=>by
  simp  at aI;have he:l[j]?=some e:=by grind
  rw[List.filter_cons_of_pos (by grind),Mw f aI.2 he];rfl
theorem Ys{es:Array MapEntry}{seen:Array Nat}(aI:(es.toList.map (·.born)).Nodup){j:Nat}{e:MapEntry}(h:(leftOf es seen).toList[j]?=some e):(leftOf es (seen.push e.born)).toList=(leftOf es seen).toList.eraseIdx j:=by
 have ao:((leftOf es seen).toList.map (·.born)).Nodup:=by grind [leftOf]
 rw[←Mw (·.born) ao h];simp_all[leftOf,Bool.and_comm]
section
variable{P:Program}{φ:bo}{w:World}{A:Anchor}{N n:Nat}{s:aA}{a:Act}{K:aA->Prop}{Q:Exit->Act->World->Prop}{r:Option Nat}{m:Mem}
theorem adb(hm:c0 φ m w){w':World}(aN:jQ w w')(gM:kz w' w.heap.size):
  kk φ w (φ.fD m.an w.heap.size) w'/\c0 (φ.fD m.an w.heap.size) ⟨m.β,m.n,m.an+1,m.rc⟩ w':=by
 have hold:∀i b,φ.arr i=some b->i≠m.an:=λi b h e=>by have:=(hm.arr i b h).1;omega
 have k:kk φ w (φ.fD m.an w.heap.size) w':=by
  refine yg aN hm (λi b h=>h) (λi b h=>?_) (λb h=>C5 h);grind [bo.fD]
 refine⟨k,⟨λi hi=>?_,λi hi=>hm.dt i hi,λi b h=>?_,λi j b U ab=>hm.jo i j b U ab,λi j b U ab=>?_,λi j b U ab=>?_,Ay (m:=m) aN hm⟩⟩
 ·rcases hm.box i hi with h|⟨b,cur,e',hb,bq,ad⟩
  ·exact .inl h
  exact .inr ⟨b,cur,e',hb,(aN.old b (mo hm hb)).trans bq,v7 k ad⟩
 ·simp only[bo.fD]at h;split at h
  ·grind
  ·obtain⟨U,ab⟩:=hm.arr i b h;exact⟨by grind,ab.of_eq (aN.old b (jN hm h))⟩
 ·simp only[bo.fD]at U ab;split at U<;>split at ab
  ·omega
  ·have hb:=Option.some.inj U;exact absurd (jN hm ab) (by omega)
  ·have hb:=Option.some.inj ab;exact absurd (jN hm U) (by omega)
  ·exact hm.hp i j b U ab
 ·simp only[bo.fD]at ab;split at ab
  ·have hb:=Option.some.inj ab;exact absurd (mo hm U) (by omega)
  ·exact hm.sep i j b U ab
theorem P4{o:Oper}(ar:∀c,o.op≠.defer c)(h:cW φ w N s a)(bh:cY A φ w s.bb)(aV:∀t,o.dst=some t->t<N){ob:Obj}{v:Value}{it:Bool}{sz:Nat}{cs:List aa}
  (ad:(execOp a.eval o).run P w=.ok (.value v) (w.alloc ob)) (gM:kz (w.alloc ob) w.heap.size) (ai:wM (φ.fD s.m.an w.heap.size) (w.alloc ob) it (some s.m.an) sz cs v)
  (a9:K (s.qa o.dst it sz cs)):o.dE r P a w (Good A N a.defers K) Q:=by
 refine o0 ar ?_;rw[ad];have aN:=jQ.alloc w ob;obtain⟨k,hm⟩:=adb h.mem aN gM;refine⟨s.qa o.dst it sz cs,φ.fD s.m.an w.heap.size,?_,?_,put_defers _ _ _,a9⟩
 ·have U:cW (φ.fD s.m.an w.heap.size) (w.alloc ob) N { s with m:=⟨s.m.β,s.m.n,s.m.an+1,s.m.rc⟩ } a:=⟨λt=>aY.keeps k _ _ (h.tmp t),h.size,hm⟩;exact U.put aV (pv:=.mp it (some s.m.an) sz cs) (by assumption)
 ·have e:(s.qa o.dst it sz cs).bb=s.bb:=by simp[aA.qa]
  have:=bh.trans (x9 aN k);grind
structure qg(j b sz:Nat)(cs:List aa)(φ:bo)(w w':World):Prop where
 arr:φ.arr j=some b
 inj:∀i,φ.arr i=some b->i=j
 size:w.heap.size<=w'.heap.size
 others:∀k,k≠b->k<w.heap.size->w'.heap[k]?=w.heap[k]?
 aei:∀cur e f,w.heap[b]?≠some (.cells cur e f)
 new:∀it gD v,wM φ w it (some j) sz gD v->wM φ w' it (some j) sz cs v
section
variable{w':World}{j b sz:Nat}{cs:List aa}
theorem qg.other(k:qg j b sz cs φ w w'){c:Nat}{o:Obj}(ar:¬φ.own c)(h:w.heap[c]?=some o):w'.heap[c]?=some o:=
 (k.others c (λe=>ar (.inr ⟨j,by rw[e];exact k.arr⟩)) (jK h)).trans h
theorem De(k:qg j b sz cs φ w w'){id:Option Nat}{a6 iL off cap:Nat}(h:place φ w id a6 iL off cap):place φ w' id a6 iL off cap/\a6≠b/\id≠some j:=by
 cases id with
 |none=>exact⟨⟨h.1,Nat.lt_of_lt_of_le h.2 k.size⟩,λe=>h.1 (.inr ⟨j,by rw[e];exact k.arr⟩),by simp⟩
 |some i=>
  obtain⟨au,cur,e,hb,ah⟩:=h;have dL:i≠j:=by
   rintro rfl;have:a6=b:=by have:=au.symm.trans k.arr;grind
   subst this;exact k.aei _ _ _ hb
  have bU:a6≠b:=λe=>dL (k.inj i (by grind));exact⟨⟨au,cur,e,(k.others a6 bU (jK hb)).trans hb,ah⟩,bU,by grind⟩
theorem abu{i zu off len:Nat}{e:b9}{gD:List aa}(h:i≠e.id):aa.bW e (.sl (some i) zu off len gD)=.sl (some i) zu off len (eF e gD):=by cases e<;>simp only[aa.bW,b9.id]at h⊢<;>rw[if_neg h]
theorem Yt{i off:Nat}{e:b9}{gD:List aa}(h:i≠e.id):aa.bW e (.bJ (some i) off gD)=.bJ (some i) off (eF e gD):=by cases e<;>simp only[aa.bW,b9.id]at h⊢<;>rw[if_neg h]
mutual
theorem aY.mw(k:qg j b sz cs φ w w'):∀(q:aa)(u:Value),aY φ w q u->aY φ w' (q.bW (.wr j sz (.agg cs))) u
 |.int _ _,u,h=>by assumption
 |.bool _,u,h=>by assumption
 |.str _,u,h=>by assumption
 |.undef,u,h=>by assumption
 |.bad,u,h=>by assumption
 |.ca,u,h=>by assumption
 |.eL,u,h=>by assumption
 |.bC,u,h=>by assumption
 |.dead _,u,h | .cq _,u,h=>by assumption
 |.ptr _ _,u,h=>by assumption
 |.sl none zu off len gD,u,h=>by
  simp only[aY,aa.bW,vT]at h⊢;obtain⟨ak,a,cap,ai,ah,h⟩:=h;refine⟨ak,a,cap,ai,ah,?_⟩;rcases h with h|⟨a6,au,ae,ad⟩
  ·grind
  ·obtain⟨g9,aI,_⟩:=De k ae;exact .inr ⟨a6,au,g9,b7.mw k a6 aI gD off ad⟩
 |.sl (some i) zu off len gD,u,h=>by
  obtain⟨ak,a,cap,ai,ah,h⟩:=h;rcases h with h|⟨a6,au,ae,ad⟩
  ·grind
  ·obtain⟨g9,aI,ao⟩:=De k ae;rw[abu (λe=>ao (by rw[e];rfl))];simp only[aY,vT];exact⟨ak,a,cap,ai,ah,.inr ⟨a6,au,g9,b7.mw k a6 aI gD off ad⟩⟩
 |.bJ none off gD,u,h=>by
  obtain⟨a6,ai,ae,ad⟩:=h;obtain⟨g9,aI,_⟩:=De k ae;exact⟨a6,ai,g9,b7.mw k a6 aI gD off ad⟩
 |.bJ (some i) off gD,u,h=>by
  obtain⟨a6,ai,ae,ad⟩:=h;obtain⟨g9,aI,ao⟩:=De k ae;rw[Yt (λe=>ao (by rw[e];rfl))];exact⟨a6,ai,g9,b7.mw k a6 aI gD off ad⟩
 |.fn f caps,u,h=>by
  obtain⟨af,ai,ad⟩:=h;exact⟨af,ai,bl.mw k caps af ad⟩
 |.agg gD,u,h=>by
  obtain⟨af,ai,ad⟩:=h;exact⟨af,ai,bl.mw k gD af ad⟩
 |.bD gD,u,h=>by
  obtain⟨af,ai,ad⟩:=h;exact⟨af,ai,bl.mw k gD af ad⟩
 |.mp it none zu gD,u,h=>by exact h.move (λc o ae hb _ _ _=>⟨ae,k.other ae hb⟩) λc o ae hb _ _ _=>⟨ae,k.other ae hb⟩
 |.mp it (some i) zu gD,u,h=>by
  by_cases dL:i=j
  ·subst dL;simp only[aa.bW,if_true];split
   ·rename_i ao;subst ao;exact k.new _ _ _ h
   trivial
  ·simp only[aa.bW,dL,if_false];exact h.move (λc o ae hb _ _ _=>⟨ae,(k.others c (λe=>dL (k.inj i (by rw[←e];exact ae))) (jK hb)).trans hb⟩) λc o ae hb _ _ _=>⟨ae,k.other ae hb⟩
theorem bl.mw(k:qg j b sz cs φ w w'):∀(ps:List aa)(af:List Value),bl φ w ps af->bl φ w' (eF (.wr j sz (.agg cs)) ps) af
 |[],af,h=>by assumption
 |q::ps,af,h=>by
  obtain⟨u,cB,e,aT,U⟩:=h;exact⟨u,cB,e,aY.mw k q u aT,bl.mw k ps cB U⟩
theorem b7.mw(k:qg j b sz cs φ w w')(a6:Nat)(hb:a6≠b):∀(ps:List aa)(off:Nat),b7 φ w a6 ps off->b7 φ w' a6 (eF (.wr j sz (.agg cs)) ps) off
 |[],_,_=>by assumption
 |p::ps,off,h=>by
  obtain⟨⟨c,ah,aT⟩,U⟩:=h;exact⟨⟨c,(AQ (k.others a6 hb (PX ah))).trans ah,aY.mw k p c aT⟩,b7.mw k a6 hb ps (off+1) U⟩
end
theorem Yu(k:qg j b sz cs φ w w')(tp:w'.os=w.os)(KH:w'.tape=w.tape)(BN:w'.output=w.output):Step φ w φ w' [.wr j sz (.agg cs)]:=
 ⟨λq c h=>aY.mw k q c h,tp,BN,k.size,λc ah fu _=>⟨k.others c (λe=>fu (.inr ⟨j,by rw[e];exact k.arr⟩)) ah,fu⟩⟩
theorem Yv(k:qg j b sz cs φ w w')(hm:c0 φ m w)(KJ:kz w' b):c0 φ { m with β:=λi=>(m.β i).sub [.wr j sz (.agg cs)] } w':=by
 refine⟨λi hi=>?_,hm.dt,λi c ah=>?_,hm.jo,hm.hp,hm.sep,λl o h=>(k.others l (λe=>by have:=hm.gw l o h;rw[e]at this;exact(hm.arr j b k.arr).2.Q5 _ this) (jK (hm.gw l o h))).trans (hm.gw l o h)⟩
 ·rcases hm.box i hi with⟨g1,a2⟩|⟨c,cur,e,ah,bq,ad⟩
  ·grind [H2]
  exact .inr ⟨c,cur,e,ah,(k.others c (λe=>hm.sep i j c ah (by rw[e];exact k.arr)) (mo hm ah)).trans bq,Iy (λq c h=>aY.mw k q c h) ad⟩
 ·obtain⟨U,ab⟩:=hm.arr i c ah;by_cases tn:c=b
  ·grind
  ·exact⟨U,ab.of_eq (k.others c tn (jN hm ah))⟩
end
theorem OW{o:Oper}(ar:∀c,o.op≠.defer c)(h:cW φ w N s a)(bh:cY A φ w s.bb)(aV:∀t,o.dst=some t->t<N)(m5:∀e φ w,cY A φ w (s.bb++[e])->cY A φ w (gV s.bg.a s.bb [e]))
  {w':World} {id b:Nat} {sz:Nat} {cs:List aa} (k:qg id b sz cs φ w w') (tp:w'.os=w.os) (KH:w'.tape=w.tape) (BN:w'.output=w.output) (KJ:kz w' b) {res:Next}
  (ad:(execOp a.eval o).run P w=.ok res w') (gO:(res=.skip/\o.dst=none/\K (s.q6 id sz cs))\/∃v pv,res=.value v/\aY φ w' pv v/\K ((s.q6 id sz cs).put o.dst pv)):
  o.dE r P a w (Good A N a.defers K) Q:=by
 refine o0 ar ?_;rw[ad];have U:cW φ w' N (s.q6 id sz cs) a:=⟨λt=>aY.mw k _ _ (h.tmp t),h.size,Yv k h.mem KJ⟩;have aW:cY A φ w' (s.q6 id sz cs).bb:=m5 _ _ _ (bh.trans (Yu k tp KH BN));rcases gO with⟨rfl,nX,a9⟩|⟨v,pv,rfl,ai,a9⟩
 ·show Good A N a.defers K (a.put o.dst undef) w';rw[nX];exact⟨_,_,U,aW,rfl,a9⟩
 ·exact⟨_,_,U.put aV ai,by simp_all,put_defers _ _ _,a9⟩
theorem abv{cR:TypeId}{sz:Nat}{cs:List aa}(h:AR P cR sz cs=true)(bX:0<sz){es:List MapEntry}(aq:lQ sz cs es):∀e∈es,∃l,keyOf P cR e.key=some l:=by
 intro e he;obtain⟨j,aC,rfl⟩:=List.getElem_of_mem he;have ak:=DN aq;have ah:=Az aq j es[j] (by simp);have:=List.all_eq_true.1 h j (by simp_all);grind [uL,Option.isSome_iff_exists]
theorem Xk{t cR e:TypeId}{key x:Value}{b:Nat}{es:Array MapEntry}{eS sz:Nat}{cs k:List aa}(a1:P.underlying t=some (.map cR e))(CF:Maps.Keyed P cR)(bX:0<sz)(vl:k.length=sz)
  (aQ:AR P cR sz cs=true) (rL:uL P cR k=true) (hb:w.heap[b]?=some (.map es eS)) (ng:Ee es eS) (aq:lQ sz cs es.toList) (u4:jM k=some key):
  ∃ec BQ,(Instr.mapUpdate t (.map (some b)) key x).run P w=.ok () (setBlock w b (.map ec BQ))/\Ee ec BQ/\lQ sz (m4 sz cs k) ec.toList:=by
 have hf:=abv aQ bX aq;obtain⟨lx,BR⟩:∃l,keyOf P cR key=some l:=by grind [uL,Option.isSome_iff_exists]
 have ah:=CF.check w false BR;have hlen:=DN aq;have Bs:cs.length/sz=es.toList.length:=by simp_all
 rcases CF.find w BR es.toList hf with⟨U,ab⟩|⟨j,gH,U,ab,al⟩
 ·refine⟨es.push { key,val:=x,born:=eS },eS+1,?_,⟨λy aF=>?_,?_⟩,?_⟩
  ·simp[Instr.mapUpdate,run_underlying a1,MapKept.run_getObj_map hb,ah,U,MapKept.run_setObj_map _ hb,Result.andThen,setBlock]
  ·simp only[Array.toList_push,List.mem_append,List.mem_singleton]at aF;rcases aF with aF|rfl
   ·have:=ng.1 y aF;omega
   ·simp
  ·simp ;rw[List.nodup_append];refine⟨ng.2,by simp,λy aF z bO e=>?_⟩;simp only[List.mem_singleton]at bO;obtain⟨mK,vm,rfl⟩:=List.mem_map.1 aF;have:=ng.1 mK vm;omega
  ·have fu:J5 sz cs k=false:=by
    rw[Bool.eq_false_iff];intro bq;obtain⟨i,hi,rJ⟩:=List.any_eq_true.1 bq;have oN:i<es.toList.length:=by grind
    have tt:=Az aq i es.toList[i] (by simp);grind [P3]
   grind [m4,N4]
 ·have ha:es[j]?=some gH:=by grind
  refine⟨es.modify j λe=>{ e with key:=key,val:=x },eS,?_,?_,?_⟩
  ·have ao:=CF.stays w BR;simp[Instr.mapUpdate,run_underlying a1,MapKept.run_getObj_map hb,ah,U,ha,al,ao,MapKept.run_setObj_map _ hb,Result.andThen,setBlock]
  ·have dB:(es.modify j λe=>{ e with key:=key,val:=x }).toList.map (·.born)=es.toList.map (·.born):=by
    apply List.ext_getElem?;grind
   refine⟨λy aF=>?_,by rw[dB];exact ng.2⟩;have:y.born∈es.toList.map (·.born):=by grind
   obtain⟨mK,vm,e⟩:=List.mem_map.1 this;rw[←e];exact ng.1 mK vm
  ·have afu:J5 sz cs k=true:=by
    refine List.any_eq_true.2 ⟨j,by grind,?_⟩;grind [Az,Xj,WB]
   simp only[m4,afu,if_true];refine N5 aq ?_;apply List.ext_getElem?;grind
theorem Yw{p:aa}{v:Value}(h:pr p=some v):aY φ w p v:=by cases p<;>simp[pr]at h<;>(grind [aY])
theorem Nh:∀{l:List aa}{af:List Value},lN l=some af->bl φ w l af
 |[],af,h=>by grind [lN,bl]
 |p::l,af,h=>by
  simp only[lN]at h;split at h
  ·rename_i a b au hb;injection h with h;subst h;exact⟨a,b,rfl,Yw au,Nh hb⟩
  ·cases h
theorem MN{l:List aa}{v:Value}(h:jM l=some v):aY φ w (.agg l) v:=by
 obtain⟨af,U,rfl⟩:=Option.map_eq_some_iff.1 h;exact⟨af,rfl,Nh U⟩
theorem ZV{p:aa}{u v:Value}(h:pr p=some v)(ad:aY φ w p u):u=v:=by cases p<;>simp[pr]at h<;>(grind [aY])
theorem N6:∀{l:List aa}{us af:List Value},lN l=some af->bl φ w l us->us=af
 |[],us,af,h,ad=>by grind [lN,bl]
 |p::l,us,af,h,ad=>by
  simp only[lN]at h;obtain⟨u,us',rfl,aT,U⟩:=ad;split at h
  ·rename_i a b au hb;injection h with h;subst h;rw[ZV au aT,N6 hb U]
  ·cases h
theorem Xl{l:List aa}{u v:Value}(h:jM l=some v)(ad:aY φ w (.agg l) u):u=v:=by
 obtain⟨af,U,rfl⟩:=Option.map_eq_some_iff.1 h;obtain⟨us,rfl,ab⟩:=ad;rw[N6 U ab]
theorem CW{b:Nat}{o o':Obj}(h:w.heap[b]?=some o):(setBlock w b o').heap[b]?=some o':=by grind [setBlock]
theorem GO{b c:Nat}{o':Obj}(h:c≠b):(setBlock w b o').heap[c]?=w.heap[c]?:=by grind [setBlock]
theorem Mm{b:Nat}{o':Obj}:(setBlock w b o').heap.size=w.heap.size:=by simp[setBlock]
theorem Wf{o:Oper}{t cR e:TypeId}(aE:o.op=.makeMap t none)(h:cW φ w N s a)(bh:cY A φ w s.bb)(aV:∀t,o.dst=some t->t<N)(hu:P.underlying t=some (.map cR e))(a9:K (s.qa o.dst false (P.cellsOf cR) [])):
  o.dE r P a w (Good A N a.defers K) Q:=by
 have gM:=heap_alloc_new w (.map #[] 0);refine P4 (λc e=>by grind) h bh aV (it:=false) (sz:=P.cellsOf cR) (cs:=[]) (ob:=.map #[] 0) (v:=.map (some w.heap.size)) ?_ (.inr (.inl ⟨_,_,gM⟩)) ⟨w.heap.size,rfl,by simp[o9,bo.fD],#[],0,gM,⟨by simp,by simp⟩,rfl⟩ a9;simp[execOp,aE,Instr.makeMap]
theorem Xm{o:Oper}{t cR e:TypeId}{x:Operand}{sz:Nat}{cs:List aa}(aE:o.op=.range t x)(h:cW φ w N s a)(bh:cY A φ w s.bb)(aV:∀t,o.dst=some t->t<N)(hu:P.underlying t=some (.map cR e))
  (aj:s.ay x=.mp false none sz cs) (bX:0<sz) (a9:K (s.qa o.dst true sz (e8 [.ca] sz++cs))):o.dE r P a w (Good A N a.defers K) Q:=by
 have ai:=h.ay x;rw[aj]at ai;obtain⟨ky,ai,ae,es,eS,hb,ng,aq⟩:=ai;have gM:=heap_alloc_new w (.mapIter (some ky) eS #[] eS);have S7:=jK hb;have aej:leftOf es #[]=es:=by unfold leftOf;simp
 refine P4 (λc e=>by grind) h bh aV (it:=true) (sz:=sz) (cs:=e8 [.ca] sz++cs) (ob:=.mapIter (some ky) eS #[] eS) (v:=.pointer (some ⟨w.heap.size,0,none⟩)) ?_ (.inr (.inr ⟨_,_,_,_,gM⟩))
  ⟨w.heap.size,rfl,by simp[o9,bo.fD],ky,eS,#[],es,gM,λar=>?_,(CV w _ ky S7).trans hb,ng,_,cs,rfl,?_,by grind,.inl ⟨rfl,?_⟩⟩ a9
 ·have fR:a.eval x=.map (some ky):=ai;simp[execOp,aE,fR,Instr.range,run_underlying hu,MapKept.run_getObj_map hb,Result.andThen]
 ·rcases C5 ar with k|k
  ·exact ae k
  ·omega
 ·have:∀n,(e8 [aa.ca] n).length=n:=λn=>by induction n with|zero=>rfl|succ n az=>simp[e8,az]
  grind
 ·obtain⟨m,rfl⟩:∃m,sz=m+1:=⟨sz-1,by omega⟩;rfl
theorem Xn{o:Oper}{x:Operand}{id sz:Nat}{cs:List aa}(aE:o.op=.entry x)(h:cW φ w N s a)(bh:cY A φ w s.bb)(aV:∀t,o.dst=some t->t<N)
  (aj:s.ay x=.mp true (some id) sz cs) (rM:(jM (cs.take sz)).isSome=true) (a9:K (s.put o.dst (.bD [.agg (cs.take sz),.bad]))):o.dE r P a w (Good A N a.defers K) Q:=by
 have ai:=h.ay x;rw[aj]at ai;obtain⟨b,ai,ae,ky,eS,seen,es,hb,ar,zv,ng,mI,rem,rfl,KL,aq,ak⟩:=ai;have BO:(mI++rem).take sz=mI:=by grind
 rw[BO]at rM a9;rcases ak with⟨_,ak⟩|⟨e,cc,he,rfl,ak⟩
 ·grind
 ·have ad:=run_entry_at (P:=P) w b ky eS cc es eS e hb zv he ng.2;refine iG (λc e=>by grind) h bh aV (v:=.tuple #[e.key,e.val]) (pv:=.bD [.agg mI,.bad]) ?_ ⟨[e.key,e.val],rfl,_,_,rfl,MN ak,_,_,rfl,by trivial,rfl⟩ a9;have fR:a.eval x=.pointer (some ⟨b,0,none⟩):=ai;simp_all[execOp]
theorem WC{o:Oper}{t cR e:TypeId}{x k y:Operand}{id sz:Nat}{cs key:List aa}(aE:o.op=.mapUpdate t x k y)(h:cW φ w N s a)(bh:cY A φ w s.bb)(aV:∀t,o.dst=some t->t<N)
  (m5:∀e φ w,cY A φ w (s.bb++[e])->cY A φ w (gV s.bg.a s.bb [e])) (hu:P.underlying t=some (.map cR e)) (CF:Maps.Keyed P cR) (nX:o.dst=none)
  (aj:s.ay x=.mp false (some id) sz cs) (xt:s.ay k=.agg key) (bX:0<sz) (vl:key.length=sz) (aQ:AR P cR sz cs=true) (rL:uL P cR key=true)
  (a9:K (s.q6 id sz (m4 sz cs key))):o.dE r P a w (Good A N a.defers K) Q:=by
 have ai:=h.ay x;rw[aj]at ai;obtain⟨b,ai,ae,es,eS,hb,ng,aq⟩:=ai;have rM:=h.ay k;rw[xt]at rM;obtain⟨Gr,S8⟩:∃Gr,jM key=some Gr:=by grind [uL]
 have ag9:=Xl S8 rM;obtain⟨ec,BQ,ad,afv,gx⟩:=Xk (x:=a.eval y) hu CF bX vl aQ rL hb ng aq S8;have ms:qg id b sz (m4 sz cs key) φ w (setBlock w b (.map ec BQ)):=by
  refine⟨ae,λi hi=>h.mem.hp i id b hi ae,by grind [Mm],λc ah _=>GO ah,λcur e f k=>(by grind),λit gD v hm=>?_⟩;obtain⟨gf,gH,qB,hm⟩:=hm;have:gf=b:=by have:=(show φ.arr id=some gf from qB).symm.trans ae;grind
  subst this;cases it with
  |false=>exact⟨gf,gH,qB,ec,BQ,CW hb,afv,gx⟩
  |true=>grind
 refine OW (λc e=>by grind) h bh aV m5 ms rfl rfl rfl (.inr (.inl ⟨_,_,CW hb⟩)) (res:=.skip) ?_ (.inl ⟨rfl,nX,a9⟩);have fR:a.eval x=.map (some b):=ai;simp_all[execOp]
theorem Yx{o:Oper}{x:Operand}{id sz:Nat}{cs:List aa}(aE:o.op=.next x false)(h:cW φ w N s a)(bh:cY A φ w s.bb)(aV:∀t,o.dst=some t->t<N)
  (m5:∀e φ w,cY A φ w (s.bb++[e])->cY A φ w (gV s.bg.a s.bb [e])) (bX:0<sz)
  (aj:s.ay x=.mp true (some id) sz cs) (aT:(cs.drop sz).length/sz=0->K (s.put o.dst (.bD [.bool false])))
  (a9:∀i,i<(cs.drop sz).length/sz->K ((s.q6 id sz (chunk sz (cs.drop sz) i++hL sz (cs.drop sz) i)).put o.dst (.bD [.bool true,.agg (chunk sz (cs.drop sz) i),.bad]))):
  o.dE r P a w (Good A N a.defers K) Q:=by
 have iY:∀c,o.op≠.defer c:=λc e=>by grind
 have ai:=h.ay x;rw[aj]at ai;obtain⟨b,ai,ae,ky,eS,seen,es,hb,fu,zv,ng,mI,rem,rfl,KL,aq,ak⟩:=ai;have BS:(mI++rem).drop sz=rem:=by grind
 rw[BS]at aT a9;have hlen:=DN aq;have Bs:rem.length/sz=(leftOf es seen).toList.length:=by simp_all
 rcases run_next_at (P:=P) w o.type b ky eS eS seen es eS hb zv ng.1 (Nat.le_refl _)with⟨U,ab⟩|⟨e,he,w1,fg,ab⟩
 ·refine iG iY h bh aV (v:=.tuple #[.bool false]) (pv:=.bD [.bool false]) ?_ ⟨[.bool false],rfl,_,_,rfl,rfl,rfl⟩ (aT (by grind));have fR:a.eval x=.pointer (some ⟨b,0,none⟩):=ai;simp_all[execOp]
 ·obtain⟨j,aC,aha⟩:=List.getElem_of_mem he;have S9:(leftOf es seen).toList[j]?=some e:=by grind
  have u4:=Az aq j e S9;have afw:=Ys ng.2 S9;have vn:lQ sz (hL sz rem j) (leftOf es (seen.push e.born)).toList:=by grind [Ng]
  have Fg:w1.heap=w.heap:=by rcases fg with rfl|rfl<;>rfl
  have hf:e∈es.toList:=by grind [leftOf]
  have lY:w1.heap[b]?=some (.mapIter (some ky) eS seen eS):=by grind
  have afx:ky≠b:=λe=>by grind
  have iu:(chunk sz rem j).length=sz:=by
   have:j*sz+sz<=rem.length:=by
    rw[hlen,←Nat.succ_mul];exact Nat.mul_le_mul_right _ aC
   simp[chunk];omega
  have ms:qg id b sz (chunk sz rem j++hL sz rem j) φ w (setBlock w1 b (.mapIter (some ky) eS (seen.push e.born) eS)):=by
   refine⟨ae,λi hi=>h.mem.hp i id b hi ae,by rw[Mm,Fg];exact Nat.le_refl _,λc ah _=>by rw[GO ah,Fg],λcur e f k=>(by rw[hb]at k;cases k),λit gD v hm=>?_⟩;obtain⟨gf,gH,qB,hm⟩:=hm;have:gf=b:=by have:=(show φ.arr id=some gf from qB).symm.trans ae;injection this
   subst this;cases it with
   |false=>obtain⟨_,_,U,_⟩:=hm;rw[hb]at U;cases U
   |true=>exact⟨gf,gH,qB,ky,eS,_,es,CW lY,fu,by rw[GO afx,Fg];exact zv,ng,_,_,rfl,iu,vn,.inr ⟨e,seen,hf,rfl,u4⟩⟩
  refine OW iY h bh aV m5 ms (by rcases fg with rfl|rfl<;>rfl) (by rcases fg with rfl|rfl<;>rfl) (by rcases fg with rfl|rfl<;>rfl) (.inr (.inr ⟨_,_,_,_,CW lY⟩)) (res:=.value (.tuple #[.bool true,e.key,e.val])) ?_
   (.inr ⟨_,.bD [.bool true,.agg (chunk sz rem j),.bad],rfl,⟨[.bool true,e.key,e.val],rfl,_,_,rfl,rfl,_,_,rfl,MN u4,_,_,rfl,by simp only[aY],rfl⟩,a9 j (by rw[Bs];exact aC)⟩)
  have fR:a.eval x=.pointer (some ⟨b,0,none⟩):=ai;simp_all[execOp]
end
end
section
open Go Go.RowKit
variable[cQ]
section
variable{P:Program}{φ:bo}{w:World}{A:Anchor}{N n:Nat}{s:aA}{a:Act}{K:aA->Prop}{Q:Exit->Act->World->Prop}{r:Option Nat}{m:Mem}
mutual
theorem H3{bg:Nat}(aW:∀i b,φ.arr i=some b->i<bg){e:b9}(he:bg<=e.id):∀(q:aa)(c:Value),aY φ w q c->q.bW e=q
 |.sl (some i) sz off len cs,c,h=>by
  obtain⟨_,a,cap,_,_,h⟩:=h;rcases h with h|⟨b,_,ae,dA⟩
  ·grind
  ·have hi:i≠e.id:=by have:=aW i b ae.1;omega
   have ak:=Am aW he b cs off dA;cases e<;>simp only[aa.bW,b9.id]at hi⊢<;>rw[if_neg hi,ak]
 |.sl none sz off len cs,c,h=>by
  obtain⟨ak,a,cap,_,_,h⟩:=h;rcases h with h|⟨b,_,ae,dA⟩
  ·simp_all[aa.bW,eF]
  ·simp only[aa.bW];rw[Am aW he b cs off dA]
 |.bJ (some i) off cs,c,h=>by
  obtain⟨b,_,ae,dA⟩:=h;have hi:i≠e.id:=by have:=aW i b ae.1;omega
  have ak:=Am aW he b cs off dA;cases e<;>simp only[aa.bW,b9.id]at hi⊢<;>rw[if_neg hi,ak]
 |.bJ none off cs,c,h=>by
  obtain⟨b,_,ae,dA⟩:=h;simp only[aa.bW];rw[Am aW he b cs off dA]
 |.fn f caps,c,h=>by
  obtain⟨af,_,h⟩:=h;simp only[aa.bW];rw[DO aW he caps af h]
 |.agg cs,c,h=>by
  obtain⟨af,_,h⟩:=h;simp only[aa.bW];rw[DO aW he cs af h]
 |.bD cs,c,h=>by
  obtain⟨af,_,h⟩:=h;simp only[aa.bW];rw[DO aW he cs af h]
 |.mp it none sz cs,c,h=>by rfl
 |.mp it (some i) sz cs,c,h=>by
  obtain⟨b,_,ae,_⟩:=h;have hi:i≠e.id:=by have:=aW i b ae;omega
  cases e<;>simp only[aa.bW,b9.id]at hi⊢<;>rw[if_neg hi]
 |.int _ _,_,_ | .bool _,_,_ | .str _,_,_ | .undef,_,_ | .bad,_,_ | .ca,_,_ | .eL,_,_ | .bC,_,_ | .dead _,_,_ | .cq _,_,_ | .ptr _ _,_,_=>by rfl
theorem DO{bg:Nat}(aW:∀i b,φ.arr i=some b->i<bg){e:b9}(he:bg<=e.id):∀(l:List aa)(af:List Value),bl φ w l af->eF e l=l
 |[],_,_=>rfl
 |p::l,af,h=>by
  obtain⟨v,cB,_,aT,U⟩:=h;simp only[eF];rw[H3 aW he p v aT,DO aW he l cB U]
theorem Am{bg:Nat}(aW:∀i b,φ.arr i=some b->i<bg){e:b9}(he:bg<=e.id)(b:Nat):∀(l:List aa)(off:Nat),b7 φ w b l off->eF e l=l
 |[],_,_=>rfl
 |p::l,off,h=>by
  obtain⟨⟨c,_,aT⟩,U⟩:=h;simp only[eF];rw[H3 aW he p c aT,Am aW he b l (off+1) U]
end
theorem MO{bg:Nat}(aW:∀i b,φ.arr i=some b->i<bg){q:aa}{c:Value}(h:aY φ w q c):∀E:List b9,q.sub (pX bg E)=q.sub E
 |[]=>rfl
 |e::E=>by
  simp only[pX];split
  ·rw[MO aW h E];grind [aa.sub,H3]
  ·rfl
theorem Step.drop{gg:bo}{c9:World}{bg:Nat}(aW:∀i b,gg.arr i=some b->i<bg){E:List b9}(h:Step gg c9 φ w E):Step gg c9 φ w (pX bg E):=
 ⟨λq c aH=>by rw[MO aW aH];exact h.tr q c aH,h.os,h.output,h.size,h.rest⟩
theorem cY.add{bg:Nat}(aW:∀i b,A.gg.arr i=some b->i<bg){bb E:List b9}(h:cY A φ w (bb++E)):cY A φ w (gV bg bb E):=by
 cases bb with
 |nil=>exact⟨h.st.drop aW,h.a8⟩
 |cons e es=>exact h
def Bt(φ:bo)(w:World):Option aa->Option Value->Prop
 |none,none=>True
 |some p,some v=>aY φ w p v
 |_,_=>False
theorem DQ{lo:Option aa}{vlo:Option Value}{d l y:Nat}(h:rm d lo=some l)(ad:Bt φ w lo vlo)(aF:l<=y)(c:BoundsCode):
  (match vlo with|some v=>Instr.sliceBound v y c|none=>pure d:Sem Nat).run P w=.ok l w:=by
 cases lo with
 |none=>cases vlo with
  |none=>simp_all[rm]
  |some v=>trivial
 |some p=>cases vlo with
  |none=>trivial
  |some v=>
   cases p with
   |int k dZ=>
    simp only[rm]at h;split at h
    ·injection h with h;have e:v=.int k dZ:=ad;subst h;simp_all[Instr.sliceBound,asIntOf]
    ·cases h
   |_=>simp[rm]at h
theorem ZW{t:TypeId}{x pv:aa}{lo hi:Option aa}{dP:Value}{vlo vhi:Option Value}(h:p1 P t x lo hi=some pv)(aj:aY φ w x dP)(FJ:Bt φ w lo vlo)(TV:Bt φ w hi vhi):
  ∃v,(Instr.sliceAt t dP vlo vhi none).run P w=.ok v w/\aY φ w pv v:=by
 unfold p1 at h;split at h
 ·rename_i e id sz off len cs hu;split at h
  ·rename_i l bq gk KM;split at h
   ·rename_i ah;obtain⟨hle,hlen,bX,c1⟩:=ah;have ao:=run_sizeOf (w:=w) c1;obtain⟨hcs,vF,cap,rfl,lg,ae⟩:=aj;have aB:(Instr.sliceAt t (.slice vF len cap) vlo vhi none).run P w=.ok (.slice (if cap=l then vF else vF.map (·.add (l*sz))) (bq-l) (cap-l)) w:=by
     have hb:(Instr.sliceBounds true len cap vlo vhi none).run P w=.ok (l,bq,cap) w:=by
      have U:=DQ (P:=P) KM TV (y:=cap) (by omega) .sliceAcap;have ab:=DQ (P:=P) gk FJ (y:=bq) hle .sliceB;cases vhi<;>cases vlo<;>simp[Instr.sliceBounds]at U ab⊢<;>simp[*]
     simp[Instr.sliceAt,Instr.slice,run_underlying hu,hb,ao,bX]
    refine⟨_,aB,?_⟩;split at h
    ·rename_i he;injection h with h;subst h;subst he;exact⟨by simp,_,_,by rw[Nat.sub_self],by omega,.inl ⟨rfl,rfl,by grind⟩⟩
    ·injection h with h;subst h;rw[if_neg (by omega)];rcases ae with ae|⟨b,rfl,ae,dA⟩
     ·omega
     ·refine⟨?_,_,_,rfl,by omega,.inr ⟨b,by simp[q0],NX ae ?_,ML (G3 dA _) _⟩⟩
      ·rw[List.length_take,List.length_drop,hcs,←Nat.sub_mul];grind [Nat.mul_le_mul_right]
      ·rw[Nat.add_assoc,←Nat.add_mul];grind
   ·cases h
  ·cases h
 ·rename_i e hu;split at h
  ·rename_i l bq gk KM;split at h
   ·rename_i ah;obtain⟨rfl,rfl,c1⟩:=ah;injection h with h;subst h;have ao:=run_sizeOf (w:=w) c1;have hc:dP=.slice none 0 0:=aj;subst hc;refine⟨.slice none 0 0,?_,rfl⟩;have hb:(Instr.sliceBounds true 0 0 vlo vhi none).run P w=.ok (0,0,0) w:=by
     have U:=DQ (P:=P) KM TV (y:=0) (by omega) .sliceAcap;have ab:=DQ (P:=P) gk FJ (y:=0) (by omega) .sliceB;cases vhi<;>cases vlo<;>simp[Instr.sliceBounds]at U ab⊢<;>simp[*]
    simp[Instr.sliceAt,Instr.slice,run_underlying hu,hb,ao]
   ·cases h
  ·cases h
 ·cases h
theorem Hx(bh:cY A φ w s.bb)(g4:p9 s.bg.ys A.gg A.c9):p9 s.c7 φ w:=by
 intro y aF t;obtain⟨mK,aT,rfl⟩:=List.mem_map.1 aF;exact bh.st.tr _ _ (g4 mK aT t)
theorem Yy{o:Oper}{c:Call}{f:Operand}{g:FuncId}{caps:List aa}(ar:o.op=.call c)(de:c.callee=.value f)(h:cW φ w N s a)(bh:cY A φ w s.bb)(aV:∀t,o.dst=some t->t<N)
  (aW:∀i b,A.gg.arr i=some b->i<s.bg.a) (aQ:s.ay f=.fn g caps) (aN:∃fn,P.funcs[g]?=some fn/\fn.name ≠ "runtime.NumGoroutine" /\ fn.body.isSome)
  (g4:p9 s.bg.ys A.gg A.c9) (a9:qR P s.c7 g (c.args.toList.map s.ay++caps) s.m λv E m'=>K ((s.after E m').put o.dst v)):o.dE r P a w (Good A N a.defers K) Q:=by
 have iY:∀c,o.op≠.defer c:=λc e=>by grind
 refine o0 iY ?_;have eH:=h.ay f;rw[aQ]at eH;obtain⟨af,ai,e0⟩:=eH;obtain⟨fn,dX,hs,JC⟩:=aN;obtain⟨code,JD⟩:=Option.isSome_iff_exists.1 JC;have qb:(c.args.map a.eval++af.toArray)=(c.args.toList.map a.eval++af).toArray:=by grind
 have aB:(execOp a.eval o).run P w=.ok (.enter g (c.args.toList.map a.eval++af).toArray) w:=by simp[execOp,ar,resolve,de,ai,Deferred.ofValue,invoke,callFunc,dX,hs,JD]
 rw[aB];simp only[Oper.wP];refine(a9 φ _ w h.mem (Ad (h.evs _) e0) (Hx bh g4)).mono ?_;rintro e w' ⟨v,pv,E,m',bn,rfl,eW,eX,eo,aq⟩;refine⟨_,bn,?_,?_,put_defers _ _ _,aq⟩
 ·have U:cW bn w' N (s.after E m') a:=⟨λt=>eo.tr _ _ (h.tmp t),h.size,eX⟩;exact U.put aV eW
 ·rw[aA.uA,aA.NV];exact cY.add aW (bh.trans eo)
theorem Xo{o:Oper}{c:Call}{f:Operand}{l:Nat}{y:eN}{st:LoopState}{mJ:Option Code}(ar:o.op=.call c)(de:c.callee=.value f)(h:cW φ w N s a)(bh:cY A φ w s.bb)(aV:∀t,o.dst=some t->t<N)
  (aW:∀i b,A.gg.arr i=some b->i<s.bg.a) (aQ:s.ay f=.cq l) (g4:p9 s.bg.ys A.gg A.c9) (fb:(l,{ y.o with state:=st,pending:=mJ })∈s.m.rc) (aI:c.args.size=y.o.params.size)
  (a9:wD P s.c7 y.o l (c.args.toList.map s.ay) s.m λv E m'=>K ((s.after E m').put o.dst v)):o.dE r P a w (Good A N a.defers K) Q:=by
 have iY:∀c,o.op≠.defer c:=λc e=>by grind
 refine o0 iY ?_;have eH:=h.ay f;rw[aQ]at eH;have ai:a.eval f=.func (.yield l) #[] #[]:=eH;have wR:=h.mem.gw _ _ fb;have qb:c.args.map a.eval=(c.args.toList.map a.eval).toArray:=by grind
 have aB:(execOp a.eval o).run P w=.ok (.round l y.o.fn ((y.o.params.zip (c.args.toList.map a.eval).toArray).foldl (λtmps (t,a)=>tmps.setIfInBounds t a) y.o.tmps) y.o.assign y.o.body) w:=by simp_all[run_yield,execOp,resolve,Deferred.ofValue,invoke]
 rw[aB];simp only[Oper.wP];refine(a9 φ _ w 0 h.mem (h.evs _) (Hx bh g4)).mono ?_;rintro e w' ⟨v,pv,E,m',bn,rfl,eW,eX,eo,aq⟩;refine⟨_,bn,?_,?_,put_defers _ _ _,aq⟩
 ·have U:cW bn w' N (s.after E m') a:=⟨λt=>eo.tr _ _ (h.tmp t),h.size,eX⟩;exact U.put aV eW
 ·rw[aA.uA,aA.NV];exact cY.add aW (bh.trans eo)
theorem yn{o:Oper}(h:cW φ w N s a)(bh:cY A φ w s.bb)(aV:∀t,o.dst=some t->t<N)(aW:∀i b,A.gg.arr i=some b->i<s.bg.a)(g4:p9 s.bg.ys A.gg A.c9)(a9:eQ P s o K):
  o.dE r P a w (Good A N a.defers K) Q:=by
 obtain⟨dst,op,type,pos,after,guard⟩:=o;simp only at aV;cases op with
 |move x=>exact iG (by simp) h bh aV (by rfl) (h.ay x) a9
 |assign x=>exact iG (by simp) h bh aV (by rfl) (h.ay x) a9
 |pick c x y=>
  obtain⟨t,ah,a9⟩:=a9;have e:=h.ay c;rw[ah]at e;have e:=yv e;cases t
  ·exact iG (by simp) h bh aV (by simp[execOp,e,asBool]) (h.ay y) a9
  ·exact iG (by simp) h bh aV (by simp[execOp,e,asBool]) (h.ay x) a9
 |binOp op t x y aje=>
  obtain⟨pv,hb,a9⟩:=a9;obtain⟨v,ad,ai⟩:=ac7 hb (h.ay x) (h.ay y) x y;refine iG (by simp) h bh aV (v:=v) ?_ ai a9;show((do eqGuard op t x y (a.eval x) (a.eval y);binOp op t (a.eval x) (a.eval y):Sem Value) >>= λu=>pure (Next.value u)).run P w=_;rw[Sem.run_bind,ad];rfl
 |unOp op t x=>
  obtain⟨pv,hb,a9⟩:=a9;obtain⟨v,ad,ai⟩:=aeh (P:=P) hb (h.ay x);exact iG (by simp) h bh aV (by simp[execOp,ad]) ai a9
 |convert src CG x=>
  obtain⟨pv,hb,a9⟩:=a9;obtain⟨v,ad,ai⟩:=abq hb (h.ay x);exact iG (by simp) h bh aV (by simp[execOp,ad]) ai a9
 |extract x i=>
  simp only[eQ]at a9;split at a9
  ·rename_i af he;obtain⟨pv,hb,a9⟩:=a9;have e:=h.ay x;rw[he]at e;obtain⟨us,e,zt⟩:=e;obtain⟨v,ai,ad⟩:=o1 zt hb;exact iG (by simp) h bh aV (by simp[execOp,e,Instr.extract,ai]) ad a9
  grind
 |fieldAddr t x f=>
  obtain⟨pv,hb,a9⟩:=a9;obtain⟨v,ad,ai⟩:=ZP hb (h.ay x);exact iG (by simp) h bh aV (by simp[execOp,ad]) ai a9
 |field t x f=>
  obtain⟨pv,hb,a9⟩:=a9;obtain⟨v,ad,ai⟩:=Ym hb (h.ay x);exact iG (by simp) h bh aV (by simp[execOp,ad]) ai a9
 |indexAddr t x i=>
  obtain⟨pv,hb,a9⟩:=a9;obtain⟨v,ad,ai⟩:=We hb (h.ay x) (h.ay i);exact iG (by simp) h bh aV (by simp[execOp,ad]) ai a9
 |index t x i=>
  obtain⟨pv,hb,a9⟩:=a9;obtain⟨v,ad,ai⟩:=ZQ hb (h.ay x) (h.ay i);exact iG (by simp) h bh aV (by simp[execOp,ad]) ai a9
 |load t x=>
  obtain⟨pv,hb,a9⟩:=a9;obtain⟨v,ad,ai⟩:=PY hb h.mem (h.ay x);exact iG (by simp) h bh aV (by simp[execOp,ad]) ai a9
 |build t parts=>
  obtain⟨pv,hb,a9⟩:=a9;obtain⟨v,ad,ai⟩:=ZT h hb;exact iG (by simp) h bh aV (by grind [execOp,Sem.run_bind,Result.andThen_ok,Sem.run_pure]) ai a9
 |nilCheck x=>
  simp only[eQ]at a9;split at a9
  ·rename_i i off he;have e:=h.ay x;rw[he]at e;obtain⟨b,hb,e⟩:=e;exact iG (by simp) h bh aV (v:=.pointer (some ⟨b,off,none⟩)) (pv:=.ptr i off) (by simp[execOp,e]) ⟨b,hb,rfl⟩ a9
  ·rename_i f caps he;have e:=h.ay x;rw[he]at e;obtain⟨af,e,e0⟩:=e;exact iG (by simp) h bh aV (v:=.func (.func f) #[] af.toArray) (pv:=.fn f caps) (by simp[execOp,e]) ⟨af,rfl,e0⟩ a9
  grind
 |box t x=>
  obtain⟨aq,a9⟩:=a9;exact OU (by simp) h bh aV (e:=t) (cs:=(a.eval x).cells.toList) (by rfl) (Al (h.ay x) aq) a9
 |alloc t=>
  obtain⟨z,bO,a9⟩:=a9;obtain⟨i,fx,hi,tq,rfl⟩:=ye bO;exact OU (by simp) h bh aV (e:=t) (cs:=fx.cells.toList) (by simp[execOp,Instr.alloc,zeroValue,typeInfo,hi,tq,newVar,newRow]) (C6 φ w _) a9
 |makeMap t r=>
  obtain⟨rfl,a9⟩:=a9;grind [Wf]
 |mapUpdate t m k x=>
  obtain⟨nX,a9⟩:=a9;grind [WC,cY.add]
 |range t x=>grind [eQ,Xm]
 |next x str=>
  obtain⟨rfl,a9⟩:=a9;grind [Yx,cY.add]
 |entry x=>grind [eQ,Xn]
 |makeFunc fn first caps=>
  cases fn with
  |func f=>
   obtain⟨rfl,a9⟩:=a9;obtain⟨l⟩:=caps;exact iG (by simp) h bh aV (v:=.func (.func f) #[] (l.map a.eval).toArray) (pv:=.fn f (l.map s.ay)) (by simp[execOp,Instr.makeFunc]) ⟨l.map a.eval,rfl,h.evs l⟩ a9
  |_=>trivial
 |slice t x lo hi qC=>
  cases qC with
  |some _=>trivial
  |none=>
   obtain⟨pv,hb,a9⟩:=a9;obtain⟨v,ad,ai⟩:=ZW (vlo:=lo.map a.eval) (vhi:=hi.map a.eval) hb (h.ay x) (by cases lo<;>simp[Bt,h.ay]) (by cases hi<;>simp[Bt,h.ay]);exact iG (by simp) h bh aV (by simp[execOp,ad]) ai a9
 |buildSlice t len parts=>
  simp only[eQ]at a9;grind [VA,Mh]
 |makeSlice t l c=>grind [eQ,Yr]
 |store t x y=>
  obtain⟨nX,a9⟩:=a9;simp only at nX;subst nX;simp only[uK]at a9;split at a9
  ·rename_i id off aj;obtain⟨cr,hi,ah,U,l,fW,aQ,a9⟩:=a9;have aq:(s.ay y).known=true:=by cases aF:s.ay y<;>first|rfl|grind [aa.cells,aa.one]
   have e:=h.ay x;rw[aj]at e;obtain⟨w',ad,eX,eo⟩:=Yn hi ah U h.mem cr fW aQ e (h.ay y) aq;refine o0 (by simp) ?_;have aB:(execOp a.eval ⟨none,.store t x y,type,pos,after,guard⟩).run P w=.ok .skip w':=by simp[execOp,ad]
   rw[aB];refine⟨s.hq id (fa l off (s.ay y).cells),φ,⟨λu=>eo.tr _ _ (h.tmp u),h.size,eX⟩,?_,rfl,a9⟩;have:=bh.trans eo;simp_all
  ·rename_i id off cs aj;obtain⟨hi,eb,ah,U,hle,aI,a9⟩:=a9;have aq:(s.ay y).known=true:=by cases aF:s.ay y<;>first|rfl|grind [aa.cells,aa.one]
   have e:=h.ay x;rw[aj]at e;obtain⟨w',ad,eX,eo⟩:=Yo hi eb ah U hle aI h.mem e (h.ay y) aq;refine o0 (by simp) ?_;have aB:(execOp a.eval ⟨none,.store t x y,type,pos,after,guard⟩).run P w=.ok .skip w':=by simp[execOp,ad]
   rw[aB];refine⟨s.gY (nd id off (s.ay y).cells),φ,⟨λu=>eo.tr _ _ (h.tmp u),h.size,eX⟩,?_,rfl,a9⟩;rw[aA.Ix];exact cY.add aW (bh.trans eo)
  grind
 |call c=>
  simp only[eQ]at a9;split at a9
  ·grind [Yy,Xo]
  ·rename_i de;split at a9
   ·rename_i t x a1 aj;obtain⟨pv,hb,a9⟩:=a9;obtain⟨callee,args,fl⟩:=c;obtain⟨l⟩:=args;simp only at de aj a1;subst de;subst aj;obtain⟨v,ad,ai⟩:=ac8 (P:=P) a1 hb (h.ay x) type;exact iG (by simp) h bh aV (by simp[execOp,resolve,invoke,builtin,ad]) ai a9
   grind
  ·rename_i de;obtain⟨pv,hb,a9⟩:=a9;obtain⟨callee,args,fl⟩:=c;obtain⟨l⟩:=args;simp only at de;subst de;obtain⟨v,ad,ai⟩:=(Sh (P:=P) (pv:=pv) (h.evs l) fl type).1 hb;exact iG (by simp) h bh aV (by simp[execOp,resolve,invoke,builtin,ad]) ai a9
  ·rename_i de;obtain⟨pv,hb,a9⟩:=a9;obtain⟨callee,args,fl⟩:=c;obtain⟨l⟩:=args;simp only at de;subst de;obtain⟨v,ad,ai⟩:=(Sh (P:=P) (pv:=pv) (h.evs l) fl type).2 hb;exact iG (by simp) h bh aV (by simp[execOp,resolve,invoke,builtin,ad]) ai a9
  ·rename_i de;split at a9
   ·rename_i t bw x y a1 aj;obtain⟨rfl,a9⟩:=a9;obtain⟨callee,args,fl⟩:=c;obtain⟨l⟩:=args;simp only at de aj a1;subst de;subst aj;subst a1;exact Wz rfl h bh aV (λi φ w ao=>cY.add aW ao) a9
   ·exact a9.elim
  grind
 |_=>exact a9.elim
end
end
end Go.Proofs.YtlminnpaeaganaaGreat
