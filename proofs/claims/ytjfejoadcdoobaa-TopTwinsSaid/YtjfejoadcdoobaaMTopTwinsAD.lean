/- Part of the proof of TopTwins. No condition. -/
import Derived.Test.YtjfejoadcdoobaaMTopTwinsAC
namespace Go.Proofs.Ytjfejoadcdoobaa
set_option maxRecDepth 100000
set_option linter.all false
section
open Go Go.RowKit
variable[Sp]
section
variable{P:Program}{φ:Phi}{w:World}{A:Anchor}{N n:Nat}{s:St}{a:Act}{K:St->Prop}{Q:Exit->Act->World->Prop}{r:Option Nat}{m:Mem}
theorem cells_get{b off:Nat}{cur:Array Value}{e:TypeId}{f:Nat×Nat}(h:w.heap[b]?=some (.cells cur e f)){j:Nat}{v:Value}(hc:w.cell? ⟨b,off+j,none⟩=some v):cur[off+j]?=some v:=by
 simp only[World.cell?,h]at hc;simpa using hc
theorem good_append{o:Oper}{t:TypeId}{x y:Operand}(ho:o.op=.call { callee:=.builtin .append,args:=#[x,y],argTypes:=#[t,t] })
  (h:SRel φ w N s a) (hst:Anch A φ w s.eff) (hd:∀t,o.dst=some t->t<N) (hadd:∀(i:Nat) φ w,Anch A φ w (s.eff++[Eff.kill i])->Anch A φ w (addEff s.a0.a s.eff [Eff.kill i]))
  (hK:aAppend P s o.dst t (s.ev x) (s.ev y) K):o.wpX r P a w (Good A N a.defers K) Q:=by
 have hdf:∀c,o.op≠.defer c:=λc e=>by rw[ho]at e;cases e
 have hrun:∀{v:Value}{w':World},(Builtin.append_ #[t,t] o.type #[a.eval x,a.eval y]).run P w=.ok v w'->(execOp a.eval o).run P w=.ok (.value v) w':=λ{v w'} hr=>by simp[execOp,ho,resolve,invoke,builtin,hr]
 unfold aAppend at hK;split at hK
 ·rename_i e hu;obtain⟨hi,hpos,hzz,hK⟩:=hK;obtain⟨i,hi',hsz,hby⟩:=info_of_isSome hi;obtain⟨z,hz,hzc⟩:∃z,i.zero=some z/\z.cells.size=i.size:=by
   unfold zeroOf at hzz;rw[hi']at hzz;simp only[Option.bind_some]at hzz;cases hzi:i.zero with
   |none=>rw[hzi]at hzz;simp at hzz
   |some z=>rw[hzi]at hzz;exact⟨z,rfl,by simpa[hsz]using hzz⟩
  split at hK
  ·rename_i mm news hy;obtain⟨hone,hK⟩:=hK;obtain⟨hnl,ay,cy,ey,hsrc⟩:=tail_src hy (h.ev y);rw[ey]at hrun;split at hK
   ·rename_i hx;obtain⟨hb1,hb2,hK⟩:=hK;have ex:a.eval x=.slice none 0 0:=by have:=h.ev x;rw[hx]at this;exact this
    rw[ex]at hrun;rcases Nat.eq_zero_or_pos mm with h0|h0
    ·subst h0;rw[if_pos rfl]at hK;exact good_val hdf h hst hd (hrun (run_append_zero w t o.type e i hu hi' none 0 0 (Nat.le_refl _) ay cy)) (pv:=.snil) rfl hK
    ·rw[if_neg (by omega)]at hK;obtain⟨b,off,vs,rfl,hvs,hg⟩:=hsrc h0;have hvl:vs.length=mm*i.size:=by rw[←vrelL_length hvs,hnl,hsz]
     have hge:=grownCap_ge w mm 0 e;refine good_arr hdf h hst hd (Grows.drew_alloc w _) (hrun (run_append_nil w t o.type e i z hu hi' hz ⟨b,off,none⟩ mm cy vs hvl (λj v hv=>by rw[add_mk];exact hg j v hv) h0 (by omega) (by rw[hby]at hb1;omega)))
      (heap_alloc_new w.drew _) (sz:=P.cellsOf e) hnl hge ?_ hvs (λj v hv=>?_) hK
     ·rw[Array.size_append,List.size_toArray,size_zeroCells,hzc,hvl,hsz,←Nat.add_mul];congr 1;omega
     ·have hj:j<vs.length:=(List.getElem?_eq_some_iff.1 hv).1;rw[Array.getElem?_append_left (by simpa using hj)];simpa using hv
   ·rename_i id sz off len cs hx;obtain⟨rfl,rfl,hb1,hb2,hn,hK⟩:=hK;have hxv:=h.ev x;rw[hx]at hxv;obtain⟨hl,ax,cap,ex,hcap,hp⟩:=hxv;rw[ex]at hrun;rcases hp with hp|⟨b,rfl,⟨ha,cur,e0,hb,hroom⟩,hat⟩
    ·exact absurd hp.1 (by simp)
    obtain⟨vs,hvs,hg⟩:=vals_of_at hat;have hgc:∀(j:Nat) v,vs[j]?=some v->cur[j]?=some v:=λj v hv=>by
     have:=cells_get hb (hg j v hv);simpa using this
    have hvl:vs.length=len*i.size:=by rw[←vrelL_length hvs,hl,hsz]
    rcases Nat.eq_zero_or_pos mm with h0|h0
    ·subst h0;have hn0:news=[]:=List.eq_nil_of_length_eq_zero (by simpa using hnl);subst hn0;rw[List.append_nil]at hK hn;exact good_kill hdf h hst hd (hadd id) ha (.inl rfl) (Nat.le_refl _) (λ_ _ _=>rfl) rfl rfl rfl hb (hrun (run_append_zero w t o.type e i hu hi' _ len cap hcap ay cy)) hl hcap (by omega) hvs hn hgc hK
    ·obtain⟨b',off',us,rfl,hus,hg'⟩:=hsrc h0;have hul:us.length=mm*i.size:=by rw[←vrelL_length hus,hnl,hsz]
     have hnews:∀j u,us[j]?=some u->w.cell? ((⟨b',off',none⟩:Addr).add j)=some u:=λj v hv=>by rw[add_mk];exact hg' j v hv
     have hlen:(cs++news).length=(len+mm)*P.cellsOf e:=by rw[List.length_append,hl,hnl,Nat.add_mul]
     have hvu:=vrelL_append hvs hus;by_cases hfit:len+mm<=cap
     ·have hcells:len*i.size+us.length<=cur.size:=by
       rw[hul,←Nat.add_mul,←hsz];exact Nat.le_trans (Nat.mul_le_mul_right _ hfit) (by omega)
      have hr:=run_append_room' (P:=P) w t o.type e e0 i hu hi' b len cap cur hb ⟨b',off',none⟩ mm cy us hul hnews (relL_one hus hone) hfit hcells;have hcl:cur.toList.length=cur.size:=by simp
      refine good_kill hdf h hst hd (hadd id) ha (.inl rfl) (by rw[setRow_size];exact Nat.le_refl _) (λc _ hc=>setRow_other w b c _ hc) rfl rfl rfl (setRow_heap w b cur _ e0 _ hb) (hrun hr) hlen hfit ?_ hvu hn (λj v hv=>?_) hK
      ·simp only[List.size_toArray,List.length_append,List.length_take,List.length_drop,Array.length_toList];omega
      ·have htk:vs=cur.toList.take (len*i.size):=by
        apply List.ext_getElem?;intro k;rw[List.getElem?_take];by_cases hk:k<len*i.size
        ·rw[if_pos hk];have hk':k<vs.length:=by omega
         have:=hgc k vs[k] (by simp[hk']);simp[hk']at this⊢;exact this.symm
        ·rw[if_neg hk,List.getElem?_eq_none (by omega)]
       rw[←htk];have hj:j<(vs++us).length:=(List.getElem?_eq_some_iff.1 hv).1;simp only[List.getElem?_toArray];rw[List.getElem?_append_left hj];exact hv
     ·have hr:=run_append_grow (P:=P) w t o.type e i z hu hi' hz ⟨b,0,none⟩ len cap vs hvl (λj v hv=>by rw[add_mk];exact hg j v hv) ⟨b',off',none⟩ mm cy us hul hnews (by omega) (by omega)
       (growslice_fits (by omega) (by rw[←hby];exact hb1))
      have hge:=grownCap_ge w (len+mm) cap e;refine good_kill hdf h hst hd (hadd id) ha (.inr rfl) (by simp) (λc hc _=>heap_alloc_lt w.drew _ c hc) rfl rfl rfl (heap_alloc_new w.drew _) (hrun hr) hlen hge ?_ hvu hn (λj v hv=>?_) hK
      ·rw[Array.size_append,Array.size_append,List.size_toArray,List.size_toArray,size_zeroCells,hzc,hvl,hul,hsz,←Nat.add_mul,←Nat.add_mul];exact Nat.mul_le_mul_right _ (by omega)
      ·have hj:j<(vs++us).length:=(List.getElem?_eq_some_iff.1 hv).1;rw[Array.getElem?_append_left (by simpa using hj)];simpa using hv
   ·exact hK.elim
  ·exact hK.elim
 ·exact hK.elim
theorem foldl_set(off:Nat):∀(vs:List Value)(k:Nat)(cells:Array Value),((vs.zipIdx k).foldl (λcs (c,j)=>cs.setIfInBounds (off+j) c) cells).size=cells.size /\
  ∀i,((vs.zipIdx k).foldl (λcs (c,j)=>cs.setIfInBounds (off+j) c) cells)[i]?=if off+k<=i/\i<off+k+vs.length/\i<cells.size then vs[i-(off+k)]? else cells[i]?
 |[],k,cells=>by simp;intro i h1 h2;omega
 |v::vs,k,cells=>by
  rw[List.zipIdx_cons,List.foldl_cons];obtain⟨h1,h2⟩:=foldl_set off vs (k+1) (cells.setIfInBounds (off+k) v);refine⟨by rw[h1];simp,λi=>?_⟩;rw[h2 i];simp only[Array.size_setIfInBounds,List.length_cons];by_cases hi:i<cells.size
  ·by_cases h0:i=off+k
   ·subst h0;rw[if_neg (by omega),if_pos ⟨by omega,by omega,hi⟩];simp[hi]
   ·by_cases hin:off+(k+1)<=i/\i<off+(k+1)+vs.length/\i<cells.size
    ·rw[if_pos hin,if_pos ⟨by omega,by omega,hi⟩,show i-(off+k)=(i-(off+(k+1)))+1 by omega];simp
    ·rw[if_neg hin,if_neg (by omega),Array.getElem?_setIfInBounds_ne (by omega)]
  ·rw[if_neg (by omega),if_neg (by omega)];by_cases h0:off+k=i
   ·subst h0;simp[hi]
   ·rw[Array.getElem?_setIfInBounds_ne h0]
theorem fold_splice(off:Nat)(vs cells:Array Value)(h:off+vs.size<=cells.size):
  (vs.zipIdx.foldl (λcs (c,j)=>cs.setIfInBounds (off+j) c) cells).toList=cells.toList.take off++vs.toList++cells.toList.drop (off+vs.toList.length):=by
 have hf:=foldl_set off vs.toList 0 cells;have he:vs.zipIdx.foldl (λcs (c,j)=>cs.setIfInBounds (off+j) c) cells=(vs.toList.zipIdx 0).foldl (λcs (c,j)=>cs.setIfInBounds (off+j) c) cells:=by rw[←Array.foldl_toList];simp
 rw[he];obtain⟨_,h2⟩:=hf;apply List.ext_getElem?;intro i;rw[Array.getElem?_toList,h2 i];simp only[Nat.add_zero,Array.length_toList];have htl:(cells.toList.take off).length=off:=by simp;omega
 by_cases h1:i<off
 ·rw[if_neg (by omega),List.append_assoc,List.getElem?_append_left (by omega),List.getElem?_take,if_pos h1];simp
 ·by_cases h3:i<off+vs.size
  ·rw[if_pos ⟨by omega,h3,by omega⟩,List.append_assoc,List.getElem?_append_right (by omega),htl,List.getElem?_append_left (by simp;omega)]
  ·rw[if_neg (by omega),List.getElem?_append_right (by simp;omega),List.getElem?_drop];simp only[List.length_append,htl,Array.length_toList];rw[show off+vs.size+(i-(off+vs.size))=i by omega];simp
theorem fill_ok{place:Nat->Option (Nat×Nat)}:∀(parts:List (Nat×PV))(vparts:List (Nat×Value))(zs cs:List PV)(cells:Array Value),aFill place zs parts=some cs->VRelL φ w zs cells.toList ->
  parts.map (·.1)=vparts.map (·.1)->VRelL φ w (parts.map (·.2)) (vparts.map (·.2))->∃vs,Instr.fill place cells vparts=some vs/\VRelL φ w cs vs.toList
 |[],vparts,zs,cs,cells,h,hz,hi,hv=>by
  have:vparts=[]:=by cases vparts<;>simp at hi⊢
  subst this;simp only[aFill]at h;injection h with h;subst h;exact⟨cells,rfl,hz⟩
 |(i,p)::parts,vparts,zs,cs,cells,h,hz,hi,hv=>by
  cases vparts with
  |nil=>simp at hi
  |cons q vparts=>
   obtain⟨i',v⟩:=q;simp only[List.map_cons,List.cons.injEq]at hi;obtain⟨rfl,hi⟩:=hi;simp only[List.map_cons]at hv;obtain⟨v',vs',e,hp,hvs⟩:=hv;injection e with e1 e2;subst e1;subst e2;simp only[aFill]at h;split at h
   ·cases h
   ·rename_i off size hpl;split at h
    ·rename_i hc;have hpc:=rel_cells hp hc.1;have hlen:p.cells.length=v.cells.size:=by simpa using vrelL_length hpc
     have hzl:zs.length=cells.size:=by simpa using vrelL_length hz
     have hfit:off+v.cells.size<=cells.size:=by omega
     obtain⟨vs,hf,hr⟩:=fill_ok parts vparts (splice zs off p.cells) cs _ h (by rw[fold_splice off v.cells cells hfit];exact vrelL_splice hz hpc off) hi hvs;refine⟨vs,?_,hr⟩;simp only[Instr.fill,hpl];rw[if_neg (by simp;omega)];exact hf
    ·cases h
theorem vrelL_const(φ:Phi)(w:World)(l:List Value):VRelL φ w (l.map pvOf) l:=by
 induction l with
 |nil=>rfl
 |cons v l ih=>exact⟨v,l,rfl,vrel_pvOf φ w v,ih⟩
theorem zeroCs_some{t:TypeId}{z:List PV}(h:zeroCs P t=some z):∃i zv,P.info? t=some i/\i.zero=some zv/\z=zv.cells.toList.map pvOf:=by
 unfold zeroCs zeroOf at h;cases hi:P.info? t with
 |none=>rw[hi]at h;simp at h
 |some i=>
  rw[hi]at h;simp only[Option.bind_some]at h;cases hz:i.zero with
  |none=>rw[hz]at h;simp at h
  |some zv=>rw[hz]at h;simp only[Option.map_some]at h;exact⟨i,zv,rfl,hz,(Option.some.inj h).symm⟩
theorem parts_rel(h:SRel φ w N s a)(parts:Array (Nat×Operand)):
  (parts.toList.map λp=>(p.1,s.ev p.2)).map (·.1)=((parts.map λ(i,x)=>(i,a.eval x)).toList).map (·.1) /\
  VRelL φ w ((parts.toList.map λp=>(p.1,s.ev p.2)).map (·.2)) (((parts.map λ(i,x)=>(i,a.eval x)).toList).map (·.2)):=by
 obtain⟨l⟩:=parts;simp only[List.map_toArray,List.map_map];refine⟨by simp,?_⟩;induction l with
 |nil=>rfl
 |cons p l ih=>exact⟨_,_,rfl,h.ev p.2,ih⟩
theorem build_ok{t:TypeId}{parts:Array (Nat×Operand)}{pv:PV}(h:SRel φ w N s a)(hb:aBuild P t (parts.toList.map λp=>(p.1,s.ev p.2))=some pv):
  ∃v,(Instr.build t (parts.map λ(i,x)=>(i,a.eval x))).run P w=.ok v w/\VRel φ w pv v:=by
 obtain⟨hp1,hp2⟩:=parts_rel h parts;unfold aBuild at hb;split at hb
 ·rename_i fs z hu hz;obtain⟨i,zv,hi,hzv,rfl⟩:=zeroCs_some hz;split at hb
  ·rename_i hall;obtain⟨cs,hcs,rfl⟩:=Option.map_eq_some_iff.1 hb;have hmap:∀l:List Field,(l.all λf=>(P.info? f.type).isSome)=true->l.mapM (λf=>(P.info? f.type).map λi=>(f.offset,i.size))=some (l.map λf=>(f.offset,P.cellsOf f.type)):=by
    intro l hl;induction l with
    |nil=>rfl
    |cons f l ih=>
     simp only[List.all_cons,Bool.and_eq_true]at hl;obtain⟨j,hj,hs,_⟩:=info_of_isSome hl.1;simp[List.mapM_cons,hj,ih hl.2,hs]
   obtain⟨vs,hf,hr⟩:=fill_ok _ _ _ _ zv.cells hcs (vrelL_const φ w _) hp1 hp2;refine⟨.agg vs,run_build w t _ vs ?_,vs.toList,by simp,hr⟩;have he:(λx:Nat=>((fs.toList.map λf=>(f.offset,P.cellsOf f.type)).toArray)[x]?)=fieldPlaceOf P fs:=by
    funext x;simp[fieldPlaceOf]
   simp only[Program.built,hi,hu,hzv,hmap _ hall,he];exact hf
  ·cases hb
 ·rename_i nn e z hu hz;obtain⟨i,zv,hi,hzv,rfl⟩:=zeroCs_some hz;split at hb
  ·rename_i hie;obtain⟨cs,hcs,rfl⟩:=Option.map_eq_some_iff.1 hb;obtain⟨j,hj,hs,_⟩:=info_of_isSome hie;obtain⟨vs,hf,hr⟩:=fill_ok _ _ _ _ zv.cells hcs (vrelL_const φ w _) hp1 hp2;refine⟨.agg vs,run_build w t _ vs ?_,vs.toList,by simp,hr⟩;simp only[Program.built,hi,hu,hzv,hj];rw[hs]at hf;exact hf
  ·cases hb
 ·cases hb
theorem repl_length(z:List PV)(k:Nat):(repl z k).length=k*z.length:=by
 induction k with
 |zero=>simp[repl]
 |succ k ih=>simp[repl,ih,Nat.add_mul];omega
theorem repl_get(z:List PV):∀(k j:Nat),j<k*z.length->(repl z k)[j]?=z[j%z.length]?
 |0,j,h=>by simp at h
 |k+1,j,h=>by
  rw[Nat.add_mul,Nat.one_mul]at h;rw[repl];by_cases hj:j<z.length
  ·rw[List.getElem?_append_left hj,Nat.mod_eq_of_lt hj]
  ·have hmod:=Nat.mod_eq_sub_mod (a:=j) (b:=z.length) (by omega);rw[List.getElem?_append_right (by omega),repl_get z k (j-z.length) (by omega),hmod]
theorem repl_made(φ:Phi)(w:World)(zv:Array Value)(k:Nat)(hz:0<zv.size){c:Nat}(hc:k<=c):
  VRelL φ w (repl (zv.toList.map pvOf) k) ((madeCells zv (c*zv.size)).toList.take (k*zv.size)):=by
 have hle:k*zv.size<=c*zv.size:=Nat.mul_le_mul_right _ hc;rw[vrelL_iff];refine⟨by simp only[repl_length,List.length_take,Array.length_toList,size_madeCells,List.length_map];omega,λj p v hj hv=>?_⟩;have hlt:j<k*zv.size:=by
  have:=(List.getElem?_eq_some_iff.1 hj).1;rw[repl_length]at this;simpa using this
 have hlz:(zv.toList.map pvOf).length=zv.size:=by simp
 rw[repl_get _ _ _ (by rw[hlz];exact hlt),hlz]at hj;rw[List.getElem?_take,if_pos hlt]at hv;have hm:j%zv.size<zv.size:=Nat.mod_lt _ hz;have hv':v=zv[j%zv.size]:=by
  have h2:(madeCells zv (c*zv.size))[j]?=some v:=by simpa using hv
  simp only[madeCells,Array.getElem?_map]at h2;have h3:(Array.range (c*zv.size))[j]?=some j:=by rw[Array.getElem?_eq_getElem (by rw[Array.size_range];omega),Array.getElem_range]
  rw[h3]at h2;simp only[Option.map_some,Option.some.injEq]at h2;rw[←h2];simp[hm]
 have hp':p=pvOf zv[j%zv.size]:=by
  have hg:(zv.toList.map pvOf)[j%zv.size]?=some (pvOf zv[j%zv.size]):=by rw[List.getElem?_map,Array.getElem?_toList,Array.getElem?_eq_getElem hm,Option.map_some]
  rw[hg]at hj;exact(Option.some.inj hj).symm
 rw[hv',hp'];exact vrel_pvOf φ w _
theorem good_make{o:Oper}{t e:TypeId}{l c:Operand}{ln cn:Int}{z:List PV}(ho:o.op=.makeSlice t l c)(h:SRel φ w N s a)(hst:Anch A φ w s.eff)(hd:∀t,o.dst=some t->t<N)
  (hu:P.underlying t=some (.slice e)) (hl:s.ev l=.int .i64 ln) (hc:s.ev c=.int .i64 cn) (hz:zeroCs P e=some z) (hzl:z.length=P.cellsOf e) (hpos:0<z.length) (hi:(P.info? e).isSome)
  (h0:0<=ln) (hle:ln<=cn) (hby:cn*P.bytesOf e<=140737488355328) (h63:cn<=9223372036854775807) (hK:K (s.newArr o.dst (P.cellsOf e) ln.toNat (repl z ln.toNat))):
  o.wpX r P a w (Good A N a.defers K) Q:=by
 have hdf:∀c,o.op≠.defer c:=λc e=>by rw[ho]at e;cases e
 obtain⟨i,zv,hi',hzv,rfl⟩:=zeroCs_some hz;obtain⟨i2,hi2,hs,hb⟩:=info_of_isSome hi;have:i2=i:=by rw[hi']at hi2;exact(Option.some.inj hi2).symm
 subst this;have e1:a.eval l=.int .i64 ln:=by have:=h.ev l;rw[hl]at this;exact this
 have e2:a.eval c=.int .i64 cn:=by have:=h.ev c;rw[hc]at this;exact this
 have hr:=run_make (P:=P) w t e i2 zv hu hi' hzv .i64 .i64 ln cn h0 hle (by rw[←hb,Int.mul_comm];omega) h63;have hrun:(execOp a.eval o).run P w=.ok (.value (.slice (some ⟨w.heap.size,0,none⟩) ln.toNat cn.toNat)) (w.alloc (.cells (madeCells zv.cells (cn.toNat*i2.size)) e)):=by simp[execOp,ho,e1,e2,hr]
 simp only[List.length_map,Array.length_toList]at hzl hpos;refine good_arr hdf h hst hd (Grows.alloc w _) hrun (heap_alloc_new w _) ?_ (by omega) ?_ (repl_made φ w zv.cells ln.toNat hpos (c:=cn.toNat) (by omega)) (λj v hv=>?_) hK
 ·rw[repl_length];simp[hzl]
 ·rw[size_madeCells,hs]
 ·rw[List.getElem?_take]at hv;split at hv
  ·rw[←hs,←hzl];simpa using hv
  ·cases hv
theorem mrel_grow{m:Mem}(hm:MRel φ m w){w':World}(hg:Grows w w')(k:Keeps φ w φ w'):MRel φ m w':=by
 refine⟨λi hi=>?_,hm.boxn,λi b h=>?_,hm.boxinj,hm.arrinj,hm.sep,rcs_grow hg hm⟩
 ·rcases hm.box i hi with h|⟨b,cur,e',hb,hh,hr⟩
  ·exact .inl h
  exact .inr ⟨b,cur,e',hb,(hg.old b (box_lt hm hb)).trans hh,brel_keeps k hr⟩
 ·obtain⟨h1,h2⟩:=hm.arr i b h;exact⟨h1,h2.of_eq (hg.old b (arr_lt hm h))⟩
theorem run_buildSlice{o:Oper}{t e:TypeId}{len:Nat}{parts:Array (Nat×Operand)}{z cs:List PV}(ho:o.op=.buildSlice t len parts)(h:SRel φ w N s a)
  (hu:P.underlying t=some (.slice e)) (hz:zeroCs P e=some z) (hi:(P.info? e).isSome) (hzl:z.length=P.cellsOf e) (hpos:0<z.length) (hbig:len*P.cellsOf e<=16777216)
  (hf:aFill (λi=>some (i*P.cellsOf e,P.cellsOf e)) (repl z len) (parts.toList.map λp=>(p.1,s.ev p.2))=some cs):
  ∃vs:Array Value,(execOp a.eval o).run P w=.ok (.value (.slice (some ⟨w.heap.size,0,none⟩) len len)) (w.alloc (.cells vs e))/\cs.length=len*P.cellsOf e/\vs.size=len*P.cellsOf e/\VRelL φ w cs vs.toList:=by
 obtain⟨i,zv,hi',hzv,rfl⟩:=zeroCs_some hz;obtain⟨hp1,hp2⟩:=parts_rel h parts;simp only[List.length_map,Array.length_toList]at hzl hpos;have hm:=repl_made φ w zv.cells len hpos (Nat.le_refl len);have htk:(madeCells zv.cells (len*zv.cells.size)).toList.take (len*zv.cells.size)=(madeCells zv.cells (len*zv.cells.size)).toList:=List.take_of_length_le (by simp[size_madeCells]);rw[htk]at hm;obtain⟨vs,hfl,hr⟩:=fill_ok _ _ _ _ _ hf hm hp1 hp2;have hsz:(sizeOf e).run P w=.ok zv.cells.size w:=by rw[run_sizeOf hi,hzl]
 have hcl:cs.length=len*P.cellsOf e:=by
  have hlen:∀(pl:Nat->Option (Nat×Nat))(ps:List (Nat×PV))(zs out:List PV),aFill pl zs ps=some out->out.length=zs.length:=by
   intro pl ps;induction ps with
   |nil=>intro zs out h;simp only[aFill]at h;injection h with h;rw[h]
   |cons q ps ih=>
    intro zs out h;obtain⟨i,p⟩:=q;simp only[aFill]at h;split at h
    ·cases h
    ·split at h
     ·rename_i hc;rw[ih _ _ h];simp only[splice,List.length_append,List.length_take,List.length_drop];omega
     ·cases h
  rw[hlen _ _ _ _ hf,repl_length];simp[hzl]
 have hvl:vs.size=len*P.cellsOf e:=by rw[←hcl];simpa using(vrelL_length hr).symm
 obtain⟨pp,hpp⟩:∃pp,pp=(parts.map λ(i,x)=>(i,a.eval x)):=⟨_,rfl⟩;rw[←hpp]at hfl;have hmk:(madeCells zv.cells (len*zv.cells.size))=(Array.range (len*zv.cells.size)).map (zv.cells[·%zv.cells.size]!):=rfl;rw[hmk,←hzl]at hfl;have hrun:(execOp a.eval o).run P w=.ok (.value (.slice (some ⟨w.heap.size,0,none⟩) len len)) (w.alloc (.cells vs e)):=by
  simp only[execOp,ho,Instr.buildSlice,Sem.run_bind,run_underlying hu,Result.andThen_ok,hsz];rw[←hpp,if_neg (by rw[hzl];omega)];by_cases hl0:len=0
  ·subst hl0;simp only[Nat.zero_mul,if_true,Sem.run_pure,Array.range_zero',List.map_toArray,List.map_nil]at hfl⊢;simp[hfl,newRow]
  ·have hne:¬(len*zv.cells.size=0):=by
    intro h0;rcases Nat.mul_eq_zero.1 h0 with h|h<;>omega
   simp only[hne,if_false,zeroValue,typeInfo,Sem.run_bind,run_program,Result.andThen_ok,hi',hzv,Sem.run_pure,hfl];simp[newRow]
 exact⟨vs,hrun,hcl,hvl,hr⟩
theorem good_buildSlice{o:Oper}{t e:TypeId}{len:Nat}{parts:Array (Nat×Operand)}{z cs:List PV}(ho:o.op=.buildSlice t len parts)(h:SRel φ w N s a)(hst:Anch A φ w s.eff)(hd:∀t,o.dst=some t->t<N)
  (hu:P.underlying t=some (.slice e)) (hz:zeroCs P e=some z) (hi:(P.info? e).isSome) (hzl:z.length=P.cellsOf e) (hpos:0<z.length) (hbig:len*P.cellsOf e<=16777216)
  (hf:aFill (λi=>some (i*P.cellsOf e,P.cellsOf e)) (repl z len) (parts.toList.map λp=>(p.1,s.ev p.2))=some cs) (hK:K (s.newArr o.dst (P.cellsOf e) len cs)):
  o.wpX r P a w (Good A N a.defers K) Q:=by
 have hdf:∀c,o.op≠.defer c:=λc e=>by rw[ho]at e;cases e
 obtain⟨vs,hrun,hcl,hvl,hr⟩:=run_buildSlice ho h hu hz hi hzl hpos hbig hf;exact good_arr hdf h hst hd (Grows.alloc w _) hrun (heap_alloc_new w _) hcl (Nat.le_refl _) hvl hr (λj v hv=>by simpa using hv) hK
theorem good_buildHd{o:Oper}{t e:TypeId}{len:Nat}{parts:Array (Nat×Operand)}{z cs:List PV}(ho:o.op=.buildSlice t len parts)(h:SRel φ w N s a)(hst:Anch A φ w s.eff)(hd:∀t,o.dst=some t->t<N)
  (hu:P.underlying t=some (.slice e)) (hz:zeroCs P e=some z) (hi:(P.info? e).isSome) (hzl:z.length=P.cellsOf e) (hpos:0<z.length) (hbig:len*P.cellsOf e<=16777216)
  (hf:aFill (λi=>some (i*P.cellsOf e,P.cellsOf e)) (repl z len) (parts.toList.map λp=>(p.1,s.ev p.2))=some cs) (hK:K (s.newHd o.dst (P.cellsOf e) len cs)):
  o.wpX r P a w (Good A N a.defers K) Q:=by
 have hdf:∀c,o.op≠.defer c:=λc e=>by rw[ho]at e;cases e
 obtain⟨vs,hrun,hcl,hvl,hr⟩:=run_buildSlice ho h hu hz hi hzl hpos hbig hf;exact good_hd (cs:=vs.toList) hdf h hst hd hrun (Nat.le_refl _) hr hK
theorem good_buildAnon{o:Oper}{t e:TypeId}{len:Nat}{parts:Array (Nat×Operand)}{z cs:List PV}(ho:o.op=.buildSlice t len parts)(h:SRel φ w N s a)(hst:Anch A φ w s.eff)(hd:∀t,o.dst=some t->t<N)
  (hu:P.underlying t=some (.slice e)) (hz:zeroCs P e=some z) (hi:(P.info? e).isSome) (hzl:z.length=P.cellsOf e) (hpos:0<z.length) (hbig:len*P.cellsOf e<=16777216)
  (hf:aFill (λi=>some (i*P.cellsOf e,P.cellsOf e)) (repl z len) (parts.toList.map λp=>(p.1,s.ev p.2))=some cs) (hK:K (s.put o.dst (.sl none (P.cellsOf e) 0 len cs))):
  o.wpX r P a w (Good A N a.defers K) Q:=by
 obtain⟨vs,hrun,hcl,hvl,hr⟩:=run_buildSlice ho h hu hz hi hzl hpos hbig hf;refine wpX_of_run (λc e=>by rw[ho]at e;cases e) ?_;rw[hrun];have hg:=Grows.alloc w (.cells vs e);have k:Keeps φ w φ (w.alloc (.cells vs e)):=keeps_grow hg h.mem (λ_ _ h=>h) (λ_ _ h=>h) (λ_ h=>.inl h);have hno:¬φ.own w.heap.size:=λho=>by
  rcases ho with⟨i,hi⟩|⟨i,hi⟩
  ·exact absurd (box_lt h.mem hi) (by omega)
  ·exact absurd (arr_lt h.mem hi) (by omega)
 have hnew:=heap_alloc_new w (.cells vs e);refine⟨_,φ,?_,?_,put_defers _ _ _,hK⟩
 ·have h1:SRel φ (w.alloc (.cells vs e)) N s a:=⟨λt=>VRel.keeps k _ _ (h.tmp t),h.size,mrel_grow h.mem hg k⟩;refine h1.put hd ⟨hcl,_,len,rfl,Nat.le_refl _,.inr ⟨w.heap.size,rfl,⟨hno,by simp⟩,vrelAt_mk λj p hj=>?_⟩⟩;obtain⟨v,hv,hp⟩:=vrelL_get hr hj;exact⟨v,by simp only[World.cell?,hnew];simpa using hv,VRel.keeps k p v hp⟩
 ·rw[St.put_eff];have:=hst.trans (step_of_keeps hg k);simpa using this
end
end
end Go.Proofs.Ytjfejoadcdoobaa
