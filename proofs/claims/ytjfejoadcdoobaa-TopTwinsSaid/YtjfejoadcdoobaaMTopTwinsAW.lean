/- Part of the proof of TopTwins. No condition. -/
import Derived.Test.YtjfejoadcdoobaaMTopTwinsAV
namespace Go.Proofs.Ytjfejoadcdoobaa
set_option maxRecDepth 100000
set_option linter.all false
section
open Go Go.RowKit
def allK:Nat->List (List Nat)
 |0=>[[]]
 |m+1=>[]::[0,1,2,3].flatMap λk=>(allK m).map (k::·)
theorem mem_allK:∀(m:Nat)(ks:List Nat),ks.length<=m->(∀k∈ks,k<4)->ks∈allK m
 |0,ks,h,_=>by
  have:ks=[]:=List.length_eq_zero_iff.1 (by omega);simp[allK,this]
 |m+1,[],_,_=>by simp[allK]
 |m+1,k::ks,h,hb=>by
  have h1:=mem_allK m ks (by simpa using h) λx hx=>hb x (by simp[hx]);have h2:=hb k (by simp);simp only[allK,List.mem_cons,List.mem_flatMap,List.mem_map];refine .inr ⟨k,?_,ks,h1,rfl⟩;simp;omega
def S0(ks:List Nat):ByteArray:=ks.foldl (λs k=>s++c0 k) ByteArray.empty
def S1(ks:List Nat):ByteArray:=ks.foldl (λs k=>c1 k++s) ByteArray.empty
theorem S0_add(ks:List Nat)(k:Nat):S0 (ks++[k])=S0 ks++c0 k:=by simp[S0]
theorem S1_add(ks:List Nat)(k:Nat):S1 (ks++[k])=c1 k++S1 ks:=by simp[S1]
def gsB(s:ByteArray)(bs:List Nat):Bool:=s.size==bs.length&&(List.range bs.length).all λi=>
 (match s[i]? with
  |some b=>b.toNat==bs.getD i 0
  |none=>false)&&(Utf8.decode s i).1==bs.getD i 0&&(Utf8.decode s i).2==1
def eqB(ks:List Nat):Bool:=(List.range ks.length).all λi=>(List.range 4).all λj=>((((S0 ks).extract i (i+1)).toList==(c0 j).toList)==(ks.getD i 0==j))
theorem all0:(allK 4).all (λks=>gsB (S0 ks) (ks.map b0)&&gsB (S1 ks) (ks.map b1).reverse&&eqB ks)=true:=by kernel_rfl
structure GS(s:ByteArray)(bs:List Nat):Prop where
 size:s.size=bs.length
 get:∀i,i<bs.length->∃b:UInt8,s[i]?=some b/\b.toNat=bs.getD i 0
 dec:∀i,i<bs.length->Utf8.decode s i=(bs.getD i 0,1)
theorem gs_of{s:ByteArray}{bs:List Nat}(h:gsB s bs=true):GS s bs:=by
 simp only[gsB,Bool.and_eq_true,beq_iff_eq,List.all_eq_true,List.mem_range]at h;refine⟨h.1,λi hi=>?_,λi hi=>?_⟩
 ·have:=(h.2 i hi).1.1;split at this
  ·rename_i b hb;exact⟨b,hb,by simpa using this⟩
  ·cases this
 ·exact Prod.ext (h.2 i hi).1.2 (h.2 i hi).2
section
variable{ks:List Nat}(hl:ks.length<=4)(hb:∀k∈ks,k<4)
include hl hb
theorem gs_row:gsB (S0 ks) (ks.map b0)=true/\gsB (S1 ks) (ks.map b1).reverse=true/\eqB ks=true:=by
 have:=List.all_eq_true.1 all0 ks (mem_allK 4 ks hl hb);simp only[Bool.and_eq_true]at this;exact⟨this.1.1,this.1.2,this.2⟩
theorem gs_S0:GS (S0 ks) (ks.map b0):=gs_of (gs_row hl hb).1
theorem gs_S1:GS (S1 ks) (ks.map b1).reverse:=gs_of (gs_row hl hb).2.1
theorem S0_is{i j:Nat}(hi:i<ks.length)(hj:j<4):(((S0 ks).extract i (i+1)).toList==(c0 j).toList)=decide (ks.getD i 0=j):=by
 have h:=(gs_row hl hb).2.2;simp only[eqB,List.all_eq_true,List.mem_range]at h;have:=h i hi j hj;simp only[beq_iff_eq]at this;rw[this,Bool.eq_iff_iff];simp
end
def cl(n:Nat)(ks:List Nat):List PV:=(List.range n).flatMap λj=>if n-1-j<ks.length then[iv (mk' (ks.getD (n-1-j) 0)),iv (63-mk' (ks.getD (n-1-j) 0))]else[iv 0,iv 0]
theorem cl_zero{n:Nat}(hn:n<=4):repl [iv 0,iv 0] n=cl n []:=by
 match n,hn with
 |0,_=>rfl
 |1,_=>rfl
 |2,_=>rfl
 |3,_=>rfl
 |4,_=>rfl
theorem cl_set{n:Nat}{ks:List Nat}(hn:n<=4)(hk:ks.length<n)(k:Nat):splice (cl n ks) ((n-1-ks.length)*2+0) [iv (mk' k),iv (63-mk' k)]=cl n (ks++[k]):=by
 match n,hn,ks,hk with
 |1,_,[],_=>rfl
 |2,_,[],_=>rfl
 |2,_,[_],_=>rfl
 |3,_,[],_=>rfl
 |3,_,[_],_=>rfl
 |3,_,[_,_],_=>rfl
 |4,_,[],_=>rfl
 |4,_,[_],_=>rfl
 |4,_,[_,_],_=>rfl
 |4,_,[_,_,_],_=>rfl
theorem cl_len{n:Nat}{ks:List Nat}:(cl n ks).length=n*2:=by
 have h:∀l:List Nat,(l.flatMap λj=>if n-1-j<ks.length then[iv (mk' (ks.getD (n-1-j) 0)),iv (63-mk' (ks.getD (n-1-j) 0))]else[iv 0,iv 0]).length=l.length*2:=by
  intro l;induction l with
  |nil=>rfl
  |cons a l ih=>
   simp only[List.flatMap_cons,List.length_append,ih,List.length_cons];split<;>simp<;>omega
 rw[cl,h,List.length_range]
theorem cl_row{ks:List Nat}(h4:ks.length<=4){c:Nat}(hc:c<ks.length):((cl ks.length ks).drop (c*2)).take 2=[iv (mk' (ks.getD (ks.length-1-c) 0)),iv (63-mk' (ks.getD (ks.length-1-c) 0))]:=by
 match ks,h4,c,hc with
 |[_],_,0,_=>rfl
 |[_,_],_,0,_=>rfl
 |[_,_],_,1,_=>rfl
 |[_,_,_],_,0,_=>rfl
 |[_,_,_],_,1,_=>rfl
 |[_,_,_],_,2,_=>rfl
 |[_,_,_,_],_,0,_=>rfl
 |[_,_,_,_],_,1,_=>rfl
 |[_,_,_,_],_,2,_=>rfl
 |[_,_,_,_],_,3,_=>rfl
theorem cl_plain{n:Nat}{ks:List Nat}:plainC (cl n ks)=true:=by
 refine(plainC_iff _).2 λq hq=>?_;simp only[cl,List.mem_flatMap]at hq;obtain⟨j,_,hq⟩:=hq;split at hq<;>simp at hq<;>rcases hq with rfl|rfl<;>exact⟨by simp,rfl⟩
end
section
open Go Go.RowKit
instance:Inhabited ByteArray:=⟨ByteArray.empty⟩
theorem ev35(k a m:Nat)(h1:1<=a)(h2:a<=m)(h3:m<100):Ev (k+1) 35 [iv a,iv m] λv=>v=iv 0:=by
 refine rn_of (t:=t35) (by kernel_rfl) (fn:=Try.f35) (by kernel_rfl) (by simp[fitArgs,flagsOf]) ?_;refine wp_lss rfl rfl ?_;refine wp_itePF rfl (by omega) ?_;refine wp_gtr rfl rfl ?_;refine wp_itePF rfl (by omega) ?_;exact wp_ret rfl rfl rfl
def okS(n:Nat)(s:ByteArray):Prop:=∃bs,GS s bs/\bs.length=n/\∀b∈bs,b=98\/b=100\/b=111\/b=45
def tmC:List PV:=[.int .i32 45,iv 0,.int .i32 98,iv 9,.int .i32 100,iv 6,.int .i32 111,iv 12]
def tm:PV:=.mp (.tab true) none 2 tmC
def inkB(b:Nat):Int:=match b with|98=>9|100=>6|111=>12|_=>0
theorem tm_get{b:Nat}(h:b=98\/b=100\/b=111\/b=45):tgetfV Try.prog 69 true true tm (.int .i32 (b:Int))=some (.tup [iv (inkB b),.bool true]):=by rcases h with rfl|rfl|rfl|rfl<;>kernel_rfl
theorem tm_get1{b:Nat}(h:b=98\/b=100\/b=111\/b=45):tgetfV Try.prog 69 true false tm (.int .i32 (b:Int))=some (iv (inkB b)):=by rcases h with rfl|rfl|rfl|rfl<;>kernel_rfl
def strs(ss:List ByteArray):PV:=.sl none 1 0 ss.length (ss.map .str)
theorem strs_plain(ss:List ByteArray):plainC (ss.map PV.str)=true:=by
 induction ss with
 |nil=>rfl
 |cons a l ih=>simp[plainC,PV.plain,PV.one,ih]
theorem ev36(k:Nat){n:Nat}{x y:PV}{ss:List ByteArray}(hx:x.plain=true/\x.one=true)(hy:y.plain=true/\y.one=true)(h:∀s∈ss,okS n s)(h1:1<=ss.length)(h3:ss.length<=3)(n1:1<=n)(n4:n<=4):
  Ev (k+2) 36 [.agg [gl,x,y,tm],strs ss] λv=>v=.tup []:=by
 have hg:gl.plain=true/\gl.one=true:=⟨by kernel_rfl,rfl⟩;have ht:tm.plain=true/\tm.one=true:=⟨by kernel_rfl,rfl⟩;have hz:∀i,i<ss.length->okS n (ss.getD i default):=λi hi=>h _ (by simp[List.getD_eq_getElem?_getD,hi]);refine rn_of (t:=t36) (by kernel_rfl) (fn:=Try.f36) (by kernel_rfl) (by simp[fitArgs,flagsOf,strs,hg,ht,hx,hy,strs_plain]) ?_;unfold strs;refine wp_agg (by simp only[tv,tp,tn,PE.dn,SE.dn,dnL,nth,projV,List.getD_cons_succ,List.getD_cons_zero];rfl) rfl ?_;refine wp_lenS (by first|exact is22|exact is25|exact is26|exact is30|exact is32|exact is37|exact is38|exact is41|exact is50) rfl ?_;refine wp_callE (ev35 _ ss.length 3 h1 h3 (by omega)) rfl ?_;refine wp_callE (ev34 _) rfl ?_;refine wp_lenS (by first|exact is22|exact is25|exact is26|exact is30|exact is32|exact is37|exact is38|exact is41|exact is50) rfl ?_;refine wp_join (λvs=>vs=[]) ?_ ?_
 ·refine wp_loop (λj vs=>∃i:Nat,vs=[iv i]/\i+j=ss.length) ss.length (by omega) ⟨0,rfl,by omega⟩ ?_;rintro j vs ⟨i,rfl,hi⟩;refine wp_lss rfl rfl ?_;refine wp_iteP rfl (λhlt=>?_) (λhlt=>?_)
  ·have e:i<ss.length:=by simp at hlt;omega
   obtain⟨bs,g,gl',gb⟩:=hz i e;obtain⟨bs0,g0,gl0,_⟩:=hz 0 (by omega);have sz:(ss.getD i default).size=n:=by rw[g.size,gl']
   have sz0:(ss.getD 0 default).size=n:=by rw[g0.size,gl0]
   refine wp_rowM rfl rfl (by omega) ?_;refine wp_len9 rfl ?_;rw[sz];refine wp_callE (ev35 _ n 4 n1 n4 (by omega)) rfl ?_;refine wp_callE (ev34 _) rfl ?_;refine wp_len9 rfl ?_;rw[sz];refine wp_rowM (a:=0) rfl rfl (by omega) ?_;refine wp_len9 rfl ?_;rw[sz0];refine wp_neq rfl rfl ?_;refine wp_join (λvs=>vs=[]) ?_ ?_
   ·refine wp_itePF rfl (by simp) ?_;exact wp_jump rfl
   rintro vs rfl;refine wp (.agg [.str (ss.getD i default),iv 0]) rfl ?_;refine wp_join (λvs=>vs=[]) ?_ ?_
   ·refine wp_loop (λj vs=>∃p:Nat,vs=[.agg [.str (ss.getD i default),iv p]]/\p+j=n) n (by omega) ⟨0,rfl,by omega⟩ ?_;rintro j vs ⟨p,rfl,hp⟩;try refine rn_norm (by(try simp only[List.length_cons,List.length_nil,Nat.reduceAdd,Nat.zero_add]);rfl) (by(try simp only[pushL]);rfl) ?_
    rcases Nat.lt_or_ge p n with hpn|hpn
    ·have hd:=g.dec p (by omega);refine wp (.agg [.bool true,iv p,.int .i32 ((bs.getD p 0:Nat):Int),.str (ss.getD i default),iv ((p+1:Nat):Int)]) (by
      simp only[Prim.rn,tv,tp,tn,PE.dn,SE.dn,dnL,nth,projV,List.getD_cons_succ,List.getD_cons_zero,snxV,Int.toNat_natCast,hd,sz];rw[if_pos (by omega),if_pos hpn]) ?_
     refine wp_iteT rfl ?_;have hb:bs.getD p 0∈bs:=by
      have:p<bs.length:=by omega
      simp[List.getD_eq_getElem?_getD,this]
     refine wp_lst ?_;refine wp _ (tm_get (gb _ hb)) ?_;refine wp_ext (by simp only[tv,tp,tn,PE.dn,SE.dn,dnL,nth,projV,List.getD_cons_succ,List.getD_cons_zero,extV];rfl) ?_;refine wp_ext (by simp only[tv,tp,tn,PE.dn,SE.dn,dnL,nth,projV,List.getD_cons_succ,List.getD_cons_zero,extV];rfl) ?_;refine wp_not rfl ?_;refine wp_join (λvs=>vs=[]) ?_ ?_
     ·refine wp_iteF rfl ?_;exact wp_jump rfl
     rintro vs rfl;exact wp_jump ⟨j-1,by omega,p+1,rfl,by omega⟩
    ·refine wp (.agg [.bool false]) (by
      simp only[Prim.rn,tv,tp,tn,PE.dn,SE.dn,dnL,nth,projV,List.getD_cons_succ,List.getD_cons_zero,snxV,Int.toNat_natCast,sz];rw[if_pos (by omega),if_neg (by omega)]) ?_
     refine wp_iteF rfl ?_;refine wp_jumpO (by decide) ?_;exact wp_jump rfl
   rintro vs rfl;refine wp_add1 rfl rfl (by omega) ?_;exact wp_jump ⟨j-1,by omega,i+1,rfl,by omega⟩
  ·refine wp_jumpO (by decide) ?_;exact wp_jump rfl
 ·rintro vs rfl;exact wp_ret rfl rfl rfl
end
section
open Go Go.RowKit
theorem mk_bd(k:Nat):0<=mk' k/\mk' k<=12:=by unfold mk';split<;>omega
theorem mk_and(k:Nat):bits .and .i64 (mk' k) (63-mk' k)=0:=by unfold mk';split<;>kernel_rfl
theorem mk_and2(k:Nat):bits .and .i64 (mk' k) (mk' k)=mk' k:=by unfold mk';split<;>kernel_rfl
structure Bd(n:Nat)(rows:List (List Nat)):Prop where
 r1:1<=rows.length
 r3:rows.length<=3
 n1:1<=n
 n4:n<=4
 l:∀r∈rows,r.length=n
 b:∀r∈rows,∀k∈r,k<4
def cellS(n:Nat)(r:List Nat):PV:=.sl none 2 0 n (cl n r)
def ce(n:Nat)(rows:List (List Nat)):PV:=.sl none 1 0 rows.length (rows.map (cellS n))
theorem ce_plain(n:Nat)(rows:List (List Nat)):(ce n rows).plain=true:=by
 simp only[ce,plain_sl];refine(plainC_iff _).2 λq hq=>?_;simp only[List.mem_map]at hq;obtain⟨r,_,rfl⟩:=hq;exact⟨by simp only[cellS,plain_sl];exact cl_plain,rfl⟩
section
variable{n:Nat}{rows:List (List Nat)}
theorem Bd.at(h:Bd n rows){i:Nat}(hi:i<rows.length):(rows.getD i default).length=n/\∀k∈rows.getD i default,k<4:=by
 have hm:rows.getD i default∈rows:=by simp[List.getD_eq_getElem?_getD,hi]
 exact⟨h.l _ hm,h.b _ hm⟩
theorem cell_at(h:Bd n rows){i c:Nat}(hi:i<rows.length)(hc:c<n):((cl n (rows.getD i default)).drop (c*2)).take 2=[iv (mk' ((rows.getD i default).getD (n-1-c) 0)),iv (63-mk' ((rows.getD i default).getD (n-1-c) 0))]:=by
 have h1:=(h.at hi).1;have:=cl_row (ks:=rows.getD i default) (by have:=h.n4;omega) (c:=c) (by omega);rw[h1]at this;exact this
theorem ev37(k:Nat)(h:Bd n rows):Ev (k+2) 37 [ce n rows] λv=>v=.tup []:=by
 have hr1:=h.r1;have hr3:=h.r3;have hn1:=h.n1;have hn4:=h.n4;refine rn_of (t:=t37) (by kernel_rfl) (fn:=Try.f37) (by kernel_rfl) (by simp[fitArgs,flagsOf,ce_plain]) ?_;unfold ce;refine wp_lenS (by first|exact is22|exact is25|exact is26|exact is30|exact is32|exact is37|exact is38|exact is41|exact is50) rfl ?_;refine wp_callE (ev35 _ rows.length 3 hr1 hr3 (by omega)) rfl ?_;refine wp_callE (ev34 _) rfl ?_;refine wp_lenS (by first|exact is22|exact is25|exact is26|exact is30|exact is32|exact is37|exact is38|exact is41|exact is50) rfl ?_;refine wp_join (λvs=>vs=[]) ?_ ?_
 ·refine wp_loop (λj vs=>∃i:Nat,vs=[iv i]/\i+j=rows.length) rows.length (by omega) ⟨0,rfl,by omega⟩ ?_;rintro j vs ⟨i,rfl,hi⟩;refine wp_lss rfl rfl ?_;refine wp_iteP rfl (λhlt=>?_) (λhlt=>?_)
  ·have e:i<rows.length:=by simp at hlt;omega
   refine wp_rowM rfl rfl (by omega) ?_;refine wp_lenS (by first|exact is22|exact is25|exact is26|exact is30|exact is32|exact is37|exact is38|exact is41|exact is50) rfl ?_;refine wp_callE (ev35 _ n 4 hn1 hn4 (by omega)) rfl ?_;refine wp_callE (ev34 _) rfl ?_;refine wp_lenS (by first|exact is22|exact is25|exact is26|exact is30|exact is32|exact is37|exact is38|exact is41|exact is50) rfl ?_;refine wp_rowM (a:=0) rfl rfl (by omega) ?_;refine wp_lenS (by first|exact is22|exact is25|exact is26|exact is30|exact is32|exact is37|exact is38|exact is41|exact is50) rfl ?_;refine wp_neq rfl rfl ?_;refine wp_join (λvs=>vs=[]) ?_ ?_
   ·refine wp_itePF rfl (by omega) ?_;exact wp_jump rfl
   rintro vs rfl;refine wp_lenS (by first|exact is22|exact is25|exact is26|exact is30|exact is32|exact is37|exact is38|exact is41|exact is50) rfl ?_;refine wp_join (λvs=>vs=[]) ?_ ?_
   ·refine wp_loop (λj vs=>∃p:Nat,vs=[iv p]/\p+j=n) n (by omega) ⟨0,rfl,by omega⟩ ?_;rintro j vs ⟨p,rfl,hp⟩;refine wp_lss rfl rfl ?_;refine wp_iteP rfl (λhlt=>?_) (λhlt=>?_)
    ·have ep:p<n:=by simp at hlt;omega
     refine wp_rowS (a:=p) (sz:=2) rfl rfl ep (cell_at h e ep) rfl ?_;generalize(rows.getD i default).getD (n-1-p) 0=z;have hz:=mk_bd z;refine wp_join (λvs=>vs=[.bool false]) ?_ ?_
     ·try refine rn_norm (by(try simp only[List.length_cons,List.length_nil,Nat.reduceAdd,Nat.zero_add]);rfl) (by(try simp only[pushL]);rfl) ?_
      refine wp_min rfl rfl ?_;try refine rn_norm (by(try simp only[List.length_cons,List.length_nil,Nat.reduceAdd,Nat.zero_add]);rfl) (by(try simp only[pushL]);rfl) ?_
      refine wp_lss rfl rfl ?_;refine wp_itePF rfl (by split<;>omega) ?_;try refine rn_norm (by(try simp only[List.length_cons,List.length_nil,Nat.reduceAdd,Nat.zero_add]);rfl) (by(try simp only[pushL]);rfl) ?_
      refine wp_max rfl rfl ?_;try refine rn_norm (by(try simp only[List.length_cons,List.length_nil,Nat.reduceAdd,Nat.zero_add]);rfl) (by(try simp only[pushL]);rfl) ?_
      refine wp_gtr rfl rfl ?_;refine wp_jump ?_;simp only[tv,tp,tn,PE.dn,SE.dn,dnL,nth,projV,List.getD_cons_succ,List.getD_cons_zero];refine jb_f ?_;split<;>omega
     rintro vs rfl;try refine rn_norm (by(try simp only[List.length_cons,List.length_nil,Nat.reduceAdd,Nat.zero_add]);rfl) (by(try simp only[pushL]);rfl) ?_
     refine wp_join (λvs=>vs=[]) ?_ ?_
     ·refine wp_iteF rfl ?_;exact wp_jump rfl
     rintro vs rfl;try refine rn_norm (by(try simp only[List.length_cons,List.length_nil,Nat.reduceAdd,Nat.zero_add]);rfl) (by(try simp only[pushL]);rfl) ?_
     refine wp_and rfl rfl ?_;rw[mk_and];refine wp_neq rfl rfl ?_;refine wp_join (λvs=>vs=[]) ?_ ?_
     ·refine wp_itePF rfl (by omega) ?_;exact wp_jump rfl
     rintro vs rfl;refine wp_add1 rfl rfl (by omega) ?_;exact wp_jump ⟨j-1,by omega,p+1,rfl,by omega⟩
    ·refine wp_jumpO (by decide) ?_;exact wp_jump rfl
   rintro vs rfl;refine wp_add1 rfl rfl (by omega) ?_;exact wp_jump ⟨j-1,by omega,i+1,rfl,by omega⟩
  ·refine wp_jumpO (by decide) ?_;exact wp_jump rfl
 ·rintro vs rfl;exact wp_ret rfl rfl rfl
theorem str_ok0{ks:List Nat}(hl:ks.length=n)(hn:n<=4)(hb:∀k∈ks,k<4):okS n (S0 ks):=
 ⟨_,gs_S0 (by omega) hb,by simp[hl],λb hm=>by
  simp only[List.mem_map]at hm;obtain⟨k,_,rfl⟩:=hm;unfold b0;split<;>simp⟩
theorem str_ok1{ks:List Nat}(hl:ks.length=n)(hn:n<=4)(hb:∀k∈ks,k<4):okS n (S1 ks):=
 ⟨_,gs_S1 (by omega) hb,by simp[hl],λb hm=>by
  simp only[List.mem_reverse,List.mem_map]at hm;obtain⟨k,_,rfl⟩:=hm;unfold b1;split<;>simp⟩
def pg(f:List Nat->ByteArray)(rows:List (List Nat)):PV:=strs (rows.map f)
def sides(rows:List (List Nat)):PV:=.sl none 1 0 2 [pg S0 rows,pg S1 rows]
theorem sides_plain(rows:List (List Nat)):(sides rows).plain=true:=by
 simp[sides,pg,strs,PV.plain,plainC,PV.one];exact⟨by simpa using strs_plain (rows.map S0),by simpa using strs_plain (rows.map S1)⟩
def bd(n:Nat)(rows:List (List Nat)):PV:=.agg [gl,sides rows,ce n rows]
def br(n:Nat)(rows:List (List Nat)):PV:=.agg [gl,sides rows,ce n rows,tm]
end
end
section
open Go Go.RowKit
theorem wp_eval{C:Orc->FuncId->List PV->Option PV}{n:Nat}{R:Out->Prop}{d:Nat}{st:List PV}{t:Tree}{o:Out}(h:∀ω,eval Try.prog C n t ω st.reverse=some o)(hR:R o):Rn C n t d st R:=⟨λ_ ω=>⟨o,h ω,hR⟩⟩
theorem gl_plain:gl.plain=true/\gl.one=true:=⟨by kernel_rfl,rfl⟩
theorem tm_plain:tm.plain=true/\tm.one=true:=⟨by kernel_rfl,rfl⟩
section
variable{n:Nat}{rows:List (List Nat)}
theorem bd_plain:(bd n rows).plain=true:=by
 simp[bd,gl_plain,sides_plain,ce_plain];exact⟨rfl,rfl⟩
theorem br_plain:(br n rows).plain=true:=by
 simp[br,gl_plain,tm_plain,sides_plain,ce_plain];exact⟨rfl,rfl⟩
theorem pg_ok0(h:Bd n rows):∀s∈rows.map S0,okS n s:=λs hs=>by
 simp only[List.mem_map]at hs;obtain⟨r,hr,rfl⟩:=hs;exact str_ok0 (h.l r hr) h.n4 (h.b r hr)
theorem pg_ok1(h:Bd n rows):∀s∈rows.map S1,okS n s:=λs hs=>by
 simp only[List.mem_map]at hs;obtain⟨r,hr,rfl⟩:=hs;exact str_ok1 (h.l r hr) h.n4 (h.b r hr)
theorem ev36p(k:Nat)(h:Bd n rows){i:Nat}(hi:i<2):Ev (k+2) 36 [br n rows,([pg S0 rows,pg S1 rows]:List PV).getD i .bad] λv=>v=.tup []:=by
 have h1:=h.r1;have h3:=h.r3
 match i,hi with
 |0,_=>exact ev36 k ⟨sides_plain rows,rfl⟩ ⟨ce_plain n rows,rfl⟩ (pg_ok0 h) (by simpa using h1) (by simpa using h3) h.n1 h.n4
 |1,_=>exact ev36 k ⟨sides_plain rows,rfl⟩ ⟨ce_plain n rows,rfl⟩ (pg_ok1 h) (by simpa using h1) (by simpa using h3) h.n1 h.n4
theorem ev22(k:Nat)(h:Bd n rows):Ev (k+9) 22 [bd n rows] λv=>v=.tup [br n rows,iv 0]:=by
 refine rn_of (t:=t22) (by kernel_rfl) (fn:=Try.f22) (by kernel_rfl) (by simp[fitArgs,flagsOf,bd_plain]) ?_;unfold bd;refine wp_agg (by simp only[tv,tp,tn,PE.dn,SE.dn,dnL,nth,projV,List.getD_cons_succ,List.getD_cons_zero];rfl) rfl ?_;refine wp_callE (ev15 k) rfl ?_;refine wp_callE (ev34 _) rfl ?_;refine wp_lst ?_;refine wp (.agg [.int .i32 45,iv 0]) (by kernel_rfl) ?_;refine wp_lenS (by first|exact is22|exact is25|exact is26|exact is30|exact is32|exact is37|exact is38|exact is41|exact is50) rfl ?_;refine wp_join (λvs=>vs=[.agg tmC]) ?_ ?_
 ·exact wp_eval (o:=.jump 0 [.agg tmC]) (λω=>by kernel_rfl) (atL_same.2 rfl)
 rintro vs rfl;unfold sides;refine wp_lenS (by first|exact is22|exact is25|exact is26|exact is30|exact is32|exact is37|exact is38|exact is41|exact is50) rfl ?_;refine wp_callE (ev35 _ 2 4 (by omega) (by omega) (by omega)) rfl ?_;refine wp_callE (ev34 _) rfl ?_;refine wp_lenS (by first|exact is22|exact is25|exact is26|exact is30|exact is32|exact is37|exact is38|exact is41|exact is50) rfl ?_;refine wp tm rfl ?_;refine wp_join (λvs=>vs=[tm]) ?_ ?_
 ·refine wp_loop (λj vs=>∃i:Nat,vs=[iv i,tm]/\i+j=2) 2 (by omega) ⟨0,rfl,by omega⟩ ?_;rintro j vs ⟨i,rfl,hi⟩;refine wp_lss rfl rfl ?_;refine wp_iteP rfl (λhlt=>?_) (λhlt=>?_)
  ·have e:i<2:=by simp at hlt;omega
   refine wp_rowS (a:=i) (sz:=1) (r:=[([pg S0 rows,pg S1 rows]:List PV).getD i .bad]) rfl rfl e (by
    match i,e with
    |0,_=>rfl
    |1,_=>rfl) rfl ?_
   refine wp_callE (ev36p _ h e) rfl ?_;refine wp_add1 rfl rfl (by omega) ?_;exact wp_jump ⟨j-1,by omega,i+1,rfl,by omega⟩
  ·refine wp_jumpO (by decide) ?_;exact wp_jump rfl
 ·rintro vs rfl;refine wp_callE (ev37 _ h) rfl ?_;refine wp_ret (v:=.tup [br n rows,iv 0]) rfl ?_ rfl;simp[plainT,br_plain]
end
end
section
open Go Go.RowKit
def fp:Nat->List Nat->ByteArray
 |0=>S0
 |_=>S1
def lay(p:Nat)(b:Bool)(dr dc:Int):PV:=.agg [iv p,.bool b,iv dr,iv dc]
section
variable{n:Nat}{rows:List (List Nat)}
theorem side_at{p:Nat}(hp:p<2):(([pg S0 rows,pg S1 rows]:List PV).drop (p*1)).take 1=[.sl none 1 0 (rows.map (fp p)).length ((rows.map (fp p)).map .str)]:=by
 match p,hp with
 |0,_=>rfl
 |1,_=>rfl
theorem fp_ok(h:Bd n rows)(p:Nat){i:Nat}(hi:i<rows.length):okS n (fp p (rows.getD i default)):=by
 have h1:=h.at hi
 match p with
 |0=>exact str_ok0 h1.1 h.n4 h1.2
 |_+1=>exact str_ok1 h1.1 h.n4 h1.2
theorem getD_map{α β:Type}[Inhabited α][Inhabited β]{f:α->β}{l:List α}{i:Nat}(hi:i<l.length):(l.map f).getD i default=f (l.getD i default):=by simp[List.getD_eq_getElem?_getD,hi]
theorem ev41h(k:Nat)(h:Bd n rows){p:Nat}(hp:p<2){b:Bool}{dr dc:Int}{r c a e:Nat}(ha:(r:Int)-dr=a)(he:(c:Int)-dc=e)(ha':a<rows.length)(he':e<n):
  Ev (k+1) 41 [br n rows,lay p b dr dc,iv r,iv c] λv=>v=.tup [iv ((if b then rows.length-1-a else a:Nat):Int),iv ((if b then e else n-1-e:Nat):Int),.bool true]:=by
 have hr1:=h.r1;have hr3:=h.r3;have hn4:=h.n4;obtain⟨bs,g,gl',_⟩:=fp_ok h p (i:=0) (by omega);have sz:((rows.map (fp p)).getD 0 default).size=n:=by rw[getD_map (by omega),g.size,gl']
 have hm:(rows.map (fp p)).length=rows.length:=by simp
 refine rn_of (t:=t41) (by kernel_rfl) (fn:=Try.f41) (by kernel_rfl) (by simp[fitArgs,flagsOf,br_plain,lay]) ?_;unfold br sides lay;refine wp_agg (by simp only[tv,tp,tn,PE.dn,SE.dn,dnL,nth,projV,List.getD_cons_succ,List.getD_cons_zero];rfl) rfl ?_;refine wp_agg (by simp only[tv,tp,tn,PE.dn,SE.dn,dnL,nth,projV,List.getD_cons_succ,List.getD_cons_zero];rfl) rfl ?_;refine wp_rowS (a:=p) (sz:=1) rfl rfl hp (side_at hp) rfl ?_;refine wp_lenS (by first|exact is22|exact is25|exact is26|exact is30|exact is32|exact is37|exact is38|exact is41|exact is50) rfl ?_;refine wp_rowM (a:=0) rfl rfl (by omega) ?_;refine wp_len9 rfl ?_;rw[sz,hm];try refine rn_norm (by(try simp only[List.length_cons,List.length_nil,Nat.reduceAdd,Nat.zero_add]);rfl) (by(try simp only[pushL]);rfl) ?_
 refine wp_sub (a:=r) (b:=dr) rfl rfl (by omega) (by omega) ?_;refine wp_sub (a:=c) (b:=dc) rfl rfl (by omega) (by omega) ?_;rw[ha,he];refine wp_join (λvs=>vs=[.bool false]) ?_ ?_
 ·refine wp_lss rfl rfl ?_;refine wp_itePF rfl (by omega) ?_;refine wp_geq rfl rfl ?_;refine wp_itePF rfl (by omega) ?_;refine wp_lss rfl rfl ?_;refine wp_itePF rfl (by omega) ?_;refine wp_geq rfl rfl ?_;exact wp_jump (jb_f (by omega))
 rintro vs rfl;refine wp_iteF rfl ?_;cases b
 ·refine wp_iteF rfl ?_;refine wp_sub1 rfl rfl (by omega) ?_;refine wp_subN rfl rfl (by omega) ?_;exact wp_ret rfl rfl rfl
 ·refine wp_iteT rfl ?_;refine wp_sub1 rfl rfl (by omega) ?_;refine wp_subN rfl rfl (by omega) ?_;exact wp_ret rfl rfl rfl
theorem ev41m(k:Nat)(h:Bd n rows){p:Nat}(hp:p<2){b:Bool}{dr dc:Int}{r c:Nat}(hr:r<rows.length)(hc:c<n)(h1:-1<=dr/\dr<=1)(h2:-1<=dc/\dc<=1)(hx:¬(0<=(r:Int)-dr/\(r:Int)-dr<rows.length/\0<=(c:Int)-dc/\(c:Int)-dc<n)):
  Ev (k+1) 41 [br n rows,lay p b dr dc,iv r,iv c] λv=>v=.tup [iv 0,iv 0,.bool false]:=by
 have hr1:=h.r1;have hr3:=h.r3;have hn4:=h.n4;obtain⟨bs,g,gl',_⟩:=fp_ok h p (i:=0) (by omega);have sz:((rows.map (fp p)).getD 0 default).size=n:=by rw[getD_map (by omega),g.size,gl']
 have hm:(rows.map (fp p)).length=rows.length:=by simp
 refine rn_of (t:=t41) (by kernel_rfl) (fn:=Try.f41) (by kernel_rfl) (by simp[fitArgs,flagsOf,br_plain,lay]) ?_;unfold br sides lay;refine wp_agg (by simp only[tv,tp,tn,PE.dn,SE.dn,dnL,nth,projV,List.getD_cons_succ,List.getD_cons_zero];rfl) rfl ?_;refine wp_agg (by simp only[tv,tp,tn,PE.dn,SE.dn,dnL,nth,projV,List.getD_cons_succ,List.getD_cons_zero];rfl) rfl ?_;refine wp_rowS (a:=p) (sz:=1) rfl rfl hp (side_at hp) rfl ?_;refine wp_lenS (by first|exact is22|exact is25|exact is26|exact is30|exact is32|exact is37|exact is38|exact is41|exact is50) rfl ?_;refine wp_rowM (a:=0) rfl rfl (by omega) ?_;refine wp_len9 rfl ?_;rw[sz,hm];try refine rn_norm (by(try simp only[List.length_cons,List.length_nil,Nat.reduceAdd,Nat.zero_add]);rfl) (by(try simp only[pushL]);rfl) ?_
 refine wp_sub (a:=r) (b:=dr) rfl rfl (by omega) (by omega) ?_;refine wp_sub (a:=c) (b:=dc) rfl rfl (by omega) (by omega) ?_;refine wp_join (λvs=>vs=[.bool true]) ?_ ?_
 ·try refine rn_norm (by(try simp only[List.length_cons,List.length_nil,Nat.reduceAdd,Nat.zero_add]);rfl) (by(try simp only[pushL]);rfl) ?_
  refine wp_lss rfl rfl ?_;refine wp_iteP rfl (λq=>wp_jump rfl) (λq1=>?_);refine wp_geq rfl rfl ?_;refine wp_iteP rfl (λq=>wp_jump rfl) (λq2=>?_);refine wp_lss rfl rfl ?_;refine wp_iteP rfl (λq=>wp_jump rfl) (λq3=>?_);refine wp_geq rfl rfl ?_;exact wp_jump (jb_t (by omega)).symm
 rintro vs rfl;refine wp_iteT rfl ?_;exact wp_ret rfl rfl rfl
def fx:Bool->Nat->Int
 |false,j=>mk' j
 |true,j=>match j with|0=>6|1=>9|2=>3|_=>0
def sw(k:Nat):Nat:=match k with|0=>1|1=>0|2=>2|_=>3
theorem ev42(k p:Nat)(b:Bool)(dr dc:Int)(j:Nat):Ev (k+5) 42 [lay p b dr dc,iv (ik j)] λv=>v=iv (fx b j):=by
 match b,j with
 |false,0=>exact λω=>⟨_,by kernel_rfl,rfl⟩
 |false,1=>exact λω=>⟨_,by kernel_rfl,rfl⟩
 |false,2=>exact λω=>⟨_,by kernel_rfl,rfl⟩
 |false,_+3=>exact λω=>⟨_,by kernel_rfl,rfl⟩
 |true,0=>exact λω=>⟨_,by kernel_rfl,rfl⟩
 |true,1=>exact λω=>⟨_,by kernel_rfl,rfl⟩
 |true,2=>exact λω=>⟨_,by kernel_rfl,rfl⟩
 |true,_+3=>exact λω=>⟨_,by kernel_rfl,rfl⟩
def jn(p:Nat)(ks:List Nat)(j:Nat):Nat:=match p with|0=>ks.getD j 0|_=>sw (ks.getD (ks.length-1-j) 0)
end
end
section
open Go Go.RowKit
section
variable{n:Nat}{rows:List (List Nat)}
theorem byte_at{ks:List Nat}(hl:ks.length<=4)(hb:∀k∈ks,k<4)(p:Nat){j:Nat}(hj:j<ks.length):
  ∃b:Nat,aIndex Try.prog 9 (.str (fp p ks)) (iv j)=some (.int .u8 b)/\(b=98\/b=100\/b=111\/b=45)/\inkB b=ik (jn p ks j):=by
 match p with
 |0=>
  obtain⟨b,hb1,hb2⟩:=(gs_S0 hl hb).get j (by simpa using hj);have e:(ks.map b0).getD j 0=b0 (ks.getD j 0):=by simp[List.getD_eq_getElem?_getD,hj]
  refine⟨b.toNat,by simp[aIndex,un9,fp,hb1],?_,?_⟩
  ·rw[hb2,e];unfold b0;split<;>simp
  ·rw[hb2,e];show inkB (b0 _)=ik (ks.getD j 0);generalize ks.getD j 0=z
   match z with
   |0=>rfl
   |1=>rfl
   |2=>rfl
   |_+3=>rfl
 |_+1=>
  obtain⟨b,hb1,hb2⟩:=(gs_S1 hl hb).get j (by simpa using hj);have e:(ks.map b1).reverse.getD j 0=b1 (ks.getD (ks.length-1-j) 0):=by
   rw[List.getD_eq_getElem?_getD,List.getElem?_reverse (by simpa using hj)];have:ks.length-1-j<ks.length:=by omega
   simp[List.getD_eq_getElem?_getD,this]
  refine⟨b.toNat,by simp[aIndex,un9,fp,hb1],?_,?_⟩
  ·rw[hb2,e];unfold b1;split<;>simp
  ·rw[hb2,e];show inkB (b1 _)=ik (sw (ks.getD (ks.length-1-j) 0));generalize ks.getD (ks.length-1-j) 0=z
   match z with
   |0=>rfl
   |1=>rfl
   |2=>rfl
   |_+3=>rfl
theorem conv_b{b:Nat}(h:b=98\/b=100\/b=111\/b=45):aConv Try.prog 5 21 (.int .u8 (b:Int))=some (.int .i32 (b:Int)):=by rcases h with rfl|rfl|rfl|rfl<;>kernel_rfl
def val(n:Nat)(rows:List (List Nat))(p:Nat)(b:Bool)(dr dc:Int)(r c:Nat):Int:=
 if 0<=(r:Int)-dr/\(r:Int)-dr<rows.length/\0<=(c:Int)-dc/\(c:Int)-dc<n then
  let a:=((r:Int)-dr).toNat;let e:=((c:Int)-dc).toNat
  fx b (jn p (rows.getD (if b then rows.length-1-a else a) default) (if b then e else n-1-e))
 else 0
theorem ev28(k:Nat)(h:Bd n rows){p:Nat}(hp:p<2){b:Bool}{dr dc:Int}{r c:Nat}(hr:r<rows.length)(hc:c<n)(h1:-1<=dr/\dr<=1)(h2:-1<=dc/\dc<=1):
  Ev (k+6) 28 [br n rows,lay p b dr dc,iv r,iv c] λv=>v=iv (val n rows p b dr dc r c):=by
 have hr1:=h.r1;have hr3:=h.r3;have hn4:=h.n4;have hm:(rows.map (fp p)).length=rows.length:=by simp
 refine rn_of (t:=t28) (by kernel_rfl) (fn:=Try.f28) (by kernel_rfl) (by simp[fitArgs,flagsOf,br_plain,lay]) ?_;unfold br lay;refine wp_agg (by simp only[tv,tp,tn,PE.dn,SE.dn,dnL,nth,projV,List.getD_cons_succ,List.getD_cons_zero];rfl) rfl ?_;refine wp_agg (by simp only[tv,tp,tn,PE.dn,SE.dn,dnL,nth,projV,List.getD_cons_succ,List.getD_cons_zero];rfl) rfl ?_;by_cases hx:0<=(r:Int)-dr/\(r:Int)-dr<rows.length/\0<=(c:Int)-dc/\(c:Int)-dc<n
 ·obtain⟨a,ha⟩:=Int.eq_ofNat_of_zero_le hx.1;obtain⟨e,he⟩:=Int.eq_ofNat_of_zero_le hx.2.2.1;refine wp_callE (ev41h _ h hp (b:=b) (dr:=dr) (dc:=dc) (r:=r) (c:=c) ha he (by omega) (by omega)) rfl ?_;have hval:val n rows p b dr dc r c=fx b (jn p (rows.getD (if b then rows.length-1-a else a) default) (if b then e else n-1-e)):=by
   unfold val;rw[if_pos hx,ha,he];rfl
  rw[hval];obtain⟨a',ha'⟩:∃a',a'=(if b then rows.length-1-a else a):=⟨_,rfl⟩;obtain⟨e',he'⟩:∃e',e'=(if b then e else n-1-e):=⟨_,rfl⟩;rw[←ha',←he'];have la:a'<rows.length:=by rw[ha'];split<;>omega
  have le:e'<n:=by rw[he'];split<;>omega
  have hrow:=h.at la;obtain⟨bt,g1,g2,g3⟩:=byte_at (ks:=rows.getD a' default) (by omega) hrow.2 p (j:=e') (by omega);unfold sides;refine wp_ext (by simp only[tv,tp,tn,PE.dn,SE.dn,dnL,nth,projV,List.getD_cons_succ,List.getD_cons_zero,extV];rfl) ?_;refine wp_ext (by simp only[tv,tp,tn,PE.dn,SE.dn,dnL,nth,projV,List.getD_cons_succ,List.getD_cons_zero,extV];rfl) ?_;refine wp_ext (by simp only[tv,tp,tn,PE.dn,SE.dn,dnL,nth,projV,List.getD_cons_succ,List.getD_cons_zero,extV];rfl) ?_;refine wp_not rfl ?_;refine wp_iteF rfl ?_;refine wp_rowS (a:=p) (sz:=1) rfl rfl hp (side_at hp) rfl ?_;refine wp_rowM (a:=a') rfl rfl (by omega) ?_;rw[getD_map la];refine wp _ g1 ?_;refine wp _ (conv_b g2) ?_;refine wp _ (tm_get1 g2) ?_;rw[g3];refine wp_callE (ev42 k p b dr dc _) rfl ?_;exact wp_ret rfl rfl rfl
 ·refine wp_callE (ev41m _ h hp hr hc h1 h2 hx) rfl ?_;refine wp_ext (by simp only[tv,tp,tn,PE.dn,SE.dn,dnL,nth,projV,List.getD_cons_succ,List.getD_cons_zero,extV];rfl) ?_;refine wp_ext (by simp only[tv,tp,tn,PE.dn,SE.dn,dnL,nth,projV,List.getD_cons_succ,List.getD_cons_zero,extV];rfl) ?_;refine wp_ext (by simp only[tv,tp,tn,PE.dn,SE.dn,dnL,nth,projV,List.getD_cons_succ,List.getD_cons_zero,extV];rfl) ?_;refine wp_not rfl ?_;refine wp_iteT rfl ?_;refine wp_ret rfl rfl ?_;unfold val;rw[if_neg hx];rfl
end
end
section
open Go Go.RowKit
theorem len12{α:Type}{F:List α}(h:F.length=12):∃a b c d e f g h i j k l,F=[a,b,c,d,e,f,g,h,i,j,k,l]:=by
 match F,h with
 |[a,b,c,d,e,f,g,h,i,j,k,l],_=>exact⟨a,b,c,d,e,f,g,h,i,j,k,l,rfl⟩
theorem splice_set{α:Type}{f:α->PV}{l:List α}{i:Nat}{v:α}(hi:i<l.length):splice (l.map f) i [f v]=(l.set i v).map f:=by
 unfold splice;refine List.ext_getElem? λm=>?_;simp only[List.length_cons,List.length_nil,List.getElem?_map,List.getElem?_set,List.append_assoc];rcases Nat.lt_trichotomy m i with hm|rfl|hm
 ·rw[List.getElem?_append_left (by simp;omega),List.getElem?_take,if_pos hm,if_neg (by omega)];simp
 ·rw[List.getElem?_append_right (by simp only[List.length_take,List.length_map];omega),if_pos rfl,if_pos hi];simp;rw[Nat.min_eq_left (by omega)];simp
 ·rw[List.getElem?_append_right (by simp;omega),if_neg (by omega),List.length_take,List.length_map,Nat.min_eq_left (by omega),List.getElem?_append_right (by simp;omega),List.getElem?_drop];simp;congr 2;omega
theorem getDI_set{F:List Int}{i m:Nat}{v:Int}(hi:i<F.length):(F.set i v).getD m 0=if m=i then v else F.getD m 0:=by
 simp only[List.getD_eq_getElem?_getD,List.getElem?_set];by_cases e:i=m
 ·subst e;simp[hi]
 ·rw[if_neg e,if_neg (λh=>e h.symm)]
section
variable{n:Nat}{rows:List (List Nat)}
theorem ev25(k:Nat)(h:Bd n rows){p:Nat}(hp:p<2){b:Bool}{dr dc:Int}(h1:-1<=dr/\dr<=1)(h2:-1<=dc/\dc<=1):
  Ev (k+7) 25 [br n rows,lay p b dr dc] λv=>∃F:List Int,v=.agg (F.map iv)/\F.length=12/\∀r c,r<rows.length->c<n->F.getD (r*4+c) 0=val n rows p b dr dc r c:=by
 have hr1:=h.r1;have hr3:=h.r3;have hn4:=h.n4;refine rn_of (t:=t25) (by kernel_rfl) (fn:=Try.f25) (by kernel_rfl) (by simp[fitArgs,flagsOf,br_plain,lay]) ?_;unfold br lay ce;refine wp_agg (by simp only[tv,tp,tn,PE.dn,SE.dn,dnL,nth,projV,List.getD_cons_succ,List.getD_cons_zero];rfl) rfl ?_;refine wp_agg (by simp only[tv,tp,tn,PE.dn,SE.dn,dnL,nth,projV,List.getD_cons_succ,List.getD_cons_zero];rfl) rfl ?_;refine wp_lenS (by first|exact is22|exact is25|exact is26|exact is30|exact is32|exact is37|exact is38|exact is41|exact is50) rfl ?_;refine wp_join (λvs=>∃F:List Int,vs=F.map iv/\F.length=12/\∀r c,r<rows.length->c<n->F.getD (r*4+c) 0=val n rows p b dr dc r c) ?_ ?_
 ·refine wp_loop (λj vs=>∃(i:Nat)(F:List Int),vs=iv i::F.map iv/\i+j=rows.length/\F.length=12/\∀r c,r<i->c<n->F.getD (r*4+c) 0=val n rows p b dr dc r c) rows.length (by omega) ⟨0,List.replicate 12 0,rfl,by omega,rfl,λr c hr=>by omega⟩ ?_;rintro j vs ⟨i,F,rfl,hi,hF,hv⟩;obtain⟨f0,f1,f2,f3,f4,f5,f6,f7,f8,f9,f10,f11,rfl⟩:=len12 hF;simp only[List.map_cons,List.map_nil];refine wp_lss rfl rfl ?_;refine wp_iteP rfl (λhlt=>?_) (λhlt=>?_)
  ·have e:i<rows.length:=by simp at hlt;omega
   refine wp_rowM rfl rfl (by omega) ?_;refine wp_lenS (by first|exact is22|exact is25|exact is26|exact is30|exact is32|exact is37|exact is38|exact is41|exact is50) rfl ?_;unfold cellS;try refine rn_norm (by(try simp only[List.length_cons,List.length_nil,Nat.reduceAdd,Nat.zero_add]);rfl) (by(try simp only[pushL]);rfl) ?_
   refine wp_join (λvs=>∃F:List Int,vs=F.map iv/\F.length=12/\∀r c,r<i+1->c<n->F.getD (r*4+c) 0=val n rows p b dr dc r c) ?_ ?_
   ·refine wp_loop (λj vs=>∃(c:Nat)(F:List Int),vs=iv c::F.map iv/\c+j=n/\F.length=12/\(∀r c,r<i->c<n->F.getD (r*4+c) 0=val n rows p b dr dc r c)/\∀c',c'<c->F.getD (i*4+c') 0=val n rows p b dr dc i c') n (by omega) ⟨0,_,rfl,by omega,rfl,hv,λc' hc'=>by omega⟩ ?_;clear hv;rintro j vs ⟨c,F,rfl,hc,hF,hv,hw⟩;obtain⟨g0,g1,g2,g3,g4,g5,g6,g7,g8,g9,g10,g11,hG⟩:=len12 hF;rw[hG];simp only[List.map_cons,List.map_nil];refine wp_lss rfl rfl ?_;refine wp_iteP rfl (λhlt=>?_) (λhlt=>?_)
    ·have ec:c<n:=by simp at hlt;omega
     refine wp_callE (ev28 k h hp (b:=b) (dr:=dr) (dc:=dc) e ec h1 h2) rfl ?_;try refine rn_norm (by(try simp only[List.length_cons,List.length_nil,Nat.reduceAdd,Nat.zero_add]);rfl) (by(try simp only[pushL]);rfl) ?_
     refine wp (iv ((i*4:Nat):Int)) (by
      simp only[Prim.rn,tv,tp,tn,PE.dn,SE.dn,dnL,nth,projV,List.getD_cons_succ,List.getD_cons_zero,aoffV];rw[if_pos (by omega)];simp<;>omega) ?_
     try refine rn_norm (by(try simp only[List.length_cons,List.length_nil,Nat.reduceAdd,Nat.zero_add]);rfl) (by(try simp only[pushL]);rfl) ?_
     refine wp (iv ((i*4+c:Nat):Int)) (by
      simp only[Prim.rn,tv,tp,tn,PE.dn,SE.dn,dnL,nth,projV,List.getD_cons_succ,List.getD_cons_zero,aoffV];rw[if_pos (by omega)];simp<;>omega) ?_
     refine wp_one rfl rfl ?_;refine wp_lst ?_;have hlt12:i*4+c<F.length:=by omega
     obtain⟨F2,hF2⟩:∃F2,F2=F.set (i*4+c) (val n rows p b dr dc i c):=⟨_,rfl⟩;have l2:F2.length=12:=by rw[hF2,List.length_set,hF]
     try refine rn_norm (by(try simp only[List.length_cons,List.length_nil,Nat.reduceAdd,Nat.zero_add]);rfl) (by(try simp only[pushL]);rfl) ?_
     refine wp (.agg (F2.map iv)) (by
      simp only[Prim.rn,tv,tp,tn,PE.dn,SE.dn,dnL,nth,projV,List.getD_cons_succ,List.getD_cons_zero,putV,Int.toNat_natCast,List.length_cons,List.length_nil];rw[if_pos (by omega)];have:=splice_set (f:=iv) (v:=val n rows p b dr dc i c) hlt12;rw[hG]at this;simp only[List.map_cons,List.map_nil]at this;simp only[Nat.mul_one,Nat.add_zero];rw[this,hF2,hG]) ?_
     obtain⟨k0,k1,k2,k3,k4,k5,k6,k7,k8,k9,k10,k11,hK⟩:=len12 l2;rw[hK];simp only[List.map_cons,List.map_nil];refine wp_add1 rfl rfl (by omega) ?_;refine wp_jump ⟨j-1,by omega,c+1,F2,by rw[hK];rfl,by omega,l2,λr c' hr hc'=>?_,λc' hc'=>?_⟩
     ·rw[hF2,getDI_set hlt12,if_neg (by omega)];exact hv r c' hr hc'
     ·rw[hF2,getDI_set hlt12];split
      ·rename_i e';have:c'=c:=by omega
       rw[this]
      ·exact hw c' (by omega)
    ·refine wp_jumpO (by decide) ?_;refine wp_jump ⟨F,by rw[hG];rfl,hF,λr c' hr hc'=>?_⟩;rcases Nat.lt_or_ge r i with hlt'|hge
     ·exact hv r c' hlt' hc'
     ·have:r=i:=by omega
      subst this;exact hw c' (by simp at hlt;omega)
   rintro vs ⟨F,rfl,hF,hv'⟩;obtain⟨g0,g1,g2,g3,g4,g5,g6,g7,g8,g9,g10,g11,hG⟩:=len12 hF;rw[hG];simp only[List.map_cons,List.map_nil];refine wp_add1 rfl rfl (by omega) ?_;exact wp_jump ⟨j-1,by omega,i+1,F,by rw[hG];rfl,by omega,hF,hv'⟩
  ·refine wp_jumpO (by decide) ?_;exact wp_jump ⟨_,rfl,hF,λr c hr hc=>hv r c (by simp at hlt;omega) hc⟩
 ·rintro vs ⟨F,rfl,hF,hv⟩;obtain⟨g0,g1,g2,g3,g4,g5,g6,g7,g8,g9,g10,g11,hG⟩:=len12 hF;rw[hG];simp only[List.map_cons,List.map_nil];refine wp_ret rfl ?_ ⟨F,by rw[hG];rfl,hF,hv⟩;rfl
end
end
section
open Go Go.RowKit
theorem ints_plain(l:List Int):plainC (l.map iv)=true:=by
 induction l with
 |nil=>rfl
 |cons a l ih=>simp[plainC,PV.plain,ih]
section
variable{n:Nat}{rows:List (List Nat)}
def want(n:Nat)(rows:List (List Nat))(r c:Nat):Int:=mk' ((rows.getD r default).getD (n-1-c) 0)
theorem ev39(k:Nat)(h:Bd n rows){F:List Int}(hF:F.length=12){r c:Nat}(hr:r<rows.length)(hc:c<n):
  Ev (k+1) 39 [br n rows,.agg (F.map iv),iv r,iv c] λv=>∃b,v=.bool b/\(F.getD (r*4+c) 0=want n rows r c->b=true):=by
 have hr1:=h.r1;have hr3:=h.r3;have hn4:=h.n4;have hlt:r*4+c<F.length:=by omega
 have hget:((F.map iv).drop (r*4+c)).take 1=[iv (F.getD (r*4+c) 0)]:=by
  have:=row_map (f:=iv) (l:=F) (a:=r*4+c) hlt;rw[Nat.mul_one]at this;rw[this];rfl
 refine rn_of (t:=t39) (by kernel_rfl) (fn:=Try.f39) (by kernel_rfl) (by simp[fitArgs,flagsOf,br_plain,ints_plain]) ?_;obtain⟨f0,f1,f2,f3,f4,f5,f6,f7,f8,f9,f10,f11,hE⟩:=len12 hF;have hg:getV 1 0 1 (.agg [iv f0,iv f1,iv f2,iv f3,iv f4,iv f5,iv f6,iv f7,iv f8,iv f9,iv f10,iv f11]) (iv ((r*4+c:Nat):Int))=some (.agg [iv (F.getD (r*4+c) 0)]):=by
  rw[hE]at hget;simp only[List.map_cons,List.map_nil]at hget;simp only[getV,Int.toNat_natCast,Nat.mul_one,Nat.add_zero,hget];rw[hE];simp
 have hmap:F.map iv=[iv f0,iv f1,iv f2,iv f3,iv f4,iv f5,iv f6,iv f7,iv f8,iv f9,iv f10,iv f11]:=by rw[hE];rfl
 rw[hmap];clear hE hmap hget;generalize F.getD (r*4+c) 0=x at hg;unfold br ce;refine wp_agg (by simp only[tv,tp,tn,PE.dn,SE.dn,dnL,nth,projV,List.getD_cons_succ,List.getD_cons_zero];rfl) rfl ?_;refine wp_agg (by simp only[tv,tp,tn,PE.dn,SE.dn,dnL,nth,projV,List.getD_cons_succ,List.getD_cons_zero];rfl) rfl ?_;refine wp_rowM rfl rfl (by omega) ?_;unfold cellS;refine wp_rowS (a:=c) (sz:=2) rfl rfl hc (cell_at h hr hc) rfl ?_;have hw:mk' ((rows.getD r default).getD (n-1-c) 0)=want n rows r c:=rfl;have hw2:bits .and .i64 (want n rows r c) (want n rows r c)=want n rows r c:=mk_and2 _;have hw3:bits .and .i64 (want n rows r c) (63-want n rows r c)=0:=mk_and _;rw[hw];generalize want n rows r c=y at hw2 hw3;refine wp_join (λvs=>∃b,vs=[.bool b]/\(x=y->b=true)) ?_ ?_
 ·try refine rn_norm (by(try simp only[List.length_cons,List.length_nil,Nat.reduceAdd,Nat.zero_add]);rfl) (by(try simp only[pushL]);rfl) ?_
  refine wp (iv ((r*4:Nat):Int)) (by
   simp only[Prim.rn,tv,tp,tn,PE.dn,SE.dn,dnL,nth,projV,List.getD_cons_succ,List.getD_cons_zero,aoffV];rw[if_pos (by omega)];simp<;>omega) ?_
  refine wp (iv ((r*4+c:Nat):Int)) (by
   simp only[Prim.rn,tv,tp,tn,PE.dn,SE.dn,dnL,nth,projV,List.getD_cons_succ,List.getD_cons_zero,aoffV];rw[if_pos (by omega)];simp<;>omega) ?_
  refine wp_lst ?_;refine wp _ hg ?_;refine wp_and rfl rfl ?_;refine wp_eql rfl rfl ?_;refine wp_iteP rfl (λq=>?_) (λq=>?_)
  ·try refine rn_norm (by(try simp only[List.length_cons,List.length_nil,Nat.reduceAdd,Nat.zero_add]);rfl) (by(try simp only[pushL]);rfl) ?_
   refine wp (iv ((r*4:Nat):Int)) (by
    simp only[Prim.rn,tv,tp,tn,PE.dn,SE.dn,dnL,nth,projV,List.getD_cons_succ,List.getD_cons_zero,aoffV];rw[if_pos (by omega)];simp<;>omega) ?_
   refine wp (iv ((r*4+c:Nat):Int)) (by
    simp only[Prim.rn,tv,tp,tn,PE.dn,SE.dn,dnL,nth,projV,List.getD_cons_succ,List.getD_cons_zero,aoffV];rw[if_pos (by omega)];simp<;>omega) ?_
   refine wp_lst ?_;refine wp _ hg ?_;refine wp_and rfl rfl ?_;refine wp_eql rfl rfl ?_;refine wp_jump ⟨_,rfl,λe=>?_⟩;subst e;rw[hw3];simp
  ·refine wp_jump ⟨_,rfl,λe=>?_⟩;subst e;exact absurd hw2 q
 ·rintro vs ⟨b,rfl,hb⟩;exact wp_ret rfl rfl ⟨b,rfl,hb⟩
theorem ev24(k:Nat)(h:Bd n rows){F:List Int}(hF:F.length=12):
  Ev (k+2) 24 [br n rows,.agg (F.map iv)] λv=>∃cs,v=frzN 1 cs/\plainC cs=true/\((∀r c,r<rows.length->c<n->F.getD (r*4+c) 0=want n rows r c)->cs=[]):=by
 have hr1:=h.r1;have hr3:=h.r3;have hn4:=h.n4;refine rn_of (t:=t24) (by kernel_rfl) (fn:=Try.f24) (by kernel_rfl) (by simp[fitArgs,flagsOf,br_plain,ints_plain]) ?_;obtain⟨f0,f1,f2,f3,f4,f5,f6,f7,f8,f9,f10,f11,hE⟩:=len12 hF;have hmap:F.map iv=[iv f0,iv f1,iv f2,iv f3,iv f4,iv f5,iv f6,iv f7,iv f8,iv f9,iv f10,iv f11]:=by rw[hE];rfl
 have e39:∀r c,r<rows.length->c<n->Ev (k+1) 39 [br n rows,.agg [iv f0,iv f1,iv f2,iv f3,iv f4,iv f5,iv f6,iv f7,iv f8,iv f9,iv f10,iv f11],iv r,iv c] λv=>∃b,v=.bool b/\(F.getD (r*4+c) 0=want n rows r c->b=true):=λr c hr hc=>by
  have:=ev39 k h hF hr hc;rw[hmap]at this;exact this
 rw[hmap];obtain⟨Al,hAl⟩:∃Al:Prop,Al=∀r c,r<rows.length->c<n->F.getD (r*4+c) 0=want n rows r c:=⟨_,rfl⟩;rw[←hAl];unfold br ce;refine wp_agg (by simp only[tv,tp,tn,PE.dn,SE.dn,dnL,nth,projV,List.getD_cons_succ,List.getD_cons_zero];rfl) rfl ?_;refine wp_agg (by simp only[tv,tp,tn,PE.dn,SE.dn,dnL,nth,projV,List.getD_cons_succ,List.getD_cons_zero];rfl) rfl ?_;refine wp_lenS (by first|exact is22|exact is25|exact is26|exact is30|exact is32|exact is37|exact is38|exact is41|exact is50) rfl ?_;refine wp_join (λvs=>∃cs,vs=[.agg cs]/\plainC cs=true/\(Al->cs=[])) ?_ ?_
 ·refine wp_loop (λj vs=>∃(i:Nat)(cs:List PV),vs=[.agg cs,iv i]/\i+j=rows.length/\cs.length<=i*4/\plainC cs=true/\(Al->cs=[])) rows.length (by omega) ⟨0,[],rfl,by omega,by simp,rfl,λ_=>rfl⟩ ?_;rintro j vs ⟨i,cs,rfl,hi,hl,hp,ha⟩;refine wp_lss rfl rfl ?_;refine wp_iteP rfl (λhlt=>?_) (λhlt=>?_)
  ·have e:i<rows.length:=by simp at hlt;omega
   refine wp_rowM rfl rfl (by omega) ?_;refine wp_lenS (by first|exact is22|exact is25|exact is26|exact is30|exact is32|exact is37|exact is38|exact is41|exact is50) rfl ?_;unfold cellS;try refine rn_norm (by(try simp only[List.length_cons,List.length_nil,Nat.reduceAdd,Nat.zero_add]);rfl) (by(try simp only[pushL]);rfl) ?_
   refine wp_join (λvs=>∃cs,vs=[.agg cs]/\cs.length<=i*4+n/\plainC cs=true/\(Al->cs=[])) ?_ ?_
   ·refine wp_loop (λj vs=>∃(c:Nat)(cs:List PV),vs=[.agg cs,iv c]/\c+j=n/\cs.length<=i*4+c/\plainC cs=true/\(Al->cs=[])) n (by omega) ⟨0,cs,rfl,by omega,by omega,hp,ha⟩ ?_;clear hl hp ha;rintro j vs ⟨c,cs,rfl,hc,hl,hp,ha⟩;refine wp_lss rfl rfl ?_;refine wp_iteP rfl (λhlt=>?_) (λhlt=>?_)
    ·have ec:c<n:=by simp at hlt;omega
     refine wp_call (e39 i c e ec) rfl ?_;rintro v ⟨b,rfl,hb⟩;refine wp_not rfl ?_;refine wp_join (λvs=>∃cs,vs=[.agg cs]/\cs.length<=i*4+(c+1)/\plainC cs=true/\(Al->cs=[])) ?_ ?_
     ·cases b
      ·refine wp_iteT rfl ?_;refine wp_one rfl rfl ?_;refine wp_one rfl rfl ?_;refine wp_push1 (v:=.sl none 1 0 2 [iv i,iv c]) rfl rfl (by decide) (by omega) ?_;refine wp_jump ⟨_,rfl,by simp;omega,?_,λhA=>?_⟩
       ·rw[plainC_iff]at hp⊢;intro q hq;simp only[List.mem_append,List.mem_singleton]at hq;rcases hq with hq|rfl
        ·exact hp q hq
        ·exact⟨rfl,rfl⟩
       ·rw[hAl]at hA;exact absurd (hb (hA i c e ec)) (by decide)
      ·refine wp_iteF rfl ?_;exact wp_jump ⟨cs,rfl,by omega,hp,ha⟩
     rintro vs ⟨cs',rfl,hl',hp',ha'⟩;refine wp_add1 rfl rfl (by omega) ?_;exact wp_jump ⟨j-1,by omega,c+1,cs',rfl,by omega,hl',hp',ha'⟩
    ·refine wp_jumpO (by decide) ?_;exact wp_jump ⟨cs,rfl,by omega,hp,ha⟩
   rintro vs ⟨cs',rfl,hl',hp',ha'⟩;refine wp_add1 rfl rfl (by omega) ?_;exact wp_jump ⟨j-1,by omega,i+1,cs',rfl,by omega,by omega,hp',ha'⟩
  ·refine wp_jumpO (by decide) ?_;exact wp_jump ⟨cs,rfl,hp,ha⟩
 ·rintro vs ⟨cs,rfl,hp,ha⟩;refine wp_frzP rfl ?_;exact wp_ret rfl (frzN_plain hp).1 ⟨cs,rfl,hp,ha⟩
end
end
section
open Go Go.RowKit
section
variable{C:Orc->FuncId->List PV->Option PV}{n:Nat}{R:Out->Prop}{d:Nat}{st:List PV}{t:Tree}
theorem wp_remN{T:TypeId}{x y:PE}{a b:Nat}(hx:x.dn d st=iv a)(hy:y.dn d st=iv b)(hb:0<b)(k:Rn C n t (d+1) (iv ((a%b:Nat):Int)::st) R):Rn C n (.prim (.bin .rem T x y) t) d st R:=wp _ (by
 simp only[Prim.rn,hx,hy];rw[aBin_rem (by omega)];rfl) k
theorem wp_quoN{T:TypeId}{x y:PE}{a b:Nat}(hx:x.dn d st=iv a)(hy:y.dn d st=iv b)(hb:0<b)(ha:a<1000000)(k:Rn C n t (d+1) (iv ((a/b:Nat):Int)::st) R):Rn C n (.prim (.bin .quo T x y) t) d st R:=wp _ (by
 simp only[Prim.rn,hx,hy];rw[aBin_quo (by omega)];have:(a:Int).tdiv b=((a/b:Nat):Int):=rfl;have h1:a/b<=a:=Nat.div_le_self a b;rw[this];generalize a/b=q at h1;rw[wrap64 (by omega) (by omega)]) k
theorem wp_pushK{sz b:Nat}{c:SE}{y:PE}{cs news:List PV}(hc:c.dn d st=.agg cs)(hy:y.dn d st=.sl none sz 0 1 news)(hn:news.length=sz)(hb:b<=128)(hl:cs.length<100000)(k:Rn C n t (d+1) (.agg (cs++news)::st) R):Rn C n (.prim (.push sz b c y) t) d st R:=wp _ (by
 have h0:cs.length/sz<=cs.length:=Nat.div_le_self _ _;have h1:(cs.length/sz+1)*b<=(cs.length/sz+1)*128:=Nat.mul_le_mul_left _ hb;simp only[Prim.rn,hc,hy,pushV,aTail];simp[hn];omega) k
end
section
variable{n:Nat}{rows:List (List Nat)}
theorem val_id{r c:Nat}(hr:r<rows.length)(hc:c<n):val n rows 0 false 0 0 r c=want n rows r c:=by
 unfold val;rw[if_pos ⟨by omega,by omega,by omega,by omega⟩];simp[fx,jn,want]
theorem val_flip(h:Bd n rows){r c:Nat}(hr:r<rows.length)(hc:c<n):val n rows 1 false 0 0 r c=ik ((rows.getD r default).getD c 0):=by
 unfold val;rw[if_pos ⟨by omega,by omega,by omega,by omega⟩];have h1:=(h.at hr).1;simp only[Int.sub_zero,Int.toNat_natCast,fx,jn,Bool.false_eq_true,if_false];have e:n-1-(n-1-c)=c:=by omega
 rw[h1,e];generalize(rows.getD r default).getD c 0=z
 match z with
 |0=>rfl
 |1=>rfl
 |2=>rfl
 |_+3=>rfl
abbrev Ly:=Int×Bool×Int×Int
def lcs(l:Ly):List PV:=[iv l.1,.bool l.2.1,iv l.2.2.1,iv l.2.2.2]
def lys(Ls:List Ly):List PV:=Ls.flatMap lcs
theorem lys_len(Ls:List Ly):(lys Ls).length=Ls.length*4:=by
 induction Ls with
 |nil=>rfl
 |cons a l ih=>
  have:lys (a::l)=lcs a++lys l:=rfl;rw[this,List.length_append,ih,List.length_cons];show 4+_=_;omega
theorem lys_plain(Ls:List Ly):plainC (lys Ls)=true:=by
 refine(plainC_iff _).2 λq hq=>?_;simp only[lys,List.mem_flatMap,lcs]at hq;obtain⟨a,_,hq⟩:=hq;simp at hq;rcases hq with rfl|rfl|rfl|rfl<;>exact⟨by simp,rfl⟩
theorem lys_add(Ls:List Ly)(l:Ly):lys (Ls++[l])=lys Ls++lcs l:=by simp[lys]
theorem plainC_add{a b:List PV}(ha:plainC a=true)(hb:plainC b=true):plainC (a++b)=true:=by
 rw[plainC_iff]at ha hb⊢;intro q hq;rcases List.mem_append.1 hq with h|h
 ·exact ha q h
 ·exact hb q h
theorem ev26(k:Nat)(h:Bd n rows):Ev (k+8) 26 [br n rows] λv=>∃Ls ds,v=.tup [frzN 4 (lys Ls),ds]/\Ls.length<=36/\((0,false,0,0):Ly)∈Ls:=by
 have hr1:=h.r1;have hr3:=h.r3;have hn4:=h.n4;refine rn_of (t:=t26) (by kernel_rfl) (fn:=Try.f26) (by kernel_rfl) (by simp[fitArgs,flagsOf,br_plain]) ?_;unfold br sides;refine wp_agg (by simp only[tv,tp,tn,PE.dn,SE.dn,dnL,nth,projV,List.getD_cons_succ,List.getD_cons_zero];rfl) rfl ?_;refine wp_join (λvs=>∃(Ls:List Ly)(ds:List PV),vs=[.agg (lys Ls),.agg ds]/\plainC ds=true/\Ls.length<=36/\((0,false,0,0):Ly)∈Ls) ?_ ?_
 ·refine wp_lenS (by first|exact is22|exact is25|exact is26|exact is30|exact is32|exact is37|exact is38|exact is41|exact is50) rfl ?_;refine wp_join (λvs=>∃(Ls:List Ly)(ds:List PV),vs=[.agg (lys Ls),.agg ds]/\plainC ds=true/\Ls.length<=36/\((0,false,0,0):Ly)∈Ls) ?_ ?_
  ·refine wp_loop (λj vs=>∃(p:Nat)(Ls:List Ly)(ds:List PV),vs=[iv p,.agg (lys Ls),.agg ds]/\p+j=2/\plainC ds=true/\Ls.length<=p*18/\ds.length=Ls.length*12/\(0<p->((0,false,0,0):Ly)∈Ls)) 2 (by omega) ⟨0,[],[],rfl,by omega,rfl,by simp,rfl,λh=>by omega⟩ ?_;rintro j vs ⟨p,Ls,ds,rfl,hp,hd,hm,hld,hid⟩;refine wp_lss rfl rfl ?_;refine wp_iteP rfl (λhlt=>?_) (λhlt=>?_)
   ·have ep:p<2:=by(try simp at hlt);omega
    refine wp_one rfl rfl ?_;refine wp_join (λvs=>∃(Ls:List Ly)(ds:List PV),vs=[.agg (lys Ls),.agg ds]/\plainC ds=true/\Ls.length<=(p+1)*18/\ds.length=Ls.length*12/\((0,false,0,0):Ly)∈Ls) ?_ ?_
    ·refine wp_join (λvs=>∃(Ls:List Ly)(ds:List PV),vs=[.agg (lys Ls),.agg ds]/\plainC ds=true/\Ls.length<=(p+1)*18/\ds.length=Ls.length*12/\((0,false,0,0):Ly)∈Ls) ?_ ?_
     ·refine wp_loop (λj vs=>∃(i:Nat)(Ls:List Ly)(ds:List PV),vs=[iv i,.agg (lys Ls),.agg ds]/\i+j=18/\plainC ds=true/\Ls.length<=p*18+i/\ds.length=Ls.length*12/\(0<p\/4<i->((0,false,0,0):Ly)∈Ls)) 18 (by omega) ⟨0,Ls,ds,rfl,by omega,hd,by omega,hld,λh=>hid (by omega)⟩ ?_;clear hd hm hld hid;rintro j vs ⟨i,Ls,ds,rfl,hi,hd,hm,hld,hid⟩;have hl:=lys_len Ls;refine wp_lss rfl rfl ?_;refine wp_iteP rfl (λhlt=>?_) (λhlt=>?_)
      ·have ei:i<18:=by(try simp at hlt);omega
       refine wp_geq rfl rfl ?_;refine wp_remN (a:=i) (b:=9) rfl rfl (by omega) ?_;refine wp_quoN (a:=i%9) (b:=3) rfl rfl (by omega) (by omega) ?_;refine wp_sub (a:=((i%9/3:Nat):Int)) (b:=1) rfl rfl (by omega) (by omega) ?_;refine wp_remN (a:=i) (b:=3) rfl rfl (by omega) ?_;refine wp_sub (a:=((i%3:Nat):Int)) (b:=1) rfl rfl (by omega) (by omega) ?_;refine wp_call (ev25 k h ep (b:=decide ((9:Int)<=i)) (dr:=((i%9/3:Nat):Int)-1) (dc:=((i%3:Nat):Int)-1) (by omega) (by omega)) rfl ?_;rintro v ⟨F,rfl,hF,hv⟩;have e24:=ev24 (k+5) h hF;obtain⟨f0,f1,f2,f3,f4,f5,f6,f7,f8,f9,f10,f11,hE⟩:=len12 hF;rw[hE]at e24⊢;simp only[List.map_cons,List.map_nil]at e24⊢;rw[←hE]at e24;refine wp_agg (by simp only[tv,tp,tn,PE.dn,SE.dn,dnL,nth,projV,List.getD_cons_succ,List.getD_cons_zero];rfl) rfl ?_;refine wp_call e24 rfl ?_;rintro v ⟨ms,rfl,hms,hall⟩;refine wp_lenN is26 rfl ?_;refine wp_eql rfl rfl ?_;refine wp_join (λvs=>∃(Ls:List Ly)(ds:List PV),vs=[.agg (lys Ls),.agg ds]/\plainC ds=true/\Ls.length<=p*18+(i+1)/\ds.length=Ls.length*12/\(0<p\/4<i+1->((0,false,0,0):Ly)∈Ls)) ?_ ?_
       ·refine wp_iteP rfl (λq=>?_) (λq=>?_)
        ·refine wp_pushK (news:=lcs ((p:Int),decide ((9:Int)<=i),((i%9/3:Nat):Int)-1,((i%3:Nat):Int)-1)) rfl rfl rfl (by decide) (by omega) ?_;refine wp_pushK (news:=[iv f0,iv f1,iv f2,iv f3,iv f4,iv f5,iv f6,iv f7,iv f8,iv f9,iv f10,iv f11]) rfl rfl rfl (by decide) (by omega) ?_;rw[←lys_add];refine wp_jump ⟨_,_,rfl,plainC_add hd (by simp),by simp;omega,by simp;omega,λhq=>?_⟩;by_cases hq':0<p\/4<i
         ·exact List.mem_append_left _ (hid hq')
         ·have hp0:p=0:=by omega
          have hi4:i=4:=by omega
          subst hp0;subst hi4;exact List.mem_append_right _ (List.mem_singleton.2 rfl)
        ·refine wp_jump ⟨Ls,ds,rfl,hd,by omega,hld,λhq=>?_⟩;by_cases hq':0<p\/4<i
         ·exact hid hq'
         ·have hp0:p=0:=by omega
          have hi4:i=4:=by omega
          subst hp0;subst hi4;have:ms=[]:=hall λr c hr hc=>by
           rw[hv r c hr hc];exact val_id hr hc
          rw[this]at q;exact absurd rfl q
       rintro vs ⟨Ls',ds',rfl,hd',hm',hld',hid'⟩;refine wp_add1 rfl rfl (by omega) ?_;exact wp_jump ⟨j-1,by omega,i+1,Ls',ds',rfl,by omega,hd',hm',hld',hid'⟩
      ·refine wp_jumpO (by decide) ?_;exact wp_jump ⟨Ls,ds,rfl,hd,by(try simp at hlt);omega,hld,hid (by(try simp at hlt);omega)⟩
     rintro vs ⟨Ls',ds',rfl,hd',hm',hld',hid'⟩;exact wp_jump ⟨Ls',ds',rfl,hd',hm',hld',hid'⟩
    rintro vs ⟨Ls',ds',rfl,hd',hm',hld',hid'⟩;refine wp_add1 rfl rfl (by omega) ?_;exact wp_jump ⟨j-1,by omega,p+1,Ls',ds',rfl,by omega,hd',hm',hld',λ_=>hid'⟩
   ·refine wp_jumpO (by decide) ?_;exact wp_jump ⟨Ls,ds,rfl,hd,by omega,hid (by(try simp at hlt);omega)⟩
  rintro vs ⟨Ls,ds,rfl,hd,hm,hid⟩;exact wp_jump ⟨Ls,ds,rfl,hd,hm,hid⟩
 ·rintro vs ⟨Ls,ds,rfl,hd,hm,hid⟩;refine wp_frzP rfl ?_;refine wp_frzP rfl ?_;refine wp_ret (v:=.tup [frzN 4 (lys Ls),frzN 12 ds]) rfl ?_ ⟨Ls,_,rfl,hm,hid⟩;simp[plainT,(frzN_plain (lys_plain Ls)).1,(frzN_plain hd).1]
end
end
section
open Go Go.RowKit
section
variable{n:Nat}{rows:List (List Nat)}
theorem ev38(k:Nat)(h:Bd n rows){p:Nat}(hp:p<2):Ev (k+1) 38 [br n rows,iv p] λv=>v=.bool true:=by
 refine rn_of (t:=t38) (by kernel_rfl) (fn:=Try.f38) (by kernel_rfl) (by simp[fitArgs,flagsOf,br_plain]) ?_;unfold br sides;refine wp_agg (by simp only[tv,tp,tn,PE.dn,SE.dn,dnL,nth,projV,List.getD_cons_succ,List.getD_cons_zero];rfl) rfl ?_;refine wp_join (λvs=>vs=[.bool true]) ?_ ?_
 ·refine wp_leq rfl rfl ?_;refine wp_itePT rfl (by omega) ?_;refine wp_lenS (by first|exact is22|exact is25|exact is26|exact is30|exact is32|exact is37|exact is38|exact is41|exact is50) rfl ?_;refine wp_lss rfl rfl ?_;exact wp_jump (jb_t (by omega)).symm
 rintro vs rfl;exact wp_ret rfl rfl rfl
theorem ev23(k:Nat)(h:Bd n rows){p:Nat}(hp:p<2):Ev (k+2) 23 [br n rows,lay p false 0 0] λv=>v=iv 0:=by
 refine rn_of (t:=t23) (by kernel_rfl) (fn:=Try.f23) (by kernel_rfl) (by simp[fitArgs,flagsOf,br_plain,lay]) ?_;unfold br lay;refine wp_agg (by simp only[tv,tp,tn,PE.dn,SE.dn,dnL,nth,projV,List.getD_cons_succ,List.getD_cons_zero];rfl) rfl ?_;refine wp_agg (by simp only[tv,tp,tn,PE.dn,SE.dn,dnL,nth,projV,List.getD_cons_succ,List.getD_cons_zero];rfl) rfl ?_;refine wp_callE (ev38 k h hp) rfl ?_;exact wp_eval (o:=.val (iv 0)) (λω=>by kernel_rfl) ⟨iv 0,rfl,rfl,rfl⟩
theorem ev27(k:Nat)(h:Bd n rows){r c:Nat}(hr:r<rows.length)(hc:c<n):Ev (k+1) 27 [br n rows,iv r,iv c] λv=>v=.bool true:=by
 have hr1:=h.r1;refine rn_of (t:=t27) (by kernel_rfl) (fn:=Try.f27) (by kernel_rfl) (by simp[fitArgs,flagsOf,br_plain]) ?_;unfold br ce;refine wp_agg (by simp only[tv,tp,tn,PE.dn,SE.dn,dnL,nth,projV,List.getD_cons_succ,List.getD_cons_zero];rfl) rfl ?_;refine wp_join (λvs=>vs=[.bool true]) ?_ ?_
 ·refine wp_leq rfl rfl ?_;refine wp_itePT rfl (by omega) ?_;refine wp_lenS (by first|exact is22|exact is25|exact is26|exact is30|exact is32|exact is37|exact is38|exact is41|exact is50) rfl ?_;refine wp_lss rfl rfl ?_;refine wp_itePT rfl (by omega) ?_;refine wp_leq rfl rfl ?_;refine wp_itePT rfl (by omega) ?_;refine wp_rowM (a:=0) rfl rfl (by omega) ?_;unfold cellS;refine wp_lenS (by first|exact is22|exact is25|exact is26|exact is30|exact is32|exact is37|exact is38|exact is41|exact is50) rfl ?_;refine wp_lss rfl rfl ?_;exact wp_jump (jb_t (by omega)).symm
 rintro vs rfl;exact wp_ret rfl rfl rfl
theorem ev11(k:Nat)(h:Bd n rows):Ev (k+10) 11 [bd n rows,lay 0 false 0 0] λv=>v=.tup [.snil,iv 0]:=by
 refine rn_of (t:=t11) (by kernel_rfl) (fn:=Try.f11) (by kernel_rfl) (by simp[fitArgs,flagsOf,bd_plain,lay]) ?_;unfold bd lay;refine wp_agg (by simp only[tv,tp,tn,PE.dn,SE.dn,dnL,nth,projV,List.getD_cons_succ,List.getD_cons_zero];rfl) rfl ?_;refine wp_agg (by simp only[tv,tp,tn,PE.dn,SE.dn,dnL,nth,projV,List.getD_cons_succ,List.getD_cons_zero];rfl) rfl ?_;refine wp_callE (ev22 k h) rfl ?_;unfold br;refine wp_ext (by simp only[tv,tp,tn,PE.dn,SE.dn,dnL,nth,projV,List.getD_cons_succ,List.getD_cons_zero,extV];rfl) ?_;refine wp_ext (by simp only[tv,tp,tn,PE.dn,SE.dn,dnL,nth,projV,List.getD_cons_succ,List.getD_cons_zero,extV];rfl) ?_;refine wp_agg (by simp only[tv,tp,tn,PE.dn,SE.dn,dnL,nth,projV,List.getD_cons_succ,List.getD_cons_zero];rfl) rfl ?_;refine wp_eql rfl rfl ?_;refine wp_join (λvs=>vs=[iv 0]) ?_ ?_
 ·refine wp_iteT rfl ?_;refine wp_callE (ev23 _ h (p:=0) (by omega)) rfl ?_;exact wp_jump rfl
 rintro vs rfl;refine wp_neq rfl rfl ?_;refine wp_itePF rfl (by omega) ?_;refine wp_call (ev25 (k+2) h (p:=0) (by omega) (b:=false) (dr:=0) (dc:=0) (by omega) (by omega)) rfl ?_;rintro v ⟨F,rfl,hF,hv⟩;refine wp_call (ev24 _ h hF) rfl ?_;rintro v ⟨cs,rfl,_,hcs⟩;rw[hcs λr c hr hc=>by rw[hv r c hr hc];exact val_id hr hc];exact wp_ret rfl rfl rfl
theorem ev12(k:Nat)(h:Bd n rows):Ev (k+10) 12 [bd n rows] λv=>∃Ls,v=.tup [frzN 4 (lys Ls),iv 0]/\Ls.length<=36/\((0,false,0,0):Ly)∈Ls:=by
 refine rn_of (t:=t12) (by kernel_rfl) (fn:=Try.f12) (by kernel_rfl) (by simp[fitArgs,flagsOf,bd_plain]) ?_;unfold bd;refine wp_agg (by simp only[tv,tp,tn,PE.dn,SE.dn,dnL,nth,projV,List.getD_cons_succ,List.getD_cons_zero];rfl) rfl ?_;refine wp_callE (ev22 k h) rfl ?_;unfold br;refine wp_ext (by simp only[tv,tp,tn,PE.dn,SE.dn,dnL,nth,projV,List.getD_cons_succ,List.getD_cons_zero,extV];rfl) ?_;refine wp_ext (by simp only[tv,tp,tn,PE.dn,SE.dn,dnL,nth,projV,List.getD_cons_succ,List.getD_cons_zero,extV];rfl) ?_;refine wp_agg (by simp only[tv,tp,tn,PE.dn,SE.dn,dnL,nth,projV,List.getD_cons_succ,List.getD_cons_zero];rfl) rfl ?_;refine wp_neq rfl rfl ?_;refine wp_itePF rfl (by omega) ?_;refine wp_call (ev26 (k+1) h) rfl ?_;rintro v ⟨Ls,ds,rfl,h1,h2⟩;refine wp_ext (by simp only[tv,tp,tn,PE.dn,SE.dn,dnL,nth,projV,List.getD_cons_succ,List.getD_cons_zero,extV];rfl) ?_;refine wp_ext (by simp only[tv,tp,tn,PE.dn,SE.dn,dnL,nth,projV,List.getD_cons_succ,List.getD_cons_zero,extV];rfl) ?_;refine wp_ret (v:=.tup [frzN 4 (lys Ls),iv 0]) rfl ?_ ⟨Ls,rfl,h1,h2⟩;simp[plainT,(frzN_plain (lys_plain Ls)).1]
theorem ev13(k:Nat)(h:Bd n rows){r c:Nat}(hr:r<rows.length)(hc:c<n):Ev (k+10) 13 [bd n rows,lay 1 false 0 0,iv r,iv c] λv=>v=.tup [iv (ik ((rows.getD r default).getD c 0)),iv 0]:=by
 refine rn_of (t:=t13) (by kernel_rfl) (fn:=Try.f13) (by kernel_rfl) (by simp[fitArgs,flagsOf,bd_plain,lay]) ?_;unfold bd lay;refine wp_agg (by simp only[tv,tp,tn,PE.dn,SE.dn,dnL,nth,projV,List.getD_cons_succ,List.getD_cons_zero];rfl) rfl ?_;refine wp_agg (by simp only[tv,tp,tn,PE.dn,SE.dn,dnL,nth,projV,List.getD_cons_succ,List.getD_cons_zero];rfl) rfl ?_;refine wp_callE (ev22 k h) rfl ?_;unfold br;refine wp_ext (by simp only[tv,tp,tn,PE.dn,SE.dn,dnL,nth,projV,List.getD_cons_succ,List.getD_cons_zero,extV];rfl) ?_;refine wp_ext (by simp only[tv,tp,tn,PE.dn,SE.dn,dnL,nth,projV,List.getD_cons_succ,List.getD_cons_zero,extV];rfl) ?_;refine wp_agg (by simp only[tv,tp,tn,PE.dn,SE.dn,dnL,nth,projV,List.getD_cons_succ,List.getD_cons_zero];rfl) rfl ?_;refine wp_eql rfl rfl ?_;refine wp_join (λvs=>vs=[iv 0]) ?_ ?_
 ·refine wp_iteT rfl ?_;refine wp_callE (ev23 _ h (p:=1) (by omega)) rfl ?_;exact wp_jump rfl
 rintro vs rfl;refine wp_neq rfl rfl ?_;refine wp_itePF rfl (by omega) ?_;refine wp_callE (ev27 _ h hr hc) rfl ?_;refine wp_not rfl ?_;refine wp_iteF rfl ?_;refine wp_callE (ev28 (k+3) h (p:=1) (by omega) (b:=false) (dr:=0) (dc:=0) hr hc (by omega) (by omega)) rfl ?_;rw[val_flip h hr hc];exact wp_ret rfl rfl rfl
end
end
section
open Go Go.RowKit
theorem ev14(ω:Orc):E Try.prog 12 ω 14 []=some (.bool true):=by kernel_rfl
end
end Go.Proofs.Ytjfejoadcdoobaa
