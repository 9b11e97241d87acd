/- Part of the proof of TopTwins. No condition. -/
import Derived.WideKeyArgs
import Derived.Test.YtjfejoadcdoobaaRows
import Derived.Test.YtjfejoadcdoobaaChecked
import Derived.Test.YtjfejoadcdoobaaMTopTwinsAK
import Derived.Test.YtjfejoadcdoobaaMTopTwinsAW
namespace Go.Proofs.Ytjfejoadcdoobaa
set_option maxRecDepth 100000
set_option linter.all false
section
open Go Go.RowKit
section
variable{C:Orc->FuncId->List PV->Option PV}{n:Nat}{R:Out->Prop}{d:Nat}{st:List PV}{t:Tree}
theorem wp_addS{x y:PE}{a b:ByteArray}(hx:x.dn d st=.str a)(hy:y.dn d st=.str b)(h:a.size+b.size<=1000000)(k:Rn C n t (d+1) (.str (a++b)::st) R):Rn C n (.prim (.bin .add 9 x y) t) d st R:=wp _ (by simp only[Prim.rn,hx,hy,aBin,aStr,if_pos (show a.size+b.size<=9223372036854775807 by omega)]) k
theorem wp_eqlS{x y:PE}{a b:ByteArray}(hx:x.dn d st=.str a)(hy:y.dn d st=.str b)(k:Rn C n t (d+1) (.bool (a.toList==b.toList)::st) R):Rn C n (.prim (.bin .eql 9 x y) t) d st R:=wp _ (by simp only[Prim.rn,hx,hy,aBin,aStr]) k
theorem wp_frzNE{sz:Nat}{c:SE}{cs:List PV}(hc:c.dn d st=.agg cs)(hn:cs≠[])(k:Rn C n t (d+1) (.sl none sz 0 (cs.length/sz) cs::st) R):Rn C n (.prim (.frz sz .nil0 c) t) d st R:=wp _ (by
 cases cs with
 |nil=>exact absurd rfl hn
 |cons a l=>simp only[Prim.rn,hc,frzV,isNil]) k
theorem wp_frzRe{sz:Nat}{c:SE}{cs:List PV}(hc:c.dn d st=.agg cs)(k:Rn C n t (d+1) (.sl none sz 0 (cs.length/sz) cs::st) R):Rn C n (.prim (.frz sz .real c) t) d st R:=wp _ (by simp only[Prim.rn,hc,frzV,isNil]) k
end
theorem c0_row{j:Nat}(hj:j<4):(([.str ⟨#[98]⟩,.str ⟨#[100]⟩,.str ⟨#[111]⟩,.str ⟨#[45]⟩]:List PV).drop (j*1)).take 1=[.str (c0 j)]:=by
 match j,hj with
 |0,_=>rfl
 |1,_=>rfl
 |2,_=>rfl
 |3,_=>rfl
theorem c1_row{j:Nat}(hj:j<4):(([.str ⟨#[100]⟩,.str ⟨#[98]⟩,.str ⟨#[111]⟩,.str ⟨#[45]⟩]:List PV).drop (j*1)).take 1=[.str (c1 j)]:=by
 match j,hj with
 |0,_=>rfl
 |1,_=>rfl
 |2,_=>rfl
 |3,_=>rfl
theorem ik_row{j:Nat}(hj:j<4):(([iv 9,iv 6,iv 12,iv 0]:List PV).drop (j*1)).take 1=[iv (ik j)]:=by
 match j,hj with
 |0,_=>rfl
 |1,_=>rfl
 |2,_=>rfl
 |3,_=>rfl
theorem getD_mem{l:List Nat}{c:Nat}(h:c<l.length):l.getD c 0∈l:=by simp[List.getD_eq_getElem?_getD,h]
theorem c0_size(j:Nat):(c0 j).size=1:=by unfold c0;split<;>rfl
theorem c1_size(j:Nat):(c1 j).size=1:=by unfold c1;split<;>rfl
theorem lay_eq(a:Int)(b:Bool)(x y:Int):aBin Try.prog .eql 49 (.agg [iv a,.bool b,iv x,iv y]) (.agg [iv 0,.bool false,iv 0,iv 0])=some (.bool (decide (a=0)&&((b==false)&&(decide (x=0)&&(decide (y=0)&&true))))):=by kernel_rfl
theorem lys_row{Ls:List Ly}{i:Nat}(hi:i<Ls.length):((lys Ls).drop (i*4)).take 4=lcs (Ls.getD i default):=by
 induction Ls generalizing i with
 |nil=>simp at hi
 |cons a l ih=>
  have e:lys (a::l)=lcs a++lys l:=rfl;cases i with
  |zero=>rfl
  |succ i=>
   rw[e,show(i+1)*4=(lcs a).length+i*4 by show _=4+i*4;omega,List.drop_append];simp only[List.getD_cons_succ];rw[show(lcs a).drop ((lcs a).length+i*4)=[]by apply List.drop_eq_nil_of_le;omega];simp only[List.nil_append,Nat.add_sub_cancel_left];exact ih (by simpa using hi)
theorem ev3{q:PV}(hq:intsB q=true)(hp:q.plain=true):Ev 13 3 [q] λv=>v=.bool true:=by
 refine rn_of (t:=t3) (by kernel_rfl) (fn:=Try.f3) (by kernel_rfl) (by simp[fitArgs,flagsOf,hp]) ?_;try refine rn_norm (by(try simp only[List.length_cons,List.length_nil,Nat.reduceAdd,Nat.zero_add]);rfl) (by(try simp only[pushL]);rfl) ?_
 refine wp q (by simp[Prim.rn,tv,tp,tn,PE.dn,SE.dn,dnL,nth,projV,List.getD_cons_succ,List.getD_cons_zero,intsV,hq]) ?_;refine wp_callE (ev6 11) rfl ?_;refine wp_one rfl rfl ?_;refine wp_callE (ev5 4) rfl ?_;refine wp_ext (by simp only[tv,tp,tn,PE.dn,SE.dn,dnL,nth,projV,List.getD_cons_succ,List.getD_cons_zero,extV];rfl) ?_;refine wp_ext (by simp only[tv,tp,tn,PE.dn,SE.dn,dnL,nth,projV,List.getD_cons_succ,List.getD_cons_zero,extV];rfl) ?_;refine wp_join (λvs=>vs=[.bool false]) ?_ ?_
 ·refine wp_neq rfl rfl ?_;refine wp_itePF rfl (by omega) ?_;refine wp_callE (ev7 10) rfl ?_;refine wp_not rfl ?_;exact wp_jump rfl
 rintro vs rfl;refine wp_iteF rfl ?_;refine wp_call (ev8 9 1 3 (by omega) (by omega) (by omega) (by omega)) rfl ?_;rintro v ⟨xr,rfl,hr1,hr3⟩;refine wp_call (ev8 9 1 4 (by omega) (by omega) (by omega) (by omega)) rfl ?_;rintro v ⟨xn,rfl,hn1,hn4⟩;obtain⟨r,rfl⟩:=Int.eq_ofNat_of_zero_le (a:=xr) (by omega);obtain⟨n,rfl⟩:=Int.eq_ofNat_of_zero_le (a:=xn) (by omega);refine wp_callE (ev6 11) rfl ?_;refine wp_one rfl rfl ?_;refine wp_join (λvs=>∃rows:List (List Nat),vs=[.agg ((rows.map S0).map .str),.agg ((rows.map S1).map .str),.agg (rows.map (cellS n))]/\rows.length=r/\(∀x∈rows,x.length=n)/\∀x∈rows,∀k∈x,k<4) ?_ ?_
 ·refine wp_loop (λj vs=>∃rows:List (List Nat),vs=[iv rows.length,.agg ((rows.map S0).map .str),.agg ((rows.map S1).map .str),.agg (rows.map (cellS n))]/\rows.length+j=r/\(∀x∈rows,x.length=n)/\∀x∈rows,∀k∈x,k<4) r (by omega) ⟨[],rfl,by simp,by simp,by simp⟩ ?_;rintro j vs ⟨rows,rfl,hj,hl,hb⟩;refine wp_lss rfl rfl ?_;refine wp_iteP rfl (λhlt=>?_) (λhlt=>?_)
  ·have elt:rows.length<r:=by(try simp at hlt);omega
   try refine rn_norm (by(try simp only[List.length_cons,List.length_nil,Nat.reduceAdd,Nat.zero_add]);rfl) (by(try simp only[pushL]);rfl) ?_
   refine wp (.agg (cl n [])) (by
    simp only[Prim.rn,tv,tp,tn,PE.dn,SE.dn,dnL,nth,projV,List.getD_cons_succ,List.getD_cons_zero,mkV,Int.toNat_natCast];rw[if_pos (by omega),cl_zero (by omega)]) ?_
   refine wp_join (λvs=>∃ks:List Nat,vs=[.str (S0 ks),.str (S1 ks),.agg (cl n ks)]/\ks.length=n/\∀k∈ks,k<4) ?_ ?_
   ·refine wp_loop (λj vs=>∃ks:List Nat,vs=[.str (S0 ks),.str (S1 ks),iv ks.length,.agg (cl n ks)]/\ks.length+j=n/\∀k∈ks,k<4) n (by omega) ⟨[],rfl,by simp,by simp⟩ ?_;rintro j' vs ⟨ks,rfl,hj',hb'⟩;refine wp_lss rfl rfl ?_;refine wp_iteP rfl (λhlt'=>?_) (λhlt'=>?_)
    ·have ek:ks.length<n:=by(try simp at hlt');omega
     have s0:=(gs_S0 (ks:=ks) (by omega) hb').size;have s1:=(gs_S1 (ks:=ks) (by omega) hb').size;simp only[List.length_map,List.length_reverse]at s0 s1;refine wp_call (ev9 10 3 (by omega) (by omega)) rfl ?_;rintro v ⟨xk,rfl,hk0,hk3⟩;obtain⟨k,rfl⟩:=Int.eq_ofNat_of_zero_le hk0;have hk:k<4:=by omega
     refine wp_rowS (a:=k) (sz:=1) rfl rfl hk (c0_row hk) rfl ?_;refine wp_addS rfl rfl (by rw[s0,c0_size];omega) ?_;refine wp_rowS (a:=k) (sz:=1) rfl rfl hk (c1_row hk) rfl ?_;refine wp_addS rfl rfl (by rw[s1,c1_size];omega) ?_;rw[←S0_add,←S1_add];refine wp_rowS (a:=k) (sz:=1) rfl rfl hk (ik_row hk) rfl ?_;refine wp_callE (ev10 10 k) rfl ?_;have hm:=mk_bd k;refine wp_ext (by simp only[tv,tp,tn,PE.dn,SE.dn,dnL,nth,projV,List.getD_cons_succ,List.getD_cons_zero,extV];rfl) ?_;refine wp_ext (by simp only[tv,tp,tn,PE.dn,SE.dn,dnL,nth,projV,List.getD_cons_succ,List.getD_cons_zero,extV];rfl) ?_;refine wp_join (λvs=>vs=[.bool false]) ?_ ?_
     ·refine wp_neq rfl rfl ?_;refine wp_itePF rfl (by omega) ?_;refine wp_lss rfl rfl ?_;refine wp_itePF rfl (by omega) ?_;refine wp_gtr rfl rfl ?_;exact wp_jump (jb_f (by omega))
     rintro vs rfl;refine wp_iteF rfl ?_;try refine rn_norm (by(try simp only[List.length_cons,List.length_nil,Nat.reduceAdd,Nat.zero_add]);rfl) (by(try simp only[pushL]);rfl) ?_
     refine wp_subN (a:=n) (b:=1) rfl rfl (by omega) ?_;refine wp_subN (a:=n-1) (b:=ks.length) rfl rfl (by omega) ?_;refine wp_sub (a:=63) (b:=mk' k) rfl rfl (by omega) (by omega) ?_;refine wp_one rfl rfl ?_;try refine rn_norm (by(try simp only[List.length_cons,List.length_nil,Nat.reduceAdd,Nat.zero_add]);rfl) (by(try simp only[pushL]);rfl) ?_
     refine wp (iv ((n-1-ks.length:Nat):Int)) (by
      simp only[Prim.rn,tv,tp,tn,PE.dn,SE.dn,dnL,nth,projV,List.getD_cons_succ,List.getD_cons_zero,chkV,Int.toNat_natCast,cl_len];rw[if_pos (by omega)]) ?_
     try refine rn_norm (by(try simp only[List.length_cons,List.length_nil,Nat.reduceAdd,Nat.zero_add]);rfl) (by(try simp only[pushL]);rfl) ?_
     refine wp (.agg (cl n (ks++[k]))) (by
      simp only[Prim.rn,tv,tp,tn,PE.dn,SE.dn,dnL,nth,projV,List.getD_cons_succ,List.getD_cons_zero,putV,Int.toNat_natCast,cl_len,List.length_cons,List.length_nil];rw[if_pos (by omega),cl_set (by omega) ek]) ?_
     refine wp_add1 rfl rfl (by omega) ?_;refine wp_jump ⟨j'-1,by omega,ks++[k],?_,by simp;omega,λx hx=>?_⟩
     ·simp[pushL,tv,tp,tn,PE.dn,SE.dn,dnL,nth,projV,List.getD_cons_succ,List.getD_cons_zero]
     ·simp only[List.mem_append,List.mem_singleton]at hx;rcases hx with hx|rfl
      ·exact hb' x hx
      ·exact hk
    ·refine wp_jumpO (by decide) ?_;exact wp_jump ⟨ks,rfl,by(try simp at hlt');omega,hb'⟩
   rintro vs ⟨ks,rfl,hkn,hkb⟩;refine wp_frzRe rfl ?_;rw[cl_len,Nat.mul_div_cancel _ (by omega)];refine wp_one rfl rfl ?_;refine wp_push1 (v:=.str (S0 ks)) rfl rfl (by decide) (by simp;omega) ?_;refine wp_one rfl rfl ?_;refine wp_push1 (v:=.str (S1 ks)) rfl rfl (by decide) (by simp;omega) ?_;refine wp_push1 (v:=cellS n ks) rfl rfl (by decide) (by simp;omega) ?_;refine wp_add1 rfl rfl (by omega) ?_;refine wp_jump ⟨j-1,by omega,rows++[ks],?_,by simp;omega,λx hx=>?_,λx hx=>?_⟩
   ·simp[pushL,tv,tp,tn,PE.dn,SE.dn,dnL,nth,projV,List.getD_cons_succ,List.getD_cons_zero]
   ·simp only[List.mem_append,List.mem_singleton]at hx;rcases hx with hx|rfl
    ·exact hl x hx
    ·exact hkn
   ·simp only[List.mem_append,List.mem_singleton]at hx;rcases hx with hx|rfl
    ·exact hb x hx
    ·exact hkb
  ·refine wp_jumpO (by decide) ?_;exact wp_jump ⟨rows,rfl,by(try simp at hlt);omega,hl,hb⟩
 rintro vs ⟨rows,rfl,hR,hl,hb⟩;subst hR;have h:Bd n rows:=⟨by omega,by omega,by omega,by omega,hl,hb⟩;have hne:rows≠[]:=λe=>by rw[e]at hr1;simp at hr1
 refine wp_frzNE rfl (by simpa using hne) ?_;refine wp_frzNE rfl (by simpa using hne) ?_;refine wp_frzNE rfl (by simpa using hne) ?_;simp only[Nat.div_one,List.length_map];have hpg0:PV.sl none 1 0 rows.length ((rows.map S0).map .str)=pg S0 rows:=by simp[pg,strs]
 have hpg1:PV.sl none 1 0 rows.length ((rows.map S1).map .str)=pg S1 rows:=by simp[pg,strs]
 have hce:PV.sl none 1 0 rows.length (rows.map (cellS n))=ce n rows:=rfl;rw[hpg0,hpg1,hce];refine wp_callE (ev11 2 h) rfl ?_;refine wp_ext (by simp only[tv,tp,tn,PE.dn,SE.dn,dnL,nth,projV,List.getD_cons_succ,List.getD_cons_zero,extV];rfl) ?_;refine wp_ext (by simp only[tv,tp,tn,PE.dn,SE.dn,dnL,nth,projV,List.getD_cons_succ,List.getD_cons_zero,extV];rfl) ?_;refine wp_join (λvs=>vs=[.bool false]) ?_ ?_
 ·refine wp_neq rfl rfl ?_;refine wp_itePF rfl (by omega) ?_;refine wp (iv 0) (by kernel_rfl) ?_;refine wp_gtr rfl rfl ?_;exact wp_jump rfl
 rintro vs rfl;refine wp_iteF rfl ?_;refine wp_call (ev12 2 h) rfl ?_;rintro v ⟨Ls,rfl,hL,hid⟩;refine wp_ext (by simp only[tv,tp,tn,PE.dn,SE.dn,dnL,nth,projV,List.getD_cons_succ,List.getD_cons_zero,extV];rfl) ?_;refine wp_ext (by simp only[tv,tp,tn,PE.dn,SE.dn,dnL,nth,projV,List.getD_cons_succ,List.getD_cons_zero,extV];rfl) ?_;refine wp_join (λvs=>vs=[.bool true]) ?_ ?_
 ·refine wp_loop (λj vs=>∃(i:Nat)(b:Bool),vs=[.bool b,iv i]/\i+j=Ls.length/\∀x,x<i->Ls.getD x default=(0,false,0,0)->b=true) Ls.length (by omega) ⟨0,false,rfl,by omega,λx hx=>by omega⟩ ?_;rintro j vs ⟨i,b,rfl,hi,hv⟩;try refine rn_norm (by(try simp only[List.length_cons,List.length_nil,Nat.reduceAdd,Nat.zero_add]);rfl) (by(try simp only[pushL]);rfl) ?_
  refine wp_join (λvs=>vs=[.bool (decide (i<Ls.length))]) ?_ ?_
  ·refine wp_lenN is50 rfl ?_;rw[lys_len,Nat.mul_div_cancel _ (by omega)];refine wp_lss rfl rfl ?_;refine wp_iteP rfl (λhlt=>?_) (λhlt=>?_)
   ·refine wp_lss rfl rfl ?_;exact wp_jump (jb_eq (by omega))
   ·exact wp_jump (jb_fd (by omega))
  rintro vs rfl;refine wp_iteP rfl (λhlt=>?_) (λhlt=>?_)
  ·refine wp_join (λvs=>∃b',vs=[.bool b']/\∀x,x<i+1->Ls.getD x default=(0,false,0,0)->b'=true) ?_ ?_
   ·cases b
    ·refine wp_iteF rfl ?_;have hne:lys Ls≠[]:=λe=>by
      have:=lys_len Ls;rw[e]at this;simp at this;omega
     have hfr:frzN 4 (lys Ls)=.sl none 4 0 Ls.length (lys Ls):=by
      have h4:=lys_len Ls;cases hc:lys Ls with
      |nil=>exact absurd hc hne
      |cons a l=>
       rw[hc]at h4;show PV.sl none 4 0 ((a::l).length/4) (a::l)=_;rw[h4,Nat.mul_div_cancel _ (by omega)]
     refine wp_rowS (a:=i) (sz:=4) hfr rfl hlt (lys_row hlt) rfl ?_;obtain⟨z,hz⟩:∃z,z=Ls.getD i default:=⟨_,rfl⟩;rw[←hz];obtain⟨za,zb,zx,zy⟩:=z;refine wp _ (lay_eq za zb zx zy) ?_;refine wp_jump ⟨_,rfl,λx hx e=>?_⟩;rcases Nat.lt_or_ge x i with hx'|hx'
     ·exact absurd (hv x hx' e) (by decide)
     ·have:x=i:=by omega
      subst this;rw[e]at hz;injection hz with h1 h2;injection h2 with h2 h3;injection h3 with h3 h4;subst h1 h2 h3 h4;rfl
    ·refine wp_iteT rfl ?_;exact wp_jump ⟨true,rfl,λ_ _ _=>rfl⟩
   rintro vs ⟨b',rfl,hv'⟩;refine wp_add1 rfl rfl (by omega) ?_;exact wp_jump ⟨j-1,by omega,i+1,b',rfl,by omega,hv'⟩
  ·refine wp_jumpO (by decide) (wp_jump ?_);obtain⟨x,hx,e⟩:=List.mem_iff_getElem.1 hid;have:b=true:=hv x (by omega) (by simp[List.getD_eq_getElem?_getD,hx,e]);subst this;rfl
 rintro vs rfl;try refine rn_norm (by(try simp only[List.length_cons,List.length_nil,Nat.reduceAdd,Nat.zero_add]);rfl) (by(try simp only[pushL]);rfl) ?_
 refine wp_join (λvs=>vs=[.bool false]) ?_ ?_
 ·refine wp_neq rfl rfl ?_;refine wp_itePF rfl (by omega) ?_;refine wp_not rfl ?_;exact wp_jump rfl
 rintro vs rfl;refine wp_iteF rfl ?_;refine wp_join (λvs=>vs=[]) ?_ ?_
 ·refine wp_loop (λj vs=>∃i:Nat,vs=[iv i]/\i+j=rows.length) rows.length (by omega) ⟨0,rfl,by omega⟩ ?_;rintro j vs ⟨i,rfl,hi⟩;refine wp_lss rfl rfl ?_;refine wp_iteP rfl (λhlt=>?_) (λhlt=>?_)
  ·have ei:i<rows.length:=by(try simp at hlt);omega
   have hrow:=h.at ei;refine wp_join (λvs=>vs=[]) ?_ ?_
   ·refine wp_loop (λj vs=>∃c:Nat,vs=[iv c]/\c+j=n) n (by omega) ⟨0,rfl,by omega⟩ ?_;rintro j' vs ⟨c,rfl,hc⟩;refine wp_lss rfl rfl ?_;refine wp_iteP rfl (λhlt'=>?_) (λhlt'=>?_)
    ·have ec:c<n:=by(try simp at hlt');omega
     have hkk:(rows.getD i default).getD c 0<4:=hrow.2 _ (getD_mem (by omega));obtain⟨kk,hkd⟩:∃kk,kk=(rows.getD i default).getD c 0:=⟨_,rfl⟩;have e13:=ev13 2 h ei ec;rw[←hkd]at hkk e13;refine wp_callE e13 rfl ?_;refine wp_ext (by simp only[tv,tp,tn,PE.dn,SE.dn,dnL,nth,projV,List.getD_cons_succ,List.getD_cons_zero,extV];rfl) ?_;refine wp_ext (by simp only[tv,tp,tn,PE.dn,SE.dn,dnL,nth,projV,List.getD_cons_succ,List.getD_cons_zero,extV];rfl) ?_;refine wp_join (λvs=>vs=[iv (ik kk)]) ?_ ?_
     ·refine wp_loop (λj vs=>∃x:Nat,vs=[iv (if kk<x then ik kk else 0),iv x]/\x+j=4) 4 (by omega) ⟨0,by simp[pushL,tv,tp,tn,PE.dn,SE.dn,dnL,nth,projV,List.getD_cons_succ,List.getD_cons_zero],by omega⟩ ?_;rintro j2 vs ⟨x,rfl,hx⟩;refine wp_lenS (by first|exact is22|exact is25|exact is26|exact is30|exact is32|exact is37|exact is38|exact is41|exact is50) rfl ?_;refine wp_lss rfl rfl ?_;refine wp_iteP rfl (λhlt2=>?_) (λhlt2=>?_)
      ·have ex:x<4:=by(try simp at hlt2);omega
       refine wp_rowS (a:=0) (sz:=1) (r:=[pg S0 rows]) rfl rfl (by omega) rfl rfl ?_;refine wp_rowM (l:=rows.map S0) (f:=.str) (a:=i) rfl rfl (by simpa using ei) ?_;rw[getD_map ei];try refine rn_norm (by(try simp only[List.length_cons,List.length_nil,Nat.reduceAdd,Nat.zero_add]);rfl) (by(try simp only[pushL]);rfl) ?_
       refine wp_addN (a:=c) (b:=1) rfl rfl (by omega) ?_;have hsz:(S0 (rows.getD i default)).size=n:=by
        have:=(gs_S0 (ks:=rows.getD i default) (by omega) hrow.2).size;rw[this,List.length_map,hrow.1]
       try refine rn_norm (by(try simp only[List.length_cons,List.length_nil,Nat.reduceAdd,Nat.zero_add]);rfl) (by(try simp only[pushL]);rfl) ?_
       refine wp (.str ((S0 (rows.getD i default)).extract c (c+1))) (by
        simp only[Prim.rn,tv,tp,tn,PE.dn,SE.dn,dnL,nth,projV,List.getD_cons_succ,List.getD_cons_zero,aSlice,un9,Option.map_some,aBnd,Int.toNat_natCast];rw[if_pos (by omega),if_pos (by omega)];simp only[Int.toNat_natCast];rw[if_pos (by omega)]) ?_
       refine wp_rowS (a:=x) (sz:=1) rfl rfl ex (c0_row ex) rfl ?_;refine wp_eqlS rfl rfl ?_;rw[S0_is (by omega) hrow.2 (by omega) ex,←hkd];refine wp_join (λvs=>vs=[iv (if kk<x+1 then ik kk else 0)]) ?_ ?_
       ·refine wp_iteP rfl (λq=>?_) (λq=>?_)
        ·refine wp_rowS (a:=x) (sz:=1) rfl rfl ex (ik_row ex) rfl ?_;refine wp_jump ?_;subst q;simp[pushL,tv,tp,tn,PE.dn,SE.dn,dnL,nth,projV,List.getD_cons_succ,List.getD_cons_zero]
        ·refine wp_jump ?_;by_cases hq:kk<x
         ·have hq2:kk<x+1:=by omega
          simp[pushL,tv,tp,tn,PE.dn,SE.dn,dnL,nth,projV,List.getD_cons_succ,List.getD_cons_zero,hq,hq2]
         ·have hq2:¬kk<x+1:=by omega
          simp[pushL,tv,tp,tn,PE.dn,SE.dn,dnL,nth,projV,List.getD_cons_succ,List.getD_cons_zero,hq,hq2]
       rintro vs rfl;refine wp_add1 rfl rfl (by omega) ?_;exact wp_jump ⟨j2-1,by omega,x+1,rfl,by omega⟩
      ·refine wp_jumpO (by decide) (wp_jump ?_);have:x=4:=by(try simp at hlt2);omega
       subst this;simp[pushL,tv,tp,tn,PE.dn,SE.dn,dnL,nth,projV,List.getD_cons_succ,List.getD_cons_zero,hkk]
     rintro vs rfl;try refine rn_norm (by(try simp only[List.length_cons,List.length_nil,Nat.reduceAdd,Nat.zero_add]);rfl) (by(try simp only[pushL]);rfl) ?_
     refine wp_join (λvs=>vs=[.bool false]) ?_ ?_
     ·refine wp_neq rfl rfl ?_;refine wp_itePF rfl (by omega) ?_;refine wp_neq rfl rfl ?_;exact wp_jump (by simp[pushL,tv,tp,tn,PE.dn,SE.dn,dnL,nth,projV,List.getD_cons_succ,List.getD_cons_zero])
     rintro vs rfl;refine wp_iteF rfl ?_;refine wp_add1 rfl rfl (by omega) ?_;exact wp_jump ⟨j'-1,by omega,c+1,rfl,by omega⟩
    ·refine wp_jumpO (by decide) ?_;exact wp_jump rfl
   rintro vs rfl;refine wp_add1 rfl rfl (by omega) ?_;exact wp_jump ⟨j-1,by omega,i+1,rfl,by omega⟩
  ·refine wp_jumpO (by decide) ?_;exact wp_jump rfl
 rintro vs rfl;try refine rn_norm (by(try simp only[List.length_cons,List.length_nil,Nat.reduceAdd,Nat.zero_add]);rfl) (by(try simp only[pushL]);rfl) ?_
 refine wp_callE (w:=.bool true) (λω=>⟨_,ev14 ω,rfl⟩) rfl ?_;exact wp_ret rfl rfl rfl
end
section
open Go Go.RowKit Go.WideShapes Go.ChangeShapes
section
variable[Sp]
theorem leavesX_mono{P:Program}{fn:Func}{tmps:Array Value}{R R':Ending->World->Prop}(hr:∀e w,R e w->R' e w):∀{ds:List Deferred}{w:World},LeavesX P fn tmps R ds w->LeavesX P fn tmps R' ds w
 |[],w,h=>λτ d=>by
  obtain⟨v,w',h1,h2⟩:=h τ d;exact⟨v,w',h1,hr _ _ h2⟩
 |e::ds,w,.inl ⟨r,h1,h2⟩=>.inl ⟨r,h1,λτ d=>by
  obtain⟨w',h3,h4⟩:=h2 τ d;exact⟨w',h3,leavesX_mono hr h4⟩⟩
 |e::ds,w,.inr h=>.inr (runsD_mono h λw' hw=>leavesX_mono hr hw)
theorem bodyX_mono{P:Program}{f:FuncId}{args:Array Value}{w:World}{R R':Ending->World->Prop}(h:BodyX P f args w R)(hr:∀e w,R e w->R' e w):BodyX P f args w R':=by
 obtain⟨fn,c,h1,h2,h3,h4⟩:=h;refine⟨fn,c,h1,h2,h3,wpX_mono h4 λe a w hh=>?_⟩;cases e<;>first|exact leavesX_mono hr hh|exact hh
theorem ebody_mono{P:Program}{f:FuncId}{args:List PV}{m:Mem}{Q Q':PV->List Eff->Mem->Prop}(h:EBody P f args m Q)(hq:∀v E m',Q v E m'->Q' v E m'):EBody P f args m Q':=
 λφ vs w hm hv=>bodyX_mono (h φ vs w hm hv) λ_ _ ⟨v,pv,E,m',φ',h1,h2,h3,h4,h5⟩=>⟨v,pv,E,m',φ',h1,h2,h3,h4,hq _ _ _ h5⟩
theorem evalF_top{P:Program}{diceT:TypeId}{diceNew:LibF}{own:FuncId->Option (Option (Nat×Nat))}{tab:FuncId->Option Tree}{C0:Orc->FuncId->List PV->Option PV}{n:Nat}{DI:List PV->Prop}(hm:P.follows .mixedOrders=true)(hT:TabOk P diceT diceNew own tab)(h0:CSound P DI C0)(hN:NewOk P DI diceNew)
  {k:Nat} {g:FuncId} {t:Tree} (ht:tab g=some t) (hg:own g=none) (hnd:∀fn c,P.funcs[g]?=some fn->fn.body=some c->dfrOf c=none) {args args':List PV} {m:Mem} (hs:∀ω,(evalF P diceT tab C0 n (k+1) ω g args).isSome) (ha:ArgL DI m args args'):
  EBody P g args' m λv E m'=>(∃ω,evalF P diceT tab C0 n (k+1) ω g args=some v)/\v.plain=true/\E=[]/\m'=m:=by
 obtain⟨hk,hko⟩:=evalF_sound (n:=n) hm hT h0 hN k;obtain⟨X,W,fn,hX⟩:=hT.tr g t ht;have e:∀ω,evalF P diceT tab C0 n (k+1) ω g args=if fitArgs (flagsOf diceT fn) args=true then match eval P (evalF P diceT tab C0 n k) n t ω args with
   |some (.val v)=>if v.plain=true then some v else none
   |_=>none
  else none:=λω=>by
  have hfu:=hX.fu;simp only[evalF,ht,hfu];rfl
 have hfit:fitArgs (flagsOf diceT fn) args=true:=by
  have:=hs orc0;rw[e]at this;split at this
  ·assumption
  ·cases this
 have hrun:Run P (evalF P diceT tab C0 n k) n t args λo=>∃v,o=.val v/\∃ω,evalF P diceT tab C0 n (k+1) ω g args=some v:=λω=>by
  obtain⟨v,hv⟩:=Option.isSome_iff_exists.1 (hs ω);have h2:=hv;rw[e,if_pos hfit]at h2;split at h2
  ·rename_i v' hev;split at h2
   ·injection h2 with h2;subst h2;exact⟨_,hev,v',rfl,ω,hv⟩
   ·cases h2
  ·cases h2
 have ho:OwnAll X DI (evalF P diceT tab C0 n k):=λg' r hr=>by rw[hX.p];exact hko g' r.1 (hX.ow g' r hr)
 obtain⟨rfl,rfl,rfl,_,hfn,hname,hb,htr⟩:=hX;rw[hg]at htr;rcases htr with htr|⟨htr,_⟩
 ·refine ebody_mono (compFun_okB hm hk hN ho hfn htr hfit ha hrun) ?_;rintro v E m' ⟨⟨v',a5,a6⟩,a7⟩;injection a5 with a5;subst a5;exact⟨a6,a7⟩
 ·exfalso;unfold compDf at htr;simp only[hfn]at htr;split at htr
  ·cases htr
  ·rename_i c hc;rw[hnd fn c hfn hc]at htr;cases htr
theorem kcalls_of_plain(hsp:∀f args w Q,¬Sp.spec f args w Q)(hlb:∀f L,¬Sp.libs f L){P:Program}{f:FuncId}{fn:Func}{t0:Tmp}(hf:P.funcs[f]?=some fn)(hr:fn.results=#[.tmp t0]){qs:List PV}{vs:List Value}{w:World}{R:PV->Prop}(h:∀m,EBody P f qs m λv E m'=>R v/\E=[]/\m'=m)(hv:VRelL phi0 w qs vs):
  Calls P f vs.toArray w λe w'=>∃v pv φ',e=.returned v/\VRel φ' w' pv v/\R pv/\Below w.heap.size w { w' with tape:=w.tape }:=by
 have hm:MRel phi0 ⟨λ_=>.hole,0,0,loopsOf w⟩ w:=by
  refine⟨λi hi=>absurd hi (Nat.not_lt_zero i),λ_ _=>rfl,λi b h=>(by cases h),λi j b h=>(by cases h),λi j b h=>(by cases h),λi j b h=>(by cases h),λl o hl=>?_⟩;unfold loopsOf at hl;obtain⟨l',h1,h2⟩:=List.mem_filterMap.1 hl;split at h2
  ·rename_i o' ho';injection h2 with h2;injection h2 with h3 h4;subst h3;subst h4;exact ho'
  ·cases h2
 refine((h _ phi0 vs w hm hv).kit hsp hlb hf hr).mono ?_;rintro e w' ⟨v0,rfl,v,pv,E,m',φ',he,h1,h2,h3,h4,rfl,rfl⟩;refine⟨v,pv,φ',he,h1,h4,h3.os,rfl,h3.output,h3.size,λk hk=>?_⟩;by_cases hl:∃o,w.heap[k]?=some (.loop o)
 ·obtain⟨o,ho⟩:=hl;rw[ho];refine h2.rcs k o ?_;unfold loopsOf;refine List.mem_filterMap.2 ⟨k,by simpa using hk,by simp[ho]⟩
 ·exact(h3.rest k hk (own0 k) (λo ho=>hl ⟨o,ho⟩)).1
end
section
variable[Sp]
variable{H:Type}{enc:TypeId×Value->H}{P:Program}
theorem post_of_below{f:Func}{s:ChangeSpec}{apart fresh handsOn again:Bool}{W W':World}{args:Array Value}{v:Value}{ds gs:List (DataW H)}{before pa pv:List MemPlace}
  (hW:DataW.Whole enc P f.params.toList s.vars apart W args.toList ds gs before)
  (hres:∀(b:Nat)(sp:Nat->Bool)(hd:Bool),DataW.TrodAll enc P W' b sp hd f.resultTypes.toList (v.resultList f.resultTypes.size) (s.fn H (ds++gs)).results [])
  (hargs:∀sp:Nat->Bool,(∀p∈before,sp p.block=true)->DataW.TrodAll enc P W' 0 sp true f.params.toList args.toList (s.fn H (ds++gs)).args pa)
  (hvars:∀sp:Nat->Bool,(∀p∈before,sp p.block=true)->DataW.TrodVars enc P W' sp s.vars (s.fn H (ds++gs)).vars pv)
  (hps:before=pa++pv) (hb:Below W.heap.size W { W' with tape:=W.tape })
  (hok:∀(j:Nat)(t:TypeId)(r:Value),f.resultTypes[j]?=some t->(v.resultList f.resultTypes.size)[j]?=some r->Value.okWide P W' .any 0 t r):
  s.post enc P f apart fresh handsOn again W args v W':=by
 have hlt:∀p∈before,p.block<W.heap.size:=λp hp=>hW.lt p hp;have hold:∀p∈before,(λb=>decide (b<W.heap.size)) p.block=true:=λp hp=>by simpa using hlt p hp
 refine⟨ds,gs,before,[],pa,pv,hW,hres _ _ _,hargs _ hold,hvars _ hold,World.keptBut_mono (λp hp=>⟨hp,?_⟩) (hb.frame (·∈before)),λ_=>?_⟩
 ·rw[hps,List.mem_append]at hp;exact Or.inr hp
 ·obtain⟨_,_,_,_,_,hz,hn⟩:=hW;refine⟨hok,_,_,([]++pa)++pv,⟨[]++pa,pv,trodAll_append (hargs _ (λ_ _=>rfl)) (hres _ _ _),hvars _ (λ_ _=>rfl),rfl,?_,?_⟩,?_⟩
  ·intro b off hp;have hin:MemPlace.cell b off∈before:=by rw[hps];simpa using hp
   exact(hb.frozen (p:=⟨b,off,none⟩) (hlt _ hin)).trans (hz b off hin)
  ·intro ha;have:=hn ha;rw[hps]at this;simpa using this
  ·intro p hp _;rw[hps];simpa using hp
theorem trodAll_stays(hl:laidOutB P=true){W W':World}(hb:Below W.heap.size W { W' with tape:=W.tape }){sp:Nat->Bool}:∀{ts:List TypeId}{vs:List Value}{ds:List (DataW H)}{ps:List MemPlace},DataW.TrodAll enc P W 0 (λ_=>true) true ts vs ds ps->(∀t∈ts,P.readableRec t=true/\t<P.types.size) ->
  (∀p∈ps,p.block<W.heap.size)->(∀p∈ps,sp p.block=true)->DataW.TrodAll enc P W' 0 sp true ts vs ds ps
 |[],[],[],_,h,_,_,_=>h
 |t::ts,v::vs,d::ds,ps,h,hr,hlt,hs=>by
  obtain⟨p,q,h1,h2,rfl⟩:=h;exact⟨p,q,WideElems.Trod_stays hl (hr t (by simp)).1 (hr t (by simp)).2 h1 (λx hx=>hb.same (hlt x (by simp[hx]))) (λx hx=>hs x (by simp[hx])),
   trodAll_stays hl hb h2 (λt ht=>hr t (by simp[ht])) (λx hx=>hlt x (by simp[hx])) (λx hx=>hs x (by simp[hx])),rfl⟩
 |[],[],_::_,_,h,_,_,_=>h.elim
 |[],_::_,_,_,h,_,_,_=>h.elim
 |_::_,[],_,_,h,_,_,_=>h.elim
 |_::_,_::_,[],_,h,_,_,_=>h.elim
theorem law_contract(hsp:∀f args w Q,¬Sp.spec f args w Q)(hlb:∀f L,¬Sp.libs f L){f:FuncId}{fn:Func}{t0:Tmp}{s:ChangeSpec}{k:Nat}{bt:TypeId}{apart fresh handsOn again:Bool}(hf:P.funcs[f]?=some fn)(hr:fn.results=#[.tmp t0])(hl:laidOutB P=true)(hv:s.vars=[])(hrt:fn.resultTypes=#[bt])(hbt:P.underlying bt=some .bool)(hk:fn.params.toList.all (typeOk P k)=true)(hrd:∀t∈fn.params.toList,P.readableRec t=true/\t<P.types.size)
  (hs:∀ds:List (DataW H),ds.length=fn.params.size->s.fn H (ds++[])={ results:=[.lit (.bool true)],args:=ds })
  (hH:∀qs,ShL P k fn.params.toList qs->∀m,EBody P f qs m λv E m'=>v=.bool true/\E=[]/\m'=m)
  {W:World} {base:Nat} {args:Array Value} {ds gs:List (DataW H)} {before:List MemPlace} (hval:∀(j:Nat) t v,fn.params[j]?=some t->args[j]?=some v->Value.okWide P W .any base t v)
  (hW:DataW.Whole enc P fn.params.toList s.vars apart W args.toList ds gs before):Calls P f args W λe W'=>∃v,e=.returned v/\s.post enc P fn apart fresh handsOn again W args v W':=by
 have hW':=hW;obtain⟨p,q,hA,hV,rfl,hfz,hnd⟩:=hW;rw[hv]at hV;obtain⟨rfl,rfl⟩:=trodVars_none hV;obtain⟨qs,h1,h2⟩:=args_rel (k:=k) hA (λj t v ht hv=>hval j t v (by simpa using ht) (by simpa using hv)) hk;have hlen:ds.length=fn.params.size:=by
  have:∀{ts:List TypeId}{vs:List Value}{ds:List (DataW H)}{ps:List MemPlace},DataW.TrodAll enc P W 0 (λ_=>true) true ts vs ds ps->ds.length=ts.length:=by
   intro ts;induction ts with
   |nil=>intro vs ds ps h;cases vs<;>cases ds<;>simp_all[DataW.TrodAll]
   |cons t ts ih=>intro vs ds ps h;cases vs<;>cases ds<;>simp only[DataW.TrodAll]at h;obtain⟨p,q,_,h2,_⟩:=h;simp[ih h2]
  simpa using this hA
 have hc:=kcalls_of_plain hsp hlb (R:=λv=>v=.bool true) hf hr (λm=>hH qs h2 m) h1;refine hc.mono λe W' ⟨v,pv,φ',he,hr,hp,hb⟩=>?_;subst he;subst hp;have hvb:v=.bool true:=hr;subst hvb;have hsp:=hs ds hlen;refine⟨_,rfl,post_of_below (pa:=p) (pv:=[]) hW' (λb sp hd=>?_) (λsp hsp'=>?_) (λsp _=>?_) rfl hb (ok_one hrt rfl (okWide_bool_mk hbt true))⟩
 ·rw[hrt,hsp];exact trodAll_mk1 (shut_bool hbt true)
 ·rw[hsp];exact trodAll_stays hl hb hA hrd (λx hx=>hW'.lt x (by simpa using hx)) (λx hx=>hsp' x (by simpa using hx))
 ·rw[hv,hsp];rfl
end
end
section
open Go Go.RowKit Go.WideShapes Go.ChangeShapes
theorem argL_self{DI:List PV->Prop}{m:Mem}:∀{qs:List PV},(∀q∈qs,q.plain=true)->ArgL DI m qs qs
 |[],_=>rfl
 |q::qs,h=>⟨q,qs,rfl,.inl ⟨rfl,h q (by simp)⟩,argL_self λx hx=>h x (by simp[hx])⟩
theorem own:ownKnob Try.prog.godebug=none:=by kernel_rfl
theorem laidOut:laidOutB Try.prog=true:=by kernel_rfl
theorem nums_shape{q:PV}(h:ShV Try.prog 6 22 q):intsB q=true/\q.plain=true/\q.one=true:=by
 have ha:aggT Try.prog 22≠some true:=by
  have:(match aggT Try.prog 22 with|some true=>false|_=>true)=true:=by kernel_rfl
  intro e;rw[e]at this;cases this
 have h':∃q',q=q'/\ShC Try.prog 6 22 [q']:=by
  unfold ShV at h;split at h
  ·exact absurd (by assumption) ha
  ·exact h
 obtain⟨q',rfl,hc⟩:=h';have hp:=shC_plain _ _ _ hc;unfold ShC at hc;rw[un22]at hc;simp only at hc;rcases hc with hc|⟨off,ls,hc,_,hl⟩
 ·injection hc with hc;subst hc;exact⟨rfl,rfl,rfl⟩
 ·injection hc with hc;subst hc;have h3:Try.prog.cellsOf 3=1:=by kernel_rfl
  have hi:∀l∈ls,∃n,l=[iv n]:=by
   intro l hm;have:=(hl l hm).1;unfold ShC at this;rw[unInt]at this;obtain⟨n,hn,_⟩:=this;exact⟨n,hn⟩
  refine⟨?_,by simpa[plainC]using hp,rfl⟩;rw[h3];simp only[intsB,Bool.and_eq_true,decide_eq_true_eq,List.all_eq_true];refine⟨?_,λc hc=>?_⟩
  ·rw[flatten_len (n:=1) (λl hm=>by obtain⟨n,rfl⟩:=hi l hm;rfl),Nat.mul_one]
  ·obtain⟨l,hm,hcl⟩:=List.mem_flatten.1 hc;obtain⟨n,rfl⟩:=hi l hm;simp at hcl;subst hcl;rfl
theorem e3:∀qs,ShL Try.prog 6 Try.f3.params.toList qs->∀ω,E Try.prog 13 ω 3 qs=some (.bool true):=by
 intro qs h ω
 match qs,h with
 |[q],h=>
  obtain⟨hi,hp,_⟩:=nums_shape h.1;obtain⟨v,h1,h2⟩:=ev3 hi hp ω;rw[h1,h2]
theorem topTwins_lifted(os:Os)(started:os.Started)(H:Type)(enc:TypeId×Value->H):
  ReturnsInHanded {} Try.checked os 3 .any (Rows.topTwinsSpec.pre6 enc Try.prog Try.f3 Rows.topTwinsRow.domain false) (Rows.topTwinsSpec.post enc Try.prog Try.f3 false true false false):=by
 refine returnsInHanded_of_change (C:=Try.checked) own started (by kernel_rfl) Try.func3
  (ChangeSpec.witness6 (enc:=enc) (C:=Try.checked) false ⟨#[],#[.slice none 0 0],[]⟩ 8 (by kernel_rfl) (by kernel_rfl) (by kernel_rfl) (by kernel_rfl)) ?_
 intro W base args ds gs before hval hW _ _;refine law_contract (P:=Try.prog) (k:=6) (bt:=4) (t0:=2) (λ_ _ _ _ h=>h) (λ_ _ h=>h) Try.func3 rfl laidOut rfl rfl (by kernel_rfl) (by kernel_rfl) (by
  intro t ht;have:Try.f3.params.toList.all (λt=>Try.prog.readableRec t&&decide (t<Try.prog.types.size))=true:=by kernel_rfl
  have:=List.all_eq_true.1 this t ht;simpa using this) (λds hl=>?_) (λqs hq m=>?_) hval hW
 ·match ds,hl with
  |[d],_=>rfl
 ·have key:=evalF_top (n:=4096) (k:=12) (by kernel_rfl) tab_ok roll_sound new_okM (g:=3) (t:=t3) (by kernel_rfl) rfl (λfn c hf hb=>by
   have hf':some Try.f3=some fn:=(Try.func3).symm.trans hf;cases hf';have hg:(Try.f3.body.bind dfrOf).isNone=true:=by kernel_rfl
   rw[hb]at hg;simpa using hg) (args:=qs) (args':=qs) (m:=m) (λω=>by
    show(E Try.prog 13 ω 3 qs).isSome=true;rw[e3 qs hq ω];rfl) (argL_self (shL_plain hq))
  refine ebody_mono key ?_;rintro v ef m' ⟨⟨ω,h1⟩,_,h2,h3⟩;have h1:E Try.prog 13 ω 3 qs=some v:=h1;rw[e3 qs hq ω]at h1;injection h1 with h1;exact⟨h1.symm,h2,h3⟩
theorem topTwinsProved:Rows.TopTwinsSaid:=
 OpenClaim.holds_of_wide 3 Try.f3 rfl rfl rfl rfl rfl rfl rfl ⟨rfl,rfl,rfl,rfl,rfl⟩ rfl rfl rfl rfl rfl (by kernel_rfl) Try.func3 (by kernel_rfl)
  (of_decide_eq_true (by kernel_rfl)) (by unfold Func.isWrapper;first|(rw[if_pos (by decide +kernel)];kernel_rfl)|(rw[if_neg (by decide +kernel)];exact⟨rfl,rfl⟩))
  (λos started H enc _=>topTwins_lifted os started H enc)
#print axioms topTwinsProved
end
end Go.Proofs.Ytjfejoadcdoobaa
