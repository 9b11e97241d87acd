/- Part of the proof of TopTwins. No condition. -/
import Derived.Test.YtjfejoadcdoobaaProg
import Derived.Test.YtjfejoadcdoobaaMTopTwinsAT
import Derived.Test.YtjfejoadcdoobaaMTopTwinsAU
namespace Go.Proofs.Ytjfejoadcdoobaa
set_option maxRecDepth 100000
set_option linter.all false
section
open Go Go.RowKit
variable[Sp]
def IntsV(r:PV):Prop:=intsB r=true
def IntsV'(r:PV):Prop:=r=.snil\/∃off len cs,r=.sl none 1 off len cs/\cs.length=len/\∀c∈cs,∃n,c=.int .i64 n
def DiceI(l:List PV):Prop:=∃r x,l=[r,.int .u64 x]/\IntsV r
theorem intsV_iff{r:PV}:IntsV r↔IntsV' r:=by
 unfold IntsV IntsV' intsB;constructor
 ·intro h;split at h
  ·exact .inl rfl
  ·rename_i off len cs;simp only[Bool.and_eq_true,decide_eq_true_eq,List.all_eq_true]at h;refine .inr ⟨off,len,cs,rfl,h.1,λc hc=>?_⟩;have:=h.2 c hc;unfold intB at this;split at this
   ·exact⟨_,rfl⟩
   ·cases this
  ·cases h
 ·rintro(rfl|⟨off,len,cs,rfl,h1,h2⟩)
  ·rfl
  ·simp only[Bool.and_eq_true,decide_eq_true_eq,List.all_eq_true];refine⟨h1,λc hc=>?_⟩;obtain⟨n,rfl⟩:=h2 c hc;rfl
theorem intsV_plain{r:PV}(h:IntsV' r):r.plain=true/\r.one=true:=by
 rcases h with rfl|⟨off,len,cs,rfl,_,hc⟩
 ·exact⟨rfl,rfl⟩
 ·refine⟨?_,rfl⟩;simp only[PV.plain];refine(plainC_iff cs).2 λq hq=>?_;obtain⟨n,rfl⟩:=hc q hq;exact⟨rfl,rfl⟩
section
variable{P:Program}{ops:Array Oper}{o:Oper}{rest:List Oper}{s:St}{K:St->Prop}
def notBuild(o:Oper):Bool:=match o.op with
 |.buildSlice _ _ _=>false
 |_=>true
theorem ops_cons(v:PV)(hg:o.guard=none)(hb:notBuild o=true)(hv:pureV P s.m s.ev o=some v)(h:opsW P ops rest (s.put o.dst v) K):opsW P ops (o::rest) s K:=by
 simp only[opsW,guardW,hg];refine⟨s,Silent.refl s,pure_opW (m0:=s.m) ⟨Nat.le_refl _,λ_ _=>rfl⟩ hv (λt l p e=>?_) h⟩;unfold notBuild at hb;rw[e]at hb;cases hb
theorem ops_store{t:TypeId}{x y:Operand}{dt:TypeId}{ps:String}{af:Array Edge}{id off:Nat}{v:PV}{l:List PV}(hx:s.ev x=.ptr id off)(hv:s.ev y=v)(hid:id<s.m.n)(hi:(P.info? t).isSome)(hc:P.cellsOf t=1)(h1:v.one=true)(hcl:v.cells=[v])(hβ:s.m.β id=.cells l)(hl:off+1<=l.length)
  (h:opsW P ops rest (s.setBox id (splice l off [v])) K):opsW P ops (⟨none,.store t x y,dt,ps,af,none⟩::rest) s K:=by
 simp only[opsW,guardW];refine⟨s,Silent.refl s,?_⟩;show _=none/\aStore P s t (s.ev x) (s.ev y) _;refine⟨rfl,?_⟩;rw[hx,hv];simp only[aStore,hcl];exact⟨hid,hi,by rw[hc];rfl,by simp[h1],l,hβ,hl,h⟩
theorem ops_box{t:TypeId}{x:Operand}{d:Option Tmp}{dt:TypeId}{ps:String}{af:Array Edge}{l:List PV}(hk:(s.ev x).known=true)(hl:(s.ev x).cells=l)
  (h:opsW P ops rest (s.newBox d l) K):opsW P ops (⟨d,.box t x,dt,ps,af,none⟩::rest) s K:=by
 simp only[opsW,guardW];refine⟨s,Silent.refl s,?_⟩;show(s.ev x).known=true/\opsW P ops rest (s.newBox d (s.ev x).cells) K;rw[hl];exact⟨hk,h⟩
theorem lex_cons(v:PV)(m0:Mem)(T:Tab)(hg:o.guard=none)(hb:pureKind o=true)(hv:pureV P m0 s.ev o=some v)(h:lexW P m0 T ops rest (s.put o.dst v) K):lexW P m0 T ops (o::rest) s K:=by
 simp only[lexW,guardW,hg];unfold lexOp;unfold pureKind at hb;split at hb
 ·cases hb
 ·cases hb
 ·cases hb
 ·rename_i c hop;simp only[hop];split at hb
  ·cases hb
  ·rename_i hno;split
   ·rename_i f hf;exact absurd hf (hno f)
   ·exact⟨v,hv,h⟩
 ·rename_i g1 g2 g3 g4;split
  ·rename_i hop;exact absurd hop (g1 _)
  ·rename_i hop;exact absurd hop (g2 _ _)
  ·rename_i hop;exact absurd hop (g3 _ _ _)
  ·rename_i hop;exact absurd hop (g4 _)
  ·exact⟨v,hv,h⟩
end
section
theorem aF0(i:Nat):aField Try.prog 58 (.ptr i 0) 0=some (.ptr i 0):=by kernel_rfl
theorem aF1(i:Nat):aField Try.prog 58 (.ptr i 0) 1=some (.ptr i 1):=by kernel_rfl
theorem agL:aggT Try.prog 22=some false:=by kernel_rfl
theorem agU:aggT Try.prog 56=some false:=by kernel_rfl
theorem ceL:Try.prog.cellsOf 22=1:=by kernel_rfl
theorem ceU:Try.prog.cellsOf 56=1:=by kernel_rfl
theorem ceI:Try.prog.cellsOf 3=1:=by kernel_rfl
theorem inL:(Try.prog.info? 22).isSome=true:=by kernel_rfl
theorem inU:(Try.prog.info? 56).isSome=true:=by kernel_rfl
theorem inI:(Try.prog.info? 3).isSome=true:=by kernel_rfl
theorem unL:Try.prog.underlying 22=some (.slice 3):=by kernel_rfl
theorem unU:Try.prog.underlying 56=some (.int .u64):=by kernel_rfl
theorem unI:Try.prog.underlying 3=some (.int .i64):=by kernel_rfl
variable{i:Nat}{m:Mem}{r:PV}{x:Int}
theorem ldR(hm:i<m.n):aLoad Try.prog { m with β:=updB m.β i (.cells [r,.int .u64 x]) } 22 (.ptr i 0)=some r:=by simp[aLoad,aSrc,hm,agL]
theorem ldX(hm:i<m.n):aLoad Try.prog { m with β:=updB m.β i (.cells [r,.int .u64 x]) } 56 (.ptr i 1)=some (.int .u64 x):=by simp[aLoad,aSrc,hm,agU]
theorem gen{P:Program}{c:Code}{s:St}{Q:Ex->St->Prop}(F:St->Prop)(hF:F s)(h:∀s',F s'->CodeSem P c s' Q):CodeSem P c s Q:=h s hF
theorem sem_norm{P:Program}{c:Code}{s:St}{Q:Ex->St->Prop}(F:St->Prop)(h:CodeSem P c s λe s'=>e=.normal/\F s')(hQ:∀s',F s'->Q .normal s'):CodeSem P c s Q:=codeSem_mono h λe s' ⟨he,hs⟩=>by subst he;exact hQ s' hs
theorem wrap_u64(n:Int):0<=IntKind.u64.wrap n/\IntKind.u64.wrap n<18446744073709551616:=by
 simp[IntKind.wrap,IntKind.bits,IntKind.signed];omega
theorem updB_updB(β:Nat->BoxC)(i:Nat)(c d:BoxC):updB (updB β i c) i d=updB β i d:=by funext j;simp only[updB];split<;>rfl
theorem roll_ok(hi:i<m.n)(hr:IntsV' r):ECalls Try.prog 20 [.ptr i 0] { m with β:=updB m.β i (.cells [r,.int .u64 x]) } λv E m'=>(∃n,v=.int .u64 n/\0<=n/\n<4294967296)/\E=[]/\∃r' x',IntsV' r'/\m'={ m with β:=updB m.β i (.cells [r',.int .u64 x']) }:=by
 refine ecalls_of_sem (fn:=Try.f20) (by kernel_rfl) rfl (Nat.le_of_ble_eq_true rfl) (by kernel_rfl) (by kernel_rfl) ?_;have hp:(entry [.ptr i 0] { m with β:=updB m.β i (.cells [r,.int .u64 x]) }).g 0=.ptr i 0:=rfl;have hm:(entry [.ptr i 0] { m with β:=updB m.β i (.cells [r,.int .u64 x]) }).m={ m with β:=updB m.β i (.cells [r,.int .u64 x]) }:=rfl;have he:(entry [.ptr i 0] { m with β:=updB m.β i (.cells [r,.int .u64 x]) }).eff=[]:=rfl;generalize entry [.ptr i 0] { m with β:=updB m.β i (.cells [r,.int .u64 x]) }=s at hp hm he;refine sem_seq (sem_region ?_);refine ops_cons (.int .u64 0) rfl rfl (by simp[pureV,St.ev,pvOf]) ?_;refine sem_seq (sem_region ?_);refine ops_cons (.int .u64 0) rfl rfl (by simp[pureV,St.ev,pvOf]) ?_;refine sem_seq (sem_seq (sem_region ?_));refine ops_cons (.ptr i 0) rfl rfl (by simp[pureV,St.ev,hp]) ?_;refine ops_cons (.ptr i 0) rfl rfl (by simp[pureV,St.ev,hp]) ?_;refine ops_cons (.ptr i 0) rfl rfl (by simp[pureV,St.ev,aF0]) ?_;refine ops_cons r rfl rfl (by simp[pureV,St.ev,hm,ldR hi]) ?_;have hlen:∃len:Nat,aLen Try.prog 22 r=some (.int .i64 len)/\(0<len->∃off cs,r=.sl none 1 off len cs/\cs.length=len/\∀c∈cs,∃n,c=.int .i64 n):=by
  rcases hr with rfl|⟨off,len,cs,rfl,h1,h2⟩
  ·exact⟨0,by simp[aLen,unL],λh=>absurd h (by omega)⟩
  ·exact⟨len,by simp[aLen,unL],λ_=>⟨off,cs,rfl,h1,h2⟩⟩
 obtain⟨len,hlen,hsl⟩:=hlen;refine ops_cons (.int .i64 len) rfl rfl (by simp[pureV,St.ev,hlen]) ?_;refine ops_cons (.bool (decide (0<(len:Int)))) rfl rfl (by simp[pureV,St.ev,pvOf,aBin]) ?_;refine gen (λs'=>s'.g 0=.ptr i 0/\s'.m={ m with β:=updB m.β i (.cells [r,.int .u64 x]) }/\s'.eff=[]/\s'.g 3=.int .u64 0/\s'.g 10=.bool (decide (0<(len:Int)))) (by simp[hp,hm,he]) ?_;clear hp hm he s;rintro s ⟨hp,hm,he,h3,h10⟩;refine sem_norm (λs'=>∃r' x3,IntsV' r'/\s'.g 0=.ptr i 0/\s'.g 3=.int .u64 x3/\s'.m={ m with β:=updB m.β i (.cells [r',.int .u64 x]) }/\s'.eff=[]) ?_ ?_
 ·refine sem_cond (decide (0<(len:Int))) (by simp[St.ev,h10]) ?_;by_cases hlt:0<len
  ·rw[if_pos (by simp;omega)];obtain⟨off,cs,rfl,hcl,hcs⟩:=hsl hlt;cases cs with
   |nil=>simp at hcl;omega
   |cons c cs=>
    obtain⟨n,rfl⟩:=hcs c (by simp);refine sem_seq (sem_region ?_);refine ops_cons (.ptr i 0) rfl rfl (by simp[pureV,St.ev,hp]) ?_;refine ops_cons (.ptr i 0) rfl rfl (by simp[pureV,St.ev]) ?_;refine ops_cons (.ptr i 0) rfl rfl (by simp[pureV,St.ev,aF0]) ?_;refine ops_cons (.sl none 1 off len (.int .i64 n::cs)) rfl rfl (by simp[pureV,St.ev,hm,ldR hi]) ?_;refine ops_cons (.eref none off (.int .i64 n::cs)) rfl rfl (by simp[pureV,St.ev,pvOf,aIndexAddr,unL,ceI,inI,hlt]) ?_;refine ops_cons (.int .i64 n) rfl rfl (by simp[pureV,St.ev,aLoad,aSrc,show aggT Try.prog 3=some false by kernel_rfl]) ?_;refine ops_cons (.int .u64 (IntKind.u64.wrap n)) rfl rfl (by simp[pureV,St.ev,aConv,unU,unI]) ?_;refine ops_cons (.int .u64 (IntKind.u64.wrap n)) rfl rfl (by simp[pureV,St.ev]) ?_;refine gen (λs'=>s'.g 0=.ptr i 0/\s'.m={ m with β:=updB m.β i (.cells [.sl none 1 off len (.int .i64 n::cs),.int .u64 x]) }/\s'.eff=[]/\s'.g 3=.int .u64 (IntKind.u64.wrap n)) (by simp[hp,hm,he]) ?_;clear hp hm he h3 h10 s;rintro s ⟨hp,hm,he,h3⟩;have hsl2:∃r',aSlice Try.prog 22 (.sl none 1 off len (.int .i64 n::cs)) (some (.int .i64 1)) none=some r'/\IntsV' r':=by
     by_cases h1:1=len
     ·refine⟨.sl none 1 0 0 [],by simp[aSlice,unL,aBnd,ceI,inI,←h1],.inr ⟨0,0,[],rfl,rfl,by simp⟩⟩
     ·refine⟨.sl none 1 (off+1) (len-1) cs,?_,.inr ⟨off+1,len-1,cs,rfl,by simp at hcl;omega,λc hc=>hcs c (by simp[hc])⟩⟩;have:cs.take (len-1)=cs:=List.take_of_length_le (by simp at hcl;omega);simp[aSlice,unL,aBnd,ceI,inI,h1,this];omega
    obtain⟨r',hr1,hr2⟩:=hsl2;refine sem_region ?_;refine ops_cons (.ptr i 0) rfl rfl (by simp[pureV,St.ev,hp]) ?_;refine ops_cons (.ptr i 0) rfl rfl (by simp[pureV,St.ev,hp]) ?_;refine ops_cons (.ptr i 0) rfl rfl (by simp[pureV,St.ev]) ?_;refine ops_cons (.ptr i 0) rfl rfl (by simp[pureV,St.ev,aF0]) ?_;refine ops_cons (.sl none 1 off len (.int .i64 n::cs)) rfl rfl (by simp[pureV,St.ev,hm,ldR hi]) ?_;refine ops_cons r' rfl rfl (by simp[pureV,St.ev,pvOf,hr1]) ?_;refine ops_cons (.ptr i 0) rfl rfl (by simp[pureV,St.ev]) ?_;refine ops_cons (.ptr i 0) rfl rfl (by simp[pureV,St.ev,aF0]) ?_;refine ops_store (id:=i) (off:=0) (v:=r') (l:=[.sl none 1 off len (.int .i64 n::cs),.int .u64 x]) (by simp[St.ev]) (by simp[St.ev]) (by simp[hm,hi]) inL ceL (intsV_plain hr2).2 (by rcases hr2 with rfl|⟨_,_,_,rfl,_⟩<;>rfl) (by simp[hm]) (by simp) ?_;exact⟨rfl,r',_,hr2,by simp[hp],by simp[h3];rfl,by simp[hm,splice,updB_updB],by simp[he]⟩
  ·rw[if_neg (by simp;omega)];exact sem_skip ⟨rfl,r,0,hr,hp,h3,hm,he⟩
 clear hp hm he h3 h10 hlen hsl len s;rintro s ⟨r',x3,hr',hp,h3,hm,he⟩;refine sem_seq (sem_region ?_);refine ops_cons (.ptr i 0) rfl rfl (by simp[pureV,St.ev,hp]) ?_;refine ops_cons (.ptr i 0) rfl rfl (by simp[pureV,St.ev,hp]) ?_;refine ops_cons (.ptr i 0) rfl rfl (by simp[pureV,St.ev]) ?_;refine ops_cons (.ptr i 1) rfl rfl (by simp[pureV,St.ev,aF1]) ?_;refine ops_cons (.int .u64 x) rfl rfl (by simp[pureV,St.ev,hm,ldX hi]) ?_;refine ops_cons (.int .u64 x3) rfl rfl (by simp[pureV,St.ev,h3]) ?_;refine ops_cons (.int .u64 (IntKind.u64.wrap (x+x3))) rfl rfl (by simp[pureV,St.ev,aBin]) ?_;refine ops_cons (.int .u64 (IntKind.u64.wrap (IntKind.u64.wrap (x+x3)+6364136223846793005))) rfl rfl (by simp[pureV,St.ev,pvOf,aBin]) ?_;generalize IntKind.u64.wrap (IntKind.u64.wrap (x+x3)+6364136223846793005)=y0;refine ops_cons (.int .u64 (IntKind.u64.wrap (y0*15074714826142052245))) rfl rfl (by simp[pureV,St.ev,pvOf,aBin]) ?_;generalize IntKind.u64.wrap (y0*15074714826142052245)=y1;refine ops_cons (.ptr i 0) rfl rfl (by simp[pureV,St.ev]) ?_;refine ops_cons (.ptr i 1) rfl rfl (by simp[pureV,St.ev,aF1]) ?_;refine ops_store (id:=i) (off:=1) (v:=.int .u64 y1) (l:=[r',.int .u64 x]) (by simp[St.ev]) (by simp[St.ev]) (by simp[hm,hi]) inU ceU rfl rfl (by simp[hm]) (by simp) ?_;refine gen (λs'=>s'.g 0=.ptr i 0/\s'.m={ m with β:=updB m.β i (.cells [r',.int .u64 y1]) }/\s'.eff=[]) (by simp[hp,hm,he,splice,updB_updB]) ?_;clear hp hm he h3 s;rintro s ⟨hp,hm,he⟩;refine sem_seq (sem_draw (by kernel_rfl) 11 (by kernel_rfl) (λ_ _ _ _ _=>False) ?_);refine lex_cons (.ptr i 0) _ _ rfl rfl (by simp[pureV,St.ev,hp]) ?_;refine lex_cons (.ptr i 0) _ _ rfl rfl (by simp[pureV,St.ev,hp]) ?_;refine lex_cons (.ptr i 0) _ _ rfl rfl (by simp[pureV,St.ev]) ?_;refine lex_cons (.ptr i 1) _ _ rfl rfl (by simp[pureV,St.ev,aF1]) ?_;refine lex_cons (.int .u64 y1) _ _ rfl rfl (by simp[pureV,St.ev,hm,ldX hi]) ?_;refine lex_cons (.ptr i 0) _ _ rfl rfl (by simp[pureV,St.ev,hp]) ?_;refine lex_cons (.ptr i 0) _ _ rfl rfl (by simp[pureV,St.ev]) ?_;refine lex_cons (.ptr i 1) _ _ rfl rfl (by simp[pureV,St.ev,aF1]) ?_;refine lex_cons (.int .u64 y1) _ _ rfl rfl (by simp[pureV,St.ev,hm,ldX hi]) ?_;refine lex_cons (.int .u64 (y1.fdiv (2^29))) _ _ rfl rfl (by simp[pureV,St.ev,pvOf,aBin,IntKind.bits]) ?_;generalize y1.fdiv (2^29)=y2;refine lex_cons (.int .u64 (bits .xor .u64 y1 y2)) _ _ rfl rfl (by simp[pureV,St.ev,aBin]) ?_;generalize bits .xor .u64 y1 y2=y3;refine ops_cons (.ptr i 0) rfl rfl (by simp[pureV,St.ev]) ?_;refine ops_cons (.ptr i 1) rfl rfl (by simp[pureV,St.ev,aF1]) ?_;refine ops_store (id:=i) (off:=1) (v:=.int .u64 y3) (l:=[r',.int .u64 y1]) (by simp[St.ev]) (by simp[St.ev]) (by simp[hm,hi]) inU ceU rfl rfl (by simp[hm]) (by simp) ?_;refine gen (λs'=>s'.g 0=.ptr i 0/\s'.m={ m with β:=updB m.β i (.cells [r',.int .u64 y3]) }/\s'.eff=[]) (by simp[hp,hm,he,splice,updB_updB]) ?_;clear hp hm he s;rintro s ⟨hp,hm,he⟩;refine sem_seq (sem_draw (by kernel_rfl) 11 (by kernel_rfl) (λ_ _ _ _ _=>False) ?_);refine lex_cons (.ptr i 0) _ _ rfl rfl (by simp[pureV,St.ev,hp]) ?_;refine lex_cons (.ptr i 0) _ _ rfl rfl (by simp[pureV,St.ev]) ?_;refine lex_cons (.ptr i 1) _ _ rfl rfl (by simp[pureV,St.ev,aF1]) ?_;refine lex_cons (.int .u64 y3) _ _ rfl rfl (by simp[pureV,St.ev,hm,ldX hi]) ?_;refine lex_cons (.ptr i 0) _ _ rfl rfl (by simp[pureV,St.ev,hp]) ?_;refine lex_cons (.ptr i 0) _ _ rfl rfl (by simp[pureV,St.ev]) ?_;refine lex_cons (.ptr i 1) _ _ rfl rfl (by simp[pureV,St.ev,aF1]) ?_;refine lex_cons (.int .u64 y3) _ _ rfl rfl (by simp[pureV,St.ev,hm,ldX hi]) ?_;refine lex_cons (.int .u64 (y3.fdiv (2^33))) _ _ rfl rfl (by simp[pureV,St.ev,pvOf,aBin,IntKind.bits]) ?_;generalize y3.fdiv (2^33)=y4;refine lex_cons (.int .u64 (bits .xor .u64 y3 y4)) _ _ rfl rfl (by simp[pureV,St.ev,aBin]) ?_;generalize bits .xor .u64 y3 y4=y5;refine lex_cons (.int .u64 (IntKind.u64.wrap (y5*18397679294719823053))) _ _ rfl rfl (by simp[pureV,St.ev,pvOf,aBin]) ?_;have hb:=wrap_u64 (y5*18397679294719823053);generalize IntKind.u64.wrap (y5*18397679294719823053)=y6 at hb;refine ops_cons (.int .u64 y6) rfl rfl (by simp[pureV,St.ev]) ?_;refine gen (λs'=>s'.g 4=.int .u64 y6/\s'.m={ m with β:=updB m.β i (.cells [r',.int .u64 y3]) }/\s'.eff=[]) (by simp[hm,he]) ?_;clear hp hm he s;rintro s ⟨hp,hm,he⟩;refine sem_seq (sem_region ?_);refine ops_cons (.int .u64 y6) rfl rfl (by simp[pureV,St.ev,hp]) ?_;refine ops_cons (.int .u64 (y6.fdiv (2^32))) rfl rfl (by simp[pureV,St.ev,pvOf,aBin,IntKind.bits]) ?_;refine ops_cons (.int .u64 (y6.fdiv (2^32))) rfl rfl (by simp[pureV,St.ev]) ?_;refine sem_ret ⟨.inr rfl,.int .u64 (y6.fdiv (2^32)),?_,_,_,.inl ⟨rfl,rfl⟩,⟨_,rfl,?_,?_⟩,by simp[he],r',y3,hr',by simp[hm]⟩
 ·show aRes _ _ [.tmp 2]=_;simp[aRes,aResL,aRes1]
 ·rw[Int.fdiv_eq_ediv_of_nonneg _ (by decide)];omega
 ·rw[Int.fdiv_eq_ediv_of_nonneg _ (by decide)];omega
theorem mrel_shutBox{φ:Phi}{m:Mem}{w:World}{j:Nat}{l:List PV}{DI:List PV->Prop}(h:MRel φ m w)(hj:m.β j=.cells l)(hD:DI l)(hp:plainC l=true):MRel φ { m with β:=updB m.β j (.inv DI) } w:=by
 refine⟨λk hk=>?_,h.boxn,h.arr,h.boxinj,h.arrinj,h.sep,h.rcs⟩;by_cases e:k=j
 ·subst e;obtain⟨b,cs,e,h1,h2,h3⟩:=h.cells hk (by rw[hj];simp);rw[hj]at h3;exact .inr ⟨b,cs,e,h1,h2,by simp only[updB_same];exact⟨l,hD,λe=>plainC_sub1 e l hp,λn=>plainC_cutb n l hp,h3⟩⟩
 ·simp only[updB_other _ _ _ _ e];exact h.box k hk
theorem mrel_openBox{φ:Phi}{m:Mem}{w:World}{j:Nat}{DI:List PV->Prop}(h:MRel φ m w)(hj:j<m.n)(hb:m.β j=.inv DI):∃l,DI l/\MRel φ { m with β:=updB m.β j (.cells l) } w:=by
 obtain⟨b,cs,e,h1,h2,h3⟩:=h.cells hj (by rw[hb];simp);rw[hb]at h3;obtain⟨l,hD,_,_,h4⟩:=h3;refine⟨l,hD,λk hk=>?_,h.boxn,h.arr,h.boxinj,h.arrinj,h.sep,h.rcs⟩;by_cases e':k=j
 ·subst e';exact .inr ⟨b,cs,e,h1,h2,by simp only[updB_same];exact h4⟩
 ·simp only[updB_other _ _ _ _ e'];exact h.box k hk
theorem updB_eq(β:Nat->BoxC)(i:Nat)(c:BoxC)(h:β i=c):updB β i c=β:=by
 funext j;simp only[updB];split
 ·rename_i e;rw[e,h]
 ·rfl
def rollC:Orc->FuncId->List PV->Option PV:=λω g args=>if g=20 then match args with
 |[.ptr 0 0]=>some (.int .u64 ((ω []%4294967296:Nat):Int))
 |_=>none
 else none
theorem rollC_some{ω:Orc}{g:FuncId}{args:List PV}{v:PV}(h:rollC ω g args=some v):g=20/\args=[.ptr 0 0]/\v=.int .u64 ((ω []%4294967296:Nat):Int):=by
 unfold rollC at h;split at h
 ·rename_i hg;split at h
  ·injection h with h;exact⟨hg,rfl,h.symm⟩
  ·cases h
 ·cases h
theorem roll_sound:CSound Try.prog DiceI rollC:=by
 refine⟨λg args hs args' m ha=>?_,λω g args v h=>?_,λω g args v h=>?_⟩
 ·obtain⟨v0,h0⟩:=Option.isSome_iff_exists.1 (hs orc0);obtain⟨rfl,rfl,_⟩:=rollC_some h0;obtain⟨q,l',rfl,h1,h2⟩:=ha;simp only[ArgL]at h2;subst h2;rcases h1 with⟨rfl,hp⟩|⟨_,i,rfl,hi,hb⟩
  ·simp[PV.plain]at hp
  ·intro φ vs w hm hv;obtain⟨l,⟨r,x,rfl,hr⟩,hm1⟩:=mrel_openBox hm hi hb;refine(roll_ok hi (intsV_iff.1 hr) φ vs w hm1 hv).mono ?_;rintro e w' ⟨v,pv,E,m',φ',rfl,hpv,hm',hstep,⟨n,rfl,hn1,hn2⟩,rfl,r',x',hr',rfl⟩;have hpl:=intsV_plain hr';have hm2:=mrel_shutBox (DI:=DiceI) (j:=i) (l:=[r',.int .u64 x']) hm' (by simp) ⟨r',x',rfl,intsV_iff.2 hr'⟩ (by simp only[plainC,hpl.1,hpl.2];rfl);simp only[updB_updB]at hm2;rw[updB_eq _ _ _ hb]at hm2;refine⟨v,_,[],m,φ',rfl,hpv,hm2,hstep,⟨λ_=>n.toNat,?_⟩,rfl,rfl,rfl⟩;simp only[rollC,if_true];congr 2;omega
 ·obtain⟨_,_,rfl⟩:=rollC_some h;rfl
 ·obtain⟨rfl,_,_⟩:=rollC_some h;exact⟨Try.f20,by kernel_rfl,by decide,rfl⟩
theorem build2(x:PV)(h:x.known=true)(hc:x.cells=[x]):aBuild Try.prog 58 [(0,x),(1,.int .u64 1)]=some (.agg [x,.int .u64 1]):=by
 have hz:zeroCs Try.prog 58=some [.snil,.int .u64 0]:=by kernel_rfl
 obtain⟨fs,hu,ha,h0,h1⟩:∃fs:Array Field,Try.prog.underlying 58=some (.struct fs)/\fs.toList.all (λf=>(Try.prog.info? f.type).isSome)=true/\fieldPlaceOf Try.prog fs 0=some (0,1)/\fieldPlaceOf Try.prog fs 1=some (1,1):=
  ⟨(match Try.prog.underlying 58 with|some (.struct fs)=>fs|_=>#[]),by kernel_rfl,by kernel_rfl,by kernel_rfl,by kernel_rfl⟩
 simp only[aBuild,hu,hz,ha,if_true];have e1:(PV.int .u64 1).cells=[.int .u64 1]:=rfl;have e2:(PV.int .u64 1).known=true:=rfl;simp[aFill,h0,h1,h,hc,e1,e2,splice]
theorem new_ok0:DiceNew Try.prog DiceI 4:=by
 intro x m hx;have hx':=intsV_plain (intsV_iff.1 hx);have hc:x.cells=[x]:=by rcases intsV_iff.1 hx with rfl|⟨_,_,_,rfl,_⟩<;>rfl
 have hk:x.known=true:=by rcases intsV_iff.1 hx with rfl|⟨_,_,_,rfl,_⟩<;>rfl
 have key:ECalls Try.prog 4 [x] m λv E m'=>v=.ptr m.n 0/\E=[]/\m'=⟨updB m.β m.n (.cells [x,.int .u64 1]),m.n+1,m.an,m.rc⟩:=by
  refine ecalls_of_sem (fn:=Try.f4) (by kernel_rfl) rfl (Nat.le_of_ble_eq_true rfl) (by kernel_rfl) (by kernel_rfl) ?_;have hp:(entry [x] m).g 0=x:=rfl;have hm:(entry [x] m).m=m:=rfl;have he:(entry [x] m).eff=[]:=rfl;generalize entry [x] m=s at hp hm he;refine sem_seq (sem_region ?_);refine ops_cons .nilp rfl rfl (by simp[pureV,St.ev,pvOf]) ?_;refine sem_seq (sem_region ?_);refine ops_cons x rfl rfl (by simp[pureV,St.ev,hp]) ?_;refine ops_cons (.agg [x,.int .u64 1]) rfl rfl (by simp[pureV,St.ev,pvOf,build2 x hk hc]) ?_;refine ops_box (l:=[x,.int .u64 1]) (by simp[St.ev,PV.known]) (by simp[St.ev,PV.cells]) ?_;refine ops_cons (.ptr m.n 0) rfl rfl (by simp[pureV,St.ev,hm]) ?_;refine sem_ret ⟨.inr rfl,.ptr m.n 0,?_,_,_,.inl ⟨rfl,rfl⟩,rfl,by simp[he],?_⟩
  ·show aRes _ _ [.tmp 2]=_;simp[aRes,aResL,aRes1,St.ev,hm]
  ·simp[St.ev,hm,PV.cells]
 intro φ vs w hm hv;refine(key φ vs w hm hv).mono ?_;rintro e w' ⟨v,pv,E,m',φ',rfl,hpv,hm',hstep,rfl,rfl,rfl⟩;have hm2:=mrel_shutBox (DI:=DiceI) (j:=m.n) (l:=[x,.int .u64 1]) hm' (by simp) ⟨x,1,rfl,hx⟩ (by simp only[plainC,hx'.1,hx'.2];rfl);simp only[updB_updB]at hm2;exact⟨v,_,[],_,φ',rfl,hpv,hm2,hstep,rfl,rfl,rfl⟩
end
end
section
open Go Go.RowKit
instance spM:Sp:=⟨λ_ _ _ _=>False,λ_ _=>False,true⟩
def npL:List (Nat×Nat×Nat):=[(3,18,13),(3,23,10002),(3,46,15),(7,5,8),(11,6,4),(18,1,4),(19,5,8),(22,7,8),(25,8,8),(26,7,10000),(26,8,3),(28,4,17),(30,11,11),(32,11,5),(39,2,19),(41,2,7),(41,3,9),(53,6,9),(53,11,9),(56,4,5)]
def ilL:List FuncId:=[40,49]
def ownT:FuncId->Option (Option (Nat×Nat)):=λ_=>none
noncomputable def TM:Tb:=⟨Try.prog,⟨4,none,none⟩,ilL,npL,ownT,[{g:=3,k:=[hs 0 124 [hp 53] [53,5,4,3],hs 0 2045 [⟨true,1,0,some (1,.nil0),false⟩,⟨true,1,1,some (1,.nil0),false⟩,⟨true,2,2,some (1,.nil0),false⟩] [11,4,10,9,8],hs 0 4090 [hp 12,⟨true,1,0,some (1,.nil0),false⟩,⟨true,1,1,some (1,.nil0),false⟩,⟨true,2,2,some (1,.nil0),false⟩] [9,11,5,4,3,10,8,12],hs 0 1047117 [hp 13,hp 14] [9,11,5,4,3,10,8,12,15,14,13] [3],hs 0 2094234 [hp 13,hp 14,hp 16] [9,15,11,5,4,3,10,8,12,16,14,13] [3],hs 0 1072247964 [hp 105] [105,9,15,11,5,4,3,10,8,12,14,13,16,18],hs 0 8188 [hp 154] [154,11,4,10,9,8],hs 0 65533 [hp 24] [11,4,10,9,8,24,23],hs 0 131066 [hp 24,hp 25] [22,11,4,10,9,8,23,25,24],hs 0 1048528 [hp 167] [167,22,11,4,10,9,8,23,25,24],hs 0 2097060 [hp 24] [22,11,4,10,9,8,23,24,25],hs 0 131068 [hp 184] [184,11,4,10,9,8],hs 0 262141 [] [],hs 0 524282 [hp 26] [11,4,26,10,9,8],hs 0 16777033 [] [11,4,10,9,8,26],hs 0 33554066 [hp 27] [11,4,27,26,10,9,8],hs 0 8589840973 [hp 30] [11,4,26,10,9,8,27,30,28,29],hs 0 17179681946 [hp 30,hp 31] [11,4,27,26,10,9,8,28,29,31,30],hs 0 549749822281 [hp 30] [11,4,27,26,10,9,8,28,29,30,31],hs 0 8589840974 [hp 235] [235,11,4,26,10,9,8,27]],h:=[(0,59)],t:=[(0,23,6)]},
 {g:=5,k:=[hs 0 61 [⟨false,5,0,some (1,.nil0),false⟩] [5],hs 0 122 [⟨false,5,0,some (1,.nil0),false⟩,hp 18] [1,16,17,18,5],hs 0 62671 [⟨false,5,0,some (1,.nil0),false⟩] [1,16,17,5,18]]},
 {g:=6},
 {g:=7,k:=[hs 0 29 [hp 5] [5],hs 0 58 [hp 5,hp 6] [1,0,6,5],hs 0 464 [hp 18] [18,1,0,6,5]]},
 {g:=8},
 {g:=9},
 {g:=10},
 {g:=11,k:=[hs 0 29 [hp 7] [7,3,6]]},
 {g:=12},
 {g:=13,k:=[hs 0 29 [hp 11] [11,3,2,5,10]]},
 {g:=14,k:=[hs 0 30 [hp 0] [0]]},
 {g:=15,k:=[hs 0 13 [] [],hs 0 26 [hp 7] [1,6,7]]},
 {g:=16},
 {g:=17,k:=[hs 0 13 [] [],hs 0 26 [hp 8] [0,1,7,8]]},
 {g:=18},
 {g:=19,k:=[hs 0 29 [hp 5] [5],hs 0 58 [hp 5,hp 6] [1,0,6,5],hs 0 464 [hp 18] [18,1,0,6,5]]},
 {g:=21,k:=[hs 0 6 [hp 2] [2]]},
 {g:=22,k:=[hs 0 125 [] [2,3,1] [0],hs 0 250 [hp 22] [2,20,3,1,21,22] [0],hs 0 509 [⟨true,1,3,none,false⟩] [2,3,1] [] [0],hs 0 1018 [hp 43,⟨true,1,3,none,true⟩] [2,41,3,1,42,43]],d:=true},
 {g:=23,k:=[hs 0 28 [hp 29] [29]]},
 {g:=24,k:=[hs 0 29 [⟨false,5,0,some (1,.nil0),false⟩] [5],hs 0 58 [⟨false,5,0,some (1,.nil0),false⟩,hp 12] [3,2,11,12,5],hs 0 7475 [⟨false,5,0,some (1,.nil0),false⟩] [3,2,11,5,12],hs 0 14950 [⟨false,5,0,some (1,.nil0),false⟩,hp 22] [6,3,2,11,12,21,22,5],hs 0 1913651 [⟨false,5,0,some (1,.nil0),false⟩] [6,3,2,11,12,21,5,22]]},
 {g:=25,k:=[hs 0 29 [⟨true,3,0,none,false⟩,⟨true,3,1,none,false⟩,⟨true,3,2,none,false⟩,⟨true,3,3,none,false⟩,⟨true,3,4,none,false⟩,⟨true,3,5,none,false⟩,⟨true,3,6,none,false⟩,⟨true,3,7,none,false⟩,⟨true,3,8,none,false⟩,⟨true,3,9,none,false⟩,⟨true,3,10,none,false⟩,⟨true,3,11,none,false⟩] [4,5],hs 0 58 [hp 12,⟨true,3,0,none,false⟩,⟨true,3,1,none,false⟩,⟨true,3,2,none,false⟩,⟨true,3,3,none,false⟩,⟨true,3,4,none,false⟩,⟨true,3,5,none,false⟩,⟨true,3,6,none,false⟩,⟨true,3,7,none,false⟩,⟨true,3,8,none,false⟩,⟨true,3,9,none,false⟩,⟨true,3,10,none,false⟩,⟨true,3,11,none,false⟩] [5,3,2,4,11,12],hs 0 7475 [⟨true,3,0,none,false⟩,⟨true,3,1,none,false⟩,⟨true,3,2,none,false⟩,⟨true,3,3,none,false⟩,⟨true,3,4,none,false⟩,⟨true,3,5,none,false⟩,⟨true,3,6,none,false⟩,⟨true,3,7,none,false⟩,⟨true,3,8,none,false⟩,⟨true,3,9,none,false⟩,⟨true,3,10,none,false⟩,⟨true,3,11,none,false⟩] [5,3,2,4,11,12],hs 0 14950 [hp 22,⟨true,3,0,none,false⟩,⟨true,3,1,none,false⟩,⟨true,3,2,none,false⟩,⟨true,3,3,none,false⟩,⟨true,3,4,none,false⟩,⟨true,3,5,none,false⟩,⟨true,3,6,none,false⟩,⟨true,3,7,none,false⟩,⟨true,3,8,none,false⟩,⟨true,3,9,none,false⟩,⟨true,3,10,none,false⟩,⟨true,3,11,none,false⟩] [5,6,3,2,4,11,12,21,22]]},
 {g:=26,s:=[3002,700123,700123004003,700123703687,700123703687004006,700123703687004006007004],k:=[(0,61,⟨[⟨true,1,0,some (4,.nil0),false⟩,⟨true,2,0,some (12,.nil0),false⟩],[],[5,4],[],true⟩),hs 0 981 [] [],(700123,7,⟨[⟨true,1,0,some (4,.nil0),false⟩,⟨true,2,0,some (12,.nil0),false⟩],[],[],[],true⟩),(700123,14,⟨[hp 10,⟨true,1,0,some (4,.nil0),false⟩,⟨true,2,0,some (12,.nil0),false⟩],[],[17,16,5,4,2,1,9,10],[],true⟩),(700123,1843,⟨[⟨true,1,0,some (4,.nil0),false⟩,⟨true,2,0,some (12,.nil0),false⟩],[],[2,1,9,10],[],true⟩),(700123703687,3,⟨[⟨true,1,0,some (4,.nil0),false⟩,⟨true,2,0,some (12,.nil0),false⟩],[],[],[],true⟩),(700123703687,6,⟨[hp 6,⟨true,1,0,some (4,.nil0),false⟩,⟨true,2,0,some (12,.nil0),false⟩],[],[2,0,1,6],[],true⟩),hs 700123703687004006 7 [] [],hs 700123703687004006 14 [] [17,16,5,4,2,1,9,10],hs 700123703687004006 1843 [hp 16,hp 17,hp 4,hp 5] [17,16,5,4,2,1,9,10],hs 700123703687004006007004 61 [] [5,4],(700123703687004006007004,981,⟨[⟨true,1,0,some (4,.nil0),false⟩,⟨true,2,0,some (12,.nil0),false⟩],[],[],[],true⟩)]},
 {g:=27,k:=[hs 0 6 [hp 6] [6]]},
 {g:=28},
 {g:=29},
 {g:=30,k:=[hs 0 29 [] [],hs 0 58 [hp 19] [1,17,18,19],hs 0 29900 [hp 28] [28,1,17,18,19,4,5,3],hs 0 119606 [hp 43] [43,1,17,18,19,4,5],hs 0 478430 [hp 57] [57,1,17,18,19,4,5]]},
 {g:=31,k:=[hs 0 29 [] [],hs 0 58 [hp 20] [18,19,20],hs 0 7475 [] [18,19,20],hs 0 14950 [hp 26] [4,24,18,19,20,25,26],hs 0 15309206 [hp 35] [35,4,24,18,19,20,25,26]]},
 {g:=32,k:=[hs 0 29 [] [],hs 0 58 [hp 15] [1,13,14,15],hs 0 14951 [] [1,13,14,15],hs 0 29902 [hp 24] [4,1,22,13,14,15,23,24]]},
 {g:=34,k:=[hs 0 3 [] []]},
 {g:=35},
 {g:=36,k:=[hs 0 15 [] [],hs 0 30 [hp 16] [2,1,14,15,16],hs 0 15565 [] [2,1,14,15,16,5],hs 0 15567 [] [2,1,14,15,16],hs 0 31134 [] [2,1,14,15,16,33] [0],hs 0 3985207 [] [2,1,14,15,16,33]]},
 {g:=37,k:=[hs 0 7 [] [],hs 0 14 [hp 12] [0,10,11,12],hs 0 7373 [] [0,10,11,12,3],hs 0 7375 [] [0,10,11,12],hs 0 14750 [hp 30] [28,0,10,11,12,29,30],hs 0 3776100 [hp 47] [47,28,0,10,11,12,29,30,5],hs 0 3776101 [] [28,0,10,11,12,29,30,5],hs 0 3776103 [] [28,0,10,11,12,29,30]]},
 {g:=38,k:=[hs 0 6 [hp 4] [4]]},
 {g:=39,k:=[hs 0 14 [hp 8] [8]]},
 {g:=41,k:=[hs 0 124 [hp 52] [52,15,14,12,13,5]]},
 {g:=42,k:=[hs 0 61 [hp 6] [1,5,6]]},
 {g:=43,k:=[hs 0 61 [⟨false,3,0,some (1,.nil0),false⟩] [3],hs 0 122 [⟨false,3,0,some (1,.nil0),false⟩,hp 15] [13,14,15,3]]},
 {g:=44},
 {g:=45},
 {g:=46,k:=[hs 0 6 [hp 2] [2]]},
 {g:=48,s:=[4003,703687,703687004006],k:=[hs 0 7 [] [],hs 0 14 [hp 10] [17,16,5,4,2,1,9,10],hs 0 1843 [] [2,1,9,10],hs 703687 3 [] [],hs 703687 6 [hp 6] [2,0,1,6],hs 703687004006 7 [] [],hs 703687004006 14 [] [17,16,5,4,2,1,9,10],hs 703687004006 1843 [hp 16,hp 17,hp 4,hp 5] [17,16,5,4,2,1,9,10]]},
 {g:=50},
 {g:=51,k:=[hs 0 29 [hp 3] [3],hs 0 58 [hp 3,hp 7] [0,6,7,3],hs 0 7475 [hp 3] [0,6,3,7]]},
 {g:=52},
 {g:=53,k:=[hs 0 29 [] [0],hs 0 58 [hp 3] [0,3],hs 0 29845 [hp 3] [3,0],hs 0 59690 [hp 3,hp 5] [4,0,5,3],hs 0 1910089 [hp 3] [4,0,3,5]],z:=true},
 {g:=56,k:=[hs 0 3 [] [],hs 0 6 [hp 6] [2,0,1,6]]}],23,[(69,true)]⟩
noncomputable def tab(g:FuncId):Option Tree:=TM.tab g
theorem dfr22:DfrOk Try.prog 22:=⟨rfl,λfn c ops0 d g T hf hb hd=>by
 have hf':some Try.f22=some fn:=(Try.func22).symm.trans hf;cases hf';have hg:((Try.f22.body.bind dfrOf).map λx=>x.2.2.1)=some 33:=by kernel_rfl
 rw[hb]at hg;simp only[Option.bind_some,hd,Option.map_some,Option.some.injEq]at hg;subst hg;exact runs33⟩
theorem tab_ok:TabOk Try.prog 23 ⟨4,none,none⟩ ownT tab:=TM.tabOk (by kernel_rfl) (λw hm hd=>by
 have h:TM.rows.all (λw=>!w.d||decide (w.g=22))=true:=by kernel_rfl
 have:=List.all_eq_true.1 h w hm;rw[hd]at this;simp only[Bool.not_true,Bool.false_or,decide_eq_true_eq]at this;rw[this];exact dfr22) λg r h=>by
 cases h
theorem new_okM:NewOk Try.prog DiceI ⟨4,none,none⟩:=NewOk.mk (λ_=>new_ok0) (λf h=>(by cases h)) (λf h=>(by cases h))
noncomputable def E(P:Program)(k:Nat)(ω:Orc)(g:FuncId)(a:List PV):Option PV:=evalF P 23 tab rollC 4096 k ω g a
end
section
open Go Go.RowKit
section
variable{P:Program}{C:Orc->FuncId->List PV->Option PV}{n:Nat}{R:Out->Prop}{ρ:List PV}
@[simp]theorem run_prim{p:Prim}{t:Tree}:Run P C n (.prim p t) ρ R↔∃v,p.run P ρ=some v/\Run P C n t (ρ++[v]) R:=by
 refine⟨λh=>by exact h.prim,λ⟨v,h,k⟩ ω=>?_⟩;obtain⟨o,ho,hR⟩:=k ω;exact⟨o,by simp only[eval,h];exact ho,hR⟩
@[simp]theorem run_ret{v:PE}:Run P C n (.ret v) ρ R↔R (.val (v.den ρ)):=by
 refine⟨λh=>?_,λh ω=>⟨_,rfl,h⟩⟩;obtain⟨o,ho,hR⟩:=h orc0;simp only[eval,Option.some.injEq]at ho;subst ho;exact hR
@[simp]theorem run_jump{L:Nat}{l:List PE}:Run P C n (.jump L l) ρ R↔R (.jump L (denL ρ l)):=by
 refine⟨λh=>?_,λh ω=>⟨_,rfl,h⟩⟩;obtain⟨o,ho,hR⟩:=h orc0;simp only[eval,Option.some.injEq]at ho;subst ho;exact hR
def PIf(x:Bool)(A B:Prop):Prop:=(x=true->A)/\(x=false->B)
theorem pif{x:Bool}{A B:Prop}(h:x=true->A)(k:x=false->B):PIf x A B:=⟨h,k⟩
@[simp]theorem pif_true{A B:Prop}:PIf true A B↔A:=by simp[PIf]
@[simp]theorem pif_false{A B:Prop}:PIf false A B↔B:=by simp[PIf]
def PIfV(v:PV)(A B:Prop):Prop:=(v=.bool true/\A)\/(v=.bool false/\B)
@[simp]theorem pifv_bool{b:Bool}{A B:Prop}:PIfV (.bool b) A B↔PIf b A B:=by cases b<;>simp[PIfV,PIf]
@[simp]theorem run_ite{c:SE}{a b:Tree}:Run P C n (.ite c a b) ρ R↔PIfV (c.den ρ) (Run P C n a ρ R) (Run P C n b ρ R):=by
 refine⟨λh=>by exact h.ite,λh ω=>?_⟩;rcases h with⟨h,k⟩|⟨h,k⟩
 ·obtain⟨o,ho,hR⟩:=k ω;exact⟨o,by simp only[eval,h];exact ho,hR⟩
 ·obtain⟨o,ho,hR⟩:=k ω;exact⟨o,by simp only[eval,h];exact ho,hR⟩
theorem mk_call{g:FuncId}{args:List PE}{t:Tree}{Q:PV->Prop}(h:∀ω,∃v,C ω g (denL ρ args)=some v/\Q v)(k:∀v,Q v->Run P C n t (ρ++[v]) R):Run P C n (.call g args t) ρ R:=by
 intro ω;obtain⟨v,h1,h2⟩:=h ω.l;obtain⟨o,ho,hR⟩:=k v h2 ω.r;exact⟨o,by simp only[eval,h1];exact ho,hR⟩
theorem mk_join{L:Nat}{b k:Tree}(J:List PV->Prop)(h:Run P C n b ρ (atL L J R))(hk:∀vs,J vs->Run P C n k (ρ++vs) R):Run P C n (.join L b k) ρ R:=by
 intro ω;obtain⟨o,ho,hR⟩:=h ω.l;cases o with
 |val v=>exact⟨_,by simp only[eval,ho],hR⟩
 |jump L' vs=>
  by_cases e:L'=L
  ·subst e;simp only[atL,if_true]at hR;obtain⟨o',ho',hR'⟩:=hk vs hR ω.r;exact⟨o',by simp only[eval,ho,if_true];exact ho',hR'⟩
  ·simp only[atL,if_neg e]at hR;exact⟨_,by simp only[eval,ho,if_neg e],hR⟩
theorem mk_loop{L:Nat}{init:List PE}{b:Tree}(I:Nat->List PV->Prop)(N:Nat)(hN:N<n)(h0:I N (denL ρ init))(hs:∀j vs,I j vs->Run P C n b (ρ++vs) (atL L (λvs'=>∃j',j'<j/\I j' vs') R)):Run P C n (.loop L init b) ρ R:=by
 have key:∀k j vs,j<k->I j vs->∀ω,∃o,iter (λω vs=>eval P C n b ω (ρ++vs)) L k ω vs=some o/\R o:=by
  intro k;induction k with
  |zero=>intro j vs h;omega
  |succ k ih=>
   intro j vs hj hI ω;obtain⟨o,ho,hR⟩:=hs j vs hI ω.l;cases o with
   |val v=>exact⟨_,by simp only[iter,ho],hR⟩
   |jump L' vs'=>
    by_cases e:L'=L
    ·subst e;simp only[atL,if_true]at hR;obtain⟨j',hlt,hI'⟩:=hR;obtain⟨o',ho',hR'⟩:=ih j' vs' (by omega) hI' ω.r;exact⟨o',by simp only[iter,ho,if_true];exact ho',hR'⟩
    ·simp only[atL,if_neg e]at hR;exact⟨_,by simp only[iter,ho,if_neg e],hR⟩
 intro ω;obtain⟨o,ho,hR⟩:=key n N _ hN h0 ω;exact⟨o,by simp only[eval];exact ho,hR⟩
@[simp]theorem atL_same{L:Nat}{J:List PV->Prop}{vs:List PV}:atL L J R (.jump L vs)↔J vs:=by simp[atL]
theorem atL_other{L L':Nat}{J:List PV->Prop}{vs:List PV}(h:L'≠L):atL L J R (.jump L' vs)↔R (.jump L' vs):=by simp[atL,h]
@[simp]theorem atL_val{L:Nat}{J:List PV->Prop}{v:PV}:atL L J R (.val v)↔R (.val v):=by simp[atL]
end
abbrev CE:=Nat->Orc->FuncId->List PV->Option PV
def EvC(C:CE)(k:Nat)(g:FuncId)(args:List PV)(Q:PV->Prop):Prop:=∀ω,∃v,C k ω g args=some v/\Q v
theorem EvC.mono{C:CE}{k:Nat}{g:FuncId}{args:List PV}{Q Q':PV->Prop}(h:EvC C k g args Q)(hq:∀v,Q v->Q' v):EvC C k g args Q':=λω=>by
 obtain⟨v,h1,h2⟩:=h ω;exact⟨v,h1,hq v h2⟩
abbrev Ev:=EvC (E Try.prog)
theorem ev_of{k:Nat}{g:FuncId}{args:List PV}{t:Tree}{fn:Func}{Q:PV->Prop}(ht:tab g=some t)(hf:Try.prog.funcs[g]?=some fn)(hfit:fitArgs (flagsOf 23 fn) args=true)(h:Run Try.prog (E Try.prog k) 4096 t args λo=>∃v,o=.val v/\v.plain=true/\Q v):Ev (k+1) g args Q:=by
 intro ω;obtain⟨o,ho,v,rfl,hp,hQ⟩:=h ω;refine⟨v,?_,hQ⟩;unfold E;simp only[evalF,ht,hf,hfit,if_true];have h':=ho;unfold E at h';rw[h'];simp[hp]
attribute [simp] Prim.run PE.den SE.den denL projV extV aggV oneV lencV chkV getV putV pushV mkV mmV derefV aTail List.getD_cons_succ List.getD_cons_zero
@[simp]theorem one_int{k:IntKind}{x:Int}:(PV.int k x).one=true:=rfl
@[simp]theorem one_bool{b:Bool}:(PV.bool b).one=true:=rfl
@[simp]theorem one_snil:PV.snil.one=true:=rfl
@[simp]theorem one_sl{id:Option Nat}{a b c:Nat}{l:List PV}:(PV.sl id a b c l).one=true:=rfl
@[simp]theorem one_fn{f:FuncId}{l:List PV}:(PV.fn f l).one=true:=rfl
@[simp]theorem one_agg{l:List PV}:(PV.agg l).one=false:=rfl
@[simp]theorem plain_int{k:IntKind}{x:Int}:(PV.int k x).plain=true:=by simp[PV.plain]
@[simp]theorem plain_bool{b:Bool}:(PV.bool b).plain=true:=by simp[PV.plain]
@[simp]theorem plain_snil:PV.snil.plain=true:=by simp[PV.plain]
@[simp]theorem plain_sl{a b c:Nat}{l:List PV}:(PV.sl none a b c l).plain=plainC l:=by simp[PV.plain]
@[simp]theorem plain_agg{l:List PV}:(PV.agg l).plain=plainC l:=by simp[PV.plain]
@[simp]theorem plain_tup{l:List PV}:(PV.tup l).plain=plainT l:=by simp[PV.plain]
@[simp]theorem plain_fn{f:FuncId}{l:List PV}:(PV.fn f l).plain=plainC l:=by simp[PV.plain]
@[simp]theorem plain_eref{o:Nat}{l:List PV}:(PV.eref none o l).plain=plainC l:=by simp[PV.plain]
attribute [simp] plainC plainT
abbrev iv(n:Int):PV:=.int .i64 n
abbrev bv(b:Bool):PV:=.bool b
section
variable{P:Program}{t:TypeId}{k:IntKind}{a b:Int}
@[simp]theorem aBin_add:aBin P .add t (.int k a) (.int k b)=some (.int k (k.wrap (a+b))):=by simp[aBin]
@[simp]theorem aBin_sub:aBin P .sub t (.int k a) (.int k b)=some (.int k (k.wrap (a-b))):=by simp[aBin]
@[simp]theorem aBin_mul:aBin P .mul t (.int k a) (.int k b)=some (.int k (k.wrap (a*b))):=by simp[aBin]
@[simp]theorem aBin_eql:aBin P .eql t (.int k a) (.int k b)=some (.bool (decide (a=b))):=by simp[aBin]
@[simp]theorem aBin_neq:aBin P .neq t (.int k a) (.int k b)=some (.bool (decide (a≠b))):=by simp[aBin]
@[simp]theorem aBin_lss:aBin P .lss t (.int k a) (.int k b)=some (.bool (decide (a<b))):=by simp[aBin]
@[simp]theorem aBin_leq:aBin P .leq t (.int k a) (.int k b)=some (.bool (decide (a<=b))):=by simp[aBin]
@[simp]theorem aBin_gtr:aBin P .gtr t (.int k a) (.int k b)=some (.bool (decide (b<a))):=by simp[aBin]
@[simp]theorem aBin_geq:aBin P .geq t (.int k a) (.int k b)=some (.bool (decide (b<=a))):=by simp[aBin]
theorem aBin_rem(h:b≠0):aBin P .rem t (.int k a) (.int k b)=some (.int k (a.tmod b)):=by simp[aBin,h]
theorem aBin_quo(h:b≠0):aBin P .quo t (.int k a) (.int k b)=some (.int k (k.wrap (a.tdiv b))):=by simp[aBin,h]
@[simp]theorem aUn_not{x:Bool}:aUn .not (.bool x)=some (.bool !x):=rfl
end
theorem wrap64{n:Int}(h1:-9223372036854775808<=n)(h2:n<=9223372036854775807):IntKind.i64.wrap n=n:=by
 simp[IntKind.wrap,IntKind.bits,IntKind.signed];omega
theorem wrapU64{n:Int}(h1:0<=n)(h2:n<18446744073709551616):IntKind.u64.wrap n=n:=by
 simp[IntKind.wrap,IntKind.bits,IntKind.signed];omega
def nth:List PV->Nat->PV
 |[],_=>.bad
 |a::_,0=>a
 |_::l,n+1=>nth l n
theorem nth_eq:∀(l:List PV)(i:Nat),nth l i=l.getD i .bad
 |[],i=>by simp[nth]
 |a::l,0=>rfl
 |a::l,i+1=>by simpa[nth]using nth_eq l i
def SE.dn(d:Nat)(st:List PV):SE->PV
 |.var i=>nth (.bad::st) (d-i)
 |.proj e j=>projV (e.dn d st) j
 |.cst v=>v
mutual
def PE.dn(d:Nat)(st:List PV):PE->PV
 |.e x=>x.dn d st
 |.agg l=>.agg (dnL d st l)
 |.tup l=>.tup (dnL d st l)
 |.lit sz len l=>.sl none sz 0 len (dnL d st l)
 |.fn f l=>.fn f (dnL d st l)
 |.ref l=>.eref none 0 (dnL d st l)
def dnL(d:Nat)(st:List PV):List PE->List PV
 |[]=>[]
 |x::l=>x.dn d st::dnL d st l
end
theorem SE.dn_eq{d:Nat}{st:List PV}(h:st.length=d):∀x:SE,x.dn d st=x.den st.reverse
 |.var i=>by
  simp only[SE.dn,SE.den,nth_eq];rcases Nat.lt_or_ge i d with hi|hi
  ·rw[show d-i=(d-1-i)+1 by omega,List.getD_cons_succ];simp only[List.getD_eq_getElem?_getD];rw[List.getElem?_reverse (by omega),h]
  ·have e1:d-i=0:=by omega
   have e2:st.reverse[i]?=none:=List.getElem?_eq_none (by simp;omega);simp[e1,e2,List.getD_eq_getElem?_getD]
 |.proj e j=>by simp only[SE.dn,SE.den,SE.dn_eq h e]
 |.cst v=>rfl
mutual
theorem PE.dn_eq{d:Nat}{st:List PV}(h:st.length=d):∀x:PE,x.dn d st=x.den st.reverse
 |.e x=>by simp only[PE.dn,PE.den,SE.dn_eq h]
 |.agg l=>by simp only[PE.dn,PE.den,dnL_eq h l]
 |.tup l=>by simp only[PE.dn,PE.den,dnL_eq h l]
 |.lit sz len l=>by simp only[PE.dn,PE.den,dnL_eq h l]
 |.fn f l=>by simp only[PE.dn,PE.den,dnL_eq h l]
 |.ref l=>by simp only[PE.dn,PE.den,dnL_eq h l]
theorem dnL_eq{d:Nat}{st:List PV}(h:st.length=d):∀l:List PE,dnL d st l=denL st.reverse l
 |[]=>rfl
 |x::l=>by simp only[dnL,denL,PE.dn_eq h x,dnL_eq h l]
end
def Prim.rn(P:Program)(d:Nat)(st:List PV):Prim->Option PV
 |.bin op t x y=>aBin P op t (x.dn d st) (y.dn d st)
 |.un op x=>aUn op (x.dn d st)
 |.conv s t x=>aConv P s t (x.dn d st)
 |.ext x i=>extV (x.dn d st) i
 |.agg n x=>aggV n (x.dn d st)
 |.one x=>oneV (x.dn d st)
 |.row sz x i=>rowV sz (x.dn d st) (i.dn d st)
 |.idx t x i=>aIndex P t (x.dn d st) (i.dn d st)
 |.len t x=>aLen P t (x.dn d st)
 |.slice t x lo hi=>aSlice P t (x.dn d st) (lo.map (PE.dn d st)) (hi.map (PE.dn d st))
 |.mm mx l=>mmV mx (dnL d st l)
 |.lst l=>some (.agg (dnL d st l))
 |.mk z b n=>mkV z b (n.dn d st)
 |.chk sz c i=>chkV sz (c.dn d st) (i.dn d st)
 |.get sz fo n c i=>getV sz fo n (c.dn d st) (i.dn d st)
 |.put sz fo c i l=>putV sz fo (c.dn d st) (i.dn d st) (dnL d st l)
 |.push sz b c y=>pushV sz b (c.dn d st) (y.dn d st)
 |.lenc sz c=>lencV sz (c.dn d st)
 |.frz sz b c=>frzV st.reverse sz b (c.dn d st)
 |.deref n x=>derefV n (x.dn d st)
 |.cont r sz x=>contV r sz (x.dn d st)
 |.isnil x=>isnilV (x.dn d st)
 |.ints x=>intsV (x.dn d st)
 |.ins kt sz c l=>insV P kt sz (c.dn d st) (dnL d st l)
 |.keys sz x=>keysV sz (x.dn d st)
 |.lk sz c=>lkV sz (c.dn d st)
 |.tl c=>tlV (c.dn d st)
 |.srt c=>srtV (c.dn d st)
 |.cpt b c=>cptV st.reverse b (c.dn d st)
 |.aoff fo m sz x i=>aoffV fo m sz (x.dn d st) (i.dn d st)
 |.tset t sc sz c k v=>tsetV P t sc sz (c.dn d st) (k.dn d st) (v.dn d st)
 |.tget t sc ok sz c k=>tgetV P t sc ok sz (c.dn d st) (k.dn d st)
 |.tgetf t sc ok x k=>tgetfV P t sc ok (x.dn d st) (k.dn d st)
 |.siter x=>siterV (x.dn d st)
 |.snx c=>snxV (c.dn d st)
theorem Prim.rn_eq{P:Program}{d:Nat}{st:List PV}(h:st.length=d)(p:Prim):p.rn P d st=p.run P st.reverse:=by
 have hf:PE.dn d st=PE.den st.reverse:=funext λx=>PE.dn_eq h x;cases p<;>simp only[Prim.rn,Prim.run,SE.dn_eq h,PE.dn_eq h,dnL_eq h,hf]
structure Rn(C:Orc->FuncId->List PV->Option PV)(n:Nat)(t:Tree)(d:Nat)(st:List PV)(R:Out->Prop):Prop where
 run:st.length=d->Run Try.prog C n t st.reverse R
def pushL:List PV->List PV->List PV
 |[],st=>st
 |v::vs,st=>pushL vs (v::st)
theorem pushL_len:∀(vs st:List PV),(pushL vs st).length=st.length+vs.length
 |[],st=>rfl
 |v::vs,st=>by simp only[pushL,pushL_len vs,List.length_cons];omega
theorem pushL_rev:∀(vs st:List PV),(pushL vs st).reverse=st.reverse++vs
 |[],st=>by simp[pushL]
 |v::vs,st=>by simp only[pushL,pushL_rev vs,List.reverse_cons,List.append_assoc,List.cons_append,List.nil_append]
theorem rn_of{k:Nat}{g:FuncId}{args:List PV}{t:Tree}{fn:Func}{Q:PV->Prop}(ht:tab g=some t)(hf:Try.prog.funcs[g]?=some fn)(hfit:fitArgs (flagsOf 23 fn) args=true)(h:Rn (E Try.prog k) 4096 t args.length (pushL args []) λo=>∃v,o=.val v/\v.plain=true/\Q v):Ev (k+1) g args Q:=ev_of ht hf hfit (by have:=h.run (by rw[pushL_len];simp);rwa[pushL_rev]at this)
theorem rn_norm{C:Orc->FuncId->List PV->Option PV}{n:Nat}{t:Tree}{d d':Nat}{st st':List PV}{R:Out->Prop}(hd:d=d')(hs:st=st')(k:Rn C n t d' st' R):Rn C n t d st R:=by subst hd hs;exact k
section
variable{C:Orc->FuncId->List PV->Option PV}{n:Nat}{R:Out->Prop}{d:Nat}{st:List PV}{t:Tree}
theorem wp{p:Prim}(v:PV)(h:p.rn Try.prog d st=some v)(k:Rn C n t (d+1) (v::st) R):Rn C n (.prim p t) d st R:=⟨λhl=>run_prim.2 ⟨v,by rw[←Prim.rn_eq hl,h],by have:=k.run (by simp[hl]);rwa[List.reverse_cons]at this⟩⟩
theorem wp_ext{x:PE}{i:Nat}{v:PV}(h:extV (x.dn d st) i=some v)(k:Rn C n t (d+1) (v::st) R):Rn C n (.prim (.ext x i) t) d st R:=wp v h k
theorem wp_agg{x:PE}{m:Nat}{cs:List PV}(h:x.dn d st=.agg cs)(hl:cs.length=m)(k:Rn C n t (d+1) (.agg cs::st) R):Rn C n (.prim (.agg m x) t) d st R:=wp _ (by simp[Prim.rn,h,aggV,hl]) k
theorem wp_one{x:PE}{v:PV}(h:x.dn d st=v)(ho:v.one=true)(k:Rn C n t (d+1) (v::st) R):Rn C n (.prim (.one x) t) d st R:=wp _ (by simp[Prim.rn,h,oneV,ho]) k
theorem wp_lst{l:List PE}(k:Rn C n t (d+1) (.agg (dnL d st l)::st) R):Rn C n (.prim (.lst l) t) d st R:=wp _ rfl k
theorem wp_addN{T:TypeId}{x y:PE}{a b:Nat}(hx:x.dn d st=iv a)(hy:y.dn d st=iv b)(hb:a+b<9223372036854775807)(k:Rn C n t (d+1) (iv ((a+b:Nat):Int)::st) R):Rn C n (.prim (.bin .add T x y) t) d st R:=wp _ (by simp[Prim.rn,hx,hy,wrap64 (n:=(a:Int)+b) (by omega) (by omega)]) k
theorem wp_subN{T:TypeId}{x y:PE}{a b:Nat}(hx:x.dn d st=iv a)(hy:y.dn d st=iv b)(hb:b<=a/\a<9223372036854775807)(k:Rn C n t (d+1) (iv ((a-b:Nat):Int)::st) R):Rn C n (.prim (.bin .sub T x y) t) d st R:=wp _ (by
 have e:(a:Int)-b=((a-b:Nat):Int):=by omega
 simp only[Prim.rn,hx,hy,aBin_sub,e];rw[wrap64 (by omega) (by omega)]) k
theorem wp_sub{T:TypeId}{x y:PE}{a b:Int}(hx:x.dn d st=iv a)(hy:y.dn d st=iv b)(h1:-9223372036854775808<=a-b)(h2:a-b<=9223372036854775807)(k:Rn C n t (d+1) (iv (a-b)::st) R):Rn C n (.prim (.bin .sub T x y) t) d st R:=wp _ (by simp[Prim.rn,hx,hy,wrap64 h1 h2]) k
theorem wp_add1{T:TypeId}{x y:PE}{a:Nat}(hx:x.dn d st=iv a)(hy:y.dn d st=iv 1)(hb:a<9223372036854775806)(k:Rn C n t (d+1) (iv ((a+1:Nat):Int)::st) R):Rn C n (.prim (.bin .add T x y) t) d st R:=wp_addN (a:=a) (b:=1) hx hy (by omega) k
theorem wp_sub1{T:TypeId}{x y:PE}{a:Nat}(hx:x.dn d st=iv a)(hy:y.dn d st=iv 1)(hb:1<=a/\a<9223372036854775807)(k:Rn C n t (d+1) (iv ((a-1:Nat):Int)::st) R):Rn C n (.prim (.bin .sub T x y) t) d st R:=wp_subN (a:=a) (b:=1) hx hy (by omega) k
theorem wp_eql{T:TypeId}{x y:PE}{i:IntKind}{a b:Int}(hx:x.dn d st=.int i a)(hy:y.dn d st=.int i b)(k:Rn C n t (d+1) (.bool (decide (a=b))::st) R):Rn C n (.prim (.bin .eql T x y) t) d st R:=wp _ (by simp[Prim.rn,hx,hy]) k
theorem wp_neq{T:TypeId}{x y:PE}{i:IntKind}{a b:Int}(hx:x.dn d st=.int i a)(hy:y.dn d st=.int i b)(k:Rn C n t (d+1) (.bool (decide (a≠b))::st) R):Rn C n (.prim (.bin .neq T x y) t) d st R:=wp _ (by simp[Prim.rn,hx,hy]) k
theorem wp_lss{T:TypeId}{x y:PE}{i:IntKind}{a b:Int}(hx:x.dn d st=.int i a)(hy:y.dn d st=.int i b)(k:Rn C n t (d+1) (.bool (decide (a<b))::st) R):Rn C n (.prim (.bin .lss T x y) t) d st R:=wp _ (by simp[Prim.rn,hx,hy]) k
theorem wp_leq{T:TypeId}{x y:PE}{i:IntKind}{a b:Int}(hx:x.dn d st=.int i a)(hy:y.dn d st=.int i b)(k:Rn C n t (d+1) (.bool (decide (a<=b))::st) R):Rn C n (.prim (.bin .leq T x y) t) d st R:=wp _ (by simp[Prim.rn,hx,hy]) k
theorem wp_gtr{T:TypeId}{x y:PE}{i:IntKind}{a b:Int}(hx:x.dn d st=.int i a)(hy:y.dn d st=.int i b)(k:Rn C n t (d+1) (.bool (decide (b<a))::st) R):Rn C n (.prim (.bin .gtr T x y) t) d st R:=wp _ (by simp[Prim.rn,hx,hy]) k
theorem wp_geq{T:TypeId}{x y:PE}{i:IntKind}{a b:Int}(hx:x.dn d st=.int i a)(hy:y.dn d st=.int i b)(k:Rn C n t (d+1) (.bool (decide (b<=a))::st) R):Rn C n (.prim (.bin .geq T x y) t) d st R:=wp _ (by simp[Prim.rn,hx,hy]) k
theorem wp_not{x:PE}{a:Bool}(hx:x.dn d st=.bool a)(k:Rn C n t (d+1) (.bool (!a)::st) R):Rn C n (.prim (.un .not x) t) d st R:=wp _ (by simp[Prim.rn,hx]) k
theorem wp_min{x y:PE}{a b:Int}(hx:x.dn d st=iv a)(hy:y.dn d st=iv b)(k:Rn C n t (d+1) (iv (if b<a then b else a)::st) R):Rn C n (.prim (.mm false [x,y]) t) d st R:=wp _ (by simp[Prim.rn,dnL,hx,hy,aMin]) k
theorem wp_max{x y:PE}{a b:Int}(hx:x.dn d st=iv a)(hy:y.dn d st=iv b)(k:Rn C n t (d+1) (iv (if a<b then b else a)::st) R):Rn C n (.prim (.mm true [x,y]) t) d st R:=wp _ (by simp[Prim.rn,dnL,hx,hy,aMax]) k
theorem wp_iteT{c:SE}{a b:Tree}(h:c.dn d st=.bool true)(k:Rn C n a d st R):Rn C n (.ite c a b) d st R:=⟨λhl=>run_ite.2 (.inl ⟨by rw[←SE.dn_eq hl];exact h,k.run hl⟩)⟩
theorem wp_iteF{c:SE}{a b:Tree}(h:c.dn d st=.bool false)(k:Rn C n b d st R):Rn C n (.ite c a b) d st R:=⟨λhl=>run_ite.2 (.inr ⟨by rw[←SE.dn_eq hl];exact h,k.run hl⟩)⟩
theorem wp_iteB{c:SE}{a b:Tree}{x:Bool}(h:c.dn d st=.bool x)(k1:x=true->Rn C n a d st R)(k2:x=false->Rn C n b d st R):Rn C n (.ite c a b) d st R:=by
 cases x
 ·exact wp_iteF h (k2 rfl)
 ·exact wp_iteT h (k1 rfl)
theorem wp_iteP{c:SE}{a b:Tree}{p:Prop}[inst:Decidable p](h:c.dn d st=.bool (decide p))(k1:p->Rn C n a d st R)(k2:¬p->Rn C n b d st R):Rn C n (.ite c a b) d st R:=wp_iteB h (λe=>k1 (of_decide_eq_true e)) (λe=>k2 (of_decide_eq_false e))
theorem wp_itePT{c:SE}{a b:Tree}{p:Prop}[inst:Decidable p](h:c.dn d st=.bool (decide p))(hp:p)(k:Rn C n a d st R):Rn C n (.ite c a b) d st R:=wp_iteT (by rw[h,decide_eq_true hp]) k
theorem wp_itePF{c:SE}{a b:Tree}{p:Prop}[inst:Decidable p](h:c.dn d st=.bool (decide p))(hp:¬p)(k:Rn C n b d st R):Rn C n (.ite c a b) d st R:=wp_iteF (by rw[h,decide_eq_false hp]) k
theorem wp_jump{L:Nat}{l:List PE}{J:List PV->Prop}(h:J (dnL d st l)):Rn C n (.jump L l) d st (atL L J R):=⟨λhl=>run_jump.2 (atL_same.2 (by rw[←dnL_eq hl];exact h))⟩
theorem wp_jumpO{L L':Nat}{l:List PE}{J:List PV->Prop}(hn:L'≠L)(h:Rn C n (.jump L' l) d st R):Rn C n (.jump L' l) d st (atL L J R):=⟨λhl=>run_jump.2 ((atL_other hn).2 (run_jump.1 (h.run hl)))⟩
end
theorem wp_ret{C:Orc->FuncId->List PV->Option PV}{n:Nat}{d:Nat}{st:List PV}{x:PE}{v:PV}{Q:PV->Prop}(h:x.dn d st=v)(hp:v.plain=true)(hq:Q v):Rn C n (.ret x) d st λo=>∃v,o=.val v/\v.plain=true/\Q v:=⟨λhl=>run_ret.2 ⟨v,by rw[←PE.dn_eq hl,h],hp,hq⟩⟩
theorem jb_eq{p q:Prop}[Decidable p][Decidable q](h:p↔q):[PV.bool (decide p)]=[PV.bool (decide q)]:=by rw[decide_eq_decide.2 h]
theorem jb_t{q:Prop}[Decidable q](h:q):[PV.bool true]=[PV.bool (decide q)]:=by rw[decide_eq_true h]
theorem jb_f{q:Prop}[Decidable q](h:¬q):[PV.bool (decide q)]=[PV.bool false]:=by rw[decide_eq_false h]
theorem jb_fd{q:Prop}[Decidable q](h:¬q):[PV.bool false]=[PV.bool (decide q)]:=by rw[decide_eq_false h]
def jb:Tree->Tree
 |.join _ b _=>b
 |t=>t
theorem mk_ev{C:CE}{n k:Nat}{R:Out->Prop}{ρ:List PV}{g:FuncId}{args:List PV}{es:List PE}{t:Tree}{Q:PV->Prop}(h:EvC C k g args Q)(e:denL ρ es=args)(kk:∀v,Q v->Run Try.prog (C k) n t (ρ++[v]) R):Run Try.prog (C k) n (.call g es t) ρ R:=mk_call (by rw[e];exact h) kk
theorem wp_call{C:CE}{n k:Nat}{R:Out->Prop}{d:Nat}{st:List PV}{g:FuncId}{args:List PV}{es:List PE}{t:Tree}{Q:PV->Prop}(h:EvC C k g args Q)(e:dnL d st es=args)(kk:∀v,Q v->Rn (C k) n t (d+1) (v::st) R):Rn (C k) n (.call g es t) d st R:=⟨λhl=>mk_ev h (by rw[←dnL_eq hl];exact e) λv hv=>by have:=(kk v hv).run (by simp[hl]);rwa[List.reverse_cons]at this⟩
theorem wp_callE{C:CE}{n k:Nat}{R:Out->Prop}{d:Nat}{st:List PV}{g:FuncId}{args:List PV}{es:List PE}{t:Tree}{w:PV}(h:EvC C k g args λv=>v=w)(e:dnL d st es=args)(kk:Rn (C k) n t (d+1) (w::st) R):Rn (C k) n (.call g es t) d st R:=wp_call h e λv hv=>by rw[hv];exact kk
theorem wp_join{C:Orc->FuncId->List PV->Option PV}{n:Nat}{R:Out->Prop}{d:Nat}{st:List PV}{L:Nat}{b k:Tree}(J:List PV->Prop)(h:Rn C n b d st (atL L J R))(hk:∀vs,J vs->Rn C n k (d+vs.length) (pushL vs st) R):Rn C n (.join L b k) d st R:=⟨λhl=>mk_join J (h.run hl) λvs hv=>by have:=(hk vs hv).run (by rw[pushL_len,hl]);rwa[pushL_rev]at this⟩
theorem wp_loop{C:Orc->FuncId->List PV->Option PV}{n:Nat}{R:Out->Prop}{d:Nat}{st:List PV}{L:Nat}{init:List PE}{b:Tree}(I:Nat->List PV->Prop)(N:Nat)(hN:N<n)(h0:I N (dnL d st init))(hs:∀j vs,I j vs->Rn C n b (d+vs.length) (pushL vs st) (atL L (λvs'=>∃j',j'<j/\I j' vs') R)):Rn C n (.loop L init b) d st R:=⟨λhl=>mk_loop I N hN (by rw[←dnL_eq hl];exact h0) λj vs hv=>by have:=(hs j vs hv).run (by rw[pushL_len,hl]);rwa[pushL_rev]at this⟩
section
variable{C:Orc->FuncId->List PV->Option PV}{n:Nat}{R:Out->Prop}{d:Nat}{st:List PV}{t:Tree}
theorem un9:Try.prog.underlying 9=some .string:=by kernel_rfl
theorem un22:Try.prog.underlying 22=some (.slice 3):=by kernel_rfl
def isS(P:Program)(t:TypeId):Bool:=match P.underlying t with
 |some (.slice _)=>true
 |_=>false
theorem is22:isS Try.prog 22=true:=by kernel_rfl
theorem is25:isS Try.prog 25=true:=by kernel_rfl
theorem is26:isS Try.prog 26=true:=by kernel_rfl
theorem is30:isS Try.prog 30=true:=by kernel_rfl
theorem is32:isS Try.prog 32=true:=by kernel_rfl
theorem is37:isS Try.prog 37=true:=by kernel_rfl
theorem is38:isS Try.prog 38=true:=by kernel_rfl
theorem is41:isS Try.prog 41=true:=by kernel_rfl
theorem is50:isS Try.prog 50=true:=by kernel_rfl
theorem len_sl{T:TypeId}(hT:isS Try.prog T=true){sz off m:Nat}{cs:List PV}:aLen Try.prog T (.sl none sz off m cs)=some (iv m):=by
 unfold isS at hT;split at hT
 ·rename_i e h;simp[aLen,h]
 ·cases hT
theorem wp_lenS{T:TypeId}{x:PE}{sz off m:Nat}{cs:List PV}(hT:isS Try.prog T=true)(hx:x.dn d st=.sl none sz off m cs)(k:Rn C n t (d+1) (iv m::st) R):Rn C n (.prim (.len T x) t) d st R:=wp _ (by simp only[Prim.rn,hx,len_sl hT]) k
theorem wp_len9{x:PE}{s:ByteArray}(hx:x.dn d st=.str s)(k:Rn C n t (d+1) (iv s.size::st) R):Rn C n (.prim (.len 9 x) t) d st R:=wp _ (by simp[Prim.rn,hx,aLen,un9]) k
theorem wp_rowS{sz:Nat}{x i:PE}{off m a:Nat}{cs r:List PV}(hx:x.dn d st=.sl none sz off m cs)(hi:i.dn d st=iv a)(ha:a<m)(hr:(cs.drop (a*sz)).take sz=r)(hl:r.length=sz)(k:Rn C n t (d+1) (.agg r::st) R):Rn C n (.prim (.row sz x i) t) d st R:=wp _ (by
 simp only[Prim.rn,hx,hi,rowV,Int.toNat_natCast,hr];rw[if_pos ⟨by omega,by omega,trivial,hl⟩]) k
theorem row_map{α:Type}[Inhabited α]{f:α->PV}{l:List α}{a:Nat}(ha:a<l.length):((l.map f).drop (a*1)).take 1=[f (l.getD a default)]:=by
 rw[Nat.mul_one,List.drop_eq_getElem_cons (by simpa using ha)];simp[List.getD_eq_getElem?_getD,ha]
theorem wp_rowM{α:Type}[Inhabited α]{f:α->PV}{x i:PE}{off a:Nat}{l:List α}(hx:x.dn d st=.sl none 1 off l.length (l.map f))(hi:i.dn d st=iv a)(ha:a<l.length)(k:Rn C n t (d+1) (.agg [f (l.getD a default)]::st) R):Rn C n (.prim (.row 1 x i) t) d st R:=wp_rowS hx hi ha (row_map ha) rfl k
theorem wp_and{k':IntKind}{T:TypeId}{x y:PE}{a b:Int}(hx:x.dn d st=.int k' a)(hy:y.dn d st=.int k' b)(k:Rn C n t (d+1) (.int k' (bits .and k' a b)::st) R):Rn C n (.prim (.bin .and T x y) t) d st R:=wp _ (by simp[Prim.rn,hx,hy,aBin]) k
theorem wp_push1{b:Nat}{c:SE}{y:PE}{cs:List PV}{v:PV}(hc:c.dn d st=.agg cs)(hy:y.dn d st=.sl none 1 0 1 [v])(hb:b<=64)(hl:cs.length<1000000)(k:Rn C n t (d+1) (.agg (cs++[v])::st) R):Rn C n (.prim (.push 1 b c y) t) d st R:=wp _ (by
 simp only[Prim.rn,hc,hy,pushV,aTail];have h1:(cs.length+1)*b<=(cs.length+1)*64:=Nat.mul_le_mul_left _ hb;simp only[List.length_cons,List.length_nil,Nat.div_one];simp;omega) k
def frzN(sz:Nat)(cs:List PV):PV:=match cs with
 |[]=>.snil
 |_=>.sl none sz 0 (cs.length/sz) cs
theorem wp_frzP{sz:Nat}{c:SE}{cs:List PV}(hc:c.dn d st=.agg cs)(k:Rn C n t (d+1) (frzN sz cs::st) R):Rn C n (.prim (.frz sz .nil0 c) t) d st R:=wp _ (by
 simp only[Prim.rn,hc,frzV,isNil];cases cs<;>rfl) k
theorem frzN_plain{sz:Nat}{cs:List PV}(h:plainC cs=true):(frzN sz cs).plain=true/\(frzN sz cs).one=true:=by
 cases cs with
 |nil=>exact⟨rfl,rfl⟩
 |cons a l=>exact⟨by simp only[frzN,plain_sl];exact h,rfl⟩
theorem frzN_len{T:TypeId}(hT:isS Try.prog T=true){sz:Nat}{cs:List PV}:aLen Try.prog T (frzN sz cs)=some (iv ((cs.length/sz:Nat):Int)):=by
 cases cs with
 |nil=>
  unfold isS at hT;split at hT
  ·rename_i e h;simp[frzN,aLen,h]
  ·cases hT
 |cons a l=>exact len_sl hT
theorem wp_lenN{T:TypeId}{x:PE}{sz:Nat}{cs:List PV}(hT:isS Try.prog T=true)(hx:x.dn d st=frzN sz cs)(k:Rn C n t (d+1) (iv ((cs.length/sz:Nat):Int)::st) R):Rn C n (.prim (.len T x) t) d st R:=wp _ (by simp only[Prim.rn,hx,frzN_len hT]) k
end
end
section
open Go Go.RowKit
theorem unU64:Try.prog.underlying 56=some (.int .u64):=by kernel_rfl
theorem unInt:Try.prog.underlying 3=some (.int .i64):=by kernel_rfl
abbrev dv:PV:=.ptr 0 0
theorem ev20(k:Nat):Ev (k+1) 20 [dv] λv=>∃x:Int,v=.int .u64 x/\0<=x/\x<4294967296:=by
 intro ω;refine⟨.int .u64 ((ω []%4294967296:Nat):Int),by simp[E,evalF,show tab 20=none from rfl,rollC],_,rfl,by omega,by omega⟩
theorem ev9(k:Nat)(n:Int)(hn:n<4294967295)(hn':-9223372036854775808<=n):Ev (k+2) 9 [dv,iv n] λv=>∃x,v=iv x/\0<=x/\x<=max n 0:=by
 refine ev_of (t:=t9) (by kernel_rfl) (fn:=Try.f9) (by kernel_rfl) rfl ?_;simp[t9,tv,tp,tn];refine pif (λh=>?_) (λh=>?_)<;>simp at h
 ·omega
 ·refine mk_call (ev20 k) ?_;rintro v ⟨x,rfl,hx1,hx2⟩;have e1:IntKind.i64.wrap (n+1)=n+1:=wrap64 (by omega) (by omega);have e2:IntKind.u64.wrap (n+1)=n+1:=wrapU64 (by omega) (by omega);have hb:x*(n+1)<4294967296*(n+1):=Int.mul_lt_mul_of_pos_right hx2 (by omega);have hb0:0<=x*(n+1):=Int.mul_nonneg hx1 (by omega);have e3:IntKind.u64.wrap (x*(n+1))=x*(n+1):=wrapU64 hb0 (by omega);have hq:0<=(x*(n+1)).fdiv 4294967296/\(x*(n+1)).fdiv 4294967296<=n:=by
   rw[Int.fdiv_eq_ediv_of_nonneg _ (by decide)];omega
  have e4:IntKind.i64.wrap ((x*(n+1)).fdiv 4294967296)=(x*(n+1)).fdiv 4294967296:=wrap64 (by omega) (by omega);simp[aConv,unU64,unInt,e1,e2,e3,aBin,IntKind.bits,e4,PV.plain];exact⟨hq.1,by omega⟩
theorem ev8(k:Nat)(lo hi:Int)(h0:0<=hi-lo)(h1:hi-lo<4294967295)(h2:-1000000<=lo)(h3:lo<=1000000):Ev (k+3) 8 [dv,iv lo,iv hi] λv=>∃x,v=iv x/\lo<=x/\x<=hi:=by
 refine ev_of (t:=t8) (by kernel_rfl) (fn:=Try.f8) (by kernel_rfl) rfl ?_;simp[t8,tv,tp,tn,wrap64 (n:=hi-lo) (by omega) (by omega)];refine mk_call (ev9 k (hi-lo) (by omega) (by omega)) ?_;rintro v ⟨x,rfl,hx1,hx2⟩;simp[wrap64 (n:=lo+x) (by omega) (by omega),PV.plain];omega
def b0(k:Nat):Nat:=match k with|0=>98|1=>100|2=>111|_=>45
def b1(k:Nat):Nat:=match k with|0=>100|1=>98|2=>111|_=>45
def c0(k:Nat):ByteArray:=match k with|0=>⟨#[98]⟩|1=>⟨#[100]⟩|2=>⟨#[111]⟩|_=>⟨#[45]⟩
def c1(k:Nat):ByteArray:=match k with|0=>⟨#[100]⟩|1=>⟨#[98]⟩|2=>⟨#[111]⟩|_=>⟨#[45]⟩
def ik(k:Nat):Int:=match k with|0=>9|1=>6|2=>12|_=>0
def mk'(k:Nat):Int:=match k with|0=>6|1=>9|2=>12|_=>0
def gl:PV:=.sl none 2 0 3 [.str ⟨#[98]⟩,iv 9,.str ⟨#[100]⟩,iv 6,.str ⟨#[111]⟩,iv 12]
def v5:PV:=.sl none 1 0 3 [.sl none 1 0 2 [iv 0,iv 1],.sl none 1 0 2 [iv 1,iv 0],.sl none 1 0 2 [iv 2,iv 2]]
theorem ev6(k:Nat):Ev (k+1) 6 [] λv=>v=gl:=λω=>⟨gl,by kernel_rfl,rfl⟩
theorem ev5(k:Nat):Ev (k+8) 5 [.agg [gl,.sl none 1 0 1 [.snil],.snil]] λv=>v=.tup [v5,iv 0]:=λω=>⟨_,by kernel_rfl,rfl⟩
theorem ev7(k:Nat):Ev (k+2) 7 [v5,v5] λv=>v=.bool true:=λω=>⟨_,by kernel_rfl,rfl⟩
theorem ev15(k:Nat):Ev (k+8) 15 [.agg [gl,.sl none 1 0 1 [.snil],.snil]] λv=>v=iv 0:=λω=>⟨_,by kernel_rfl,rfl⟩
theorem ev34(k:Nat):Ev (k+1) 34 [iv 0] λv=>v=.tup []:=λω=>⟨_,by kernel_rfl,rfl⟩
theorem ev10(k j:Nat):Ev (k+2) 10 [iv (ik j)] λv=>v=.tup [iv (mk' j),iv 0]:=by
 match j with
 |0=>exact λω=>⟨_,by kernel_rfl,rfl⟩
 |1=>exact λω=>⟨_,by kernel_rfl,rfl⟩
 |2=>exact λω=>⟨_,by kernel_rfl,rfl⟩
 |_+3=>exact λω=>⟨_,by kernel_rfl,rfl⟩
end
end Go.Proofs.Ytjfejoadcdoobaa
