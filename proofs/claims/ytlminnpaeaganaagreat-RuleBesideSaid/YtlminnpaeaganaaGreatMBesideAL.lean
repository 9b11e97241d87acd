/- Part of the proof of RuleBeside. No condition. -/
import Derived.Conc.WgGenN3
import Derived.Test.YtlminnpaeaganaaGreatMBesideAK
namespace Go.Proofs.YtlminnpaeaganaaGreat
set_option maxRecDepth 100000
set_option linter.all false
section
open Go Go.Conc Go.ConcN Go.RowKit Go.Conc.Lib Go.ConcR.Gen Go.ConcN.Gen
open Go.ConcR (KK wgBlock WgAt stA smA rd wr mk DC0)
abbrev KX(ty:TypeId)(Wg:Nat)(_ fB:World):Prop:=WgLive ty Wg fB
abbrev jb(P:Program)(ty:TypeId)(Wg:Nat)(Stop:Goroutine->World->Prop)(g:Goroutine):Prop:=∀w,WgLive ty Wg w->Goes P true (KX ty Wg) DC0 Stop 200 g w
section
variable(P:Program)(ty:TypeId)(Wg:Nat)
def wT(e:Mark)(iO:Goroutine->World->Prop)(g:Goroutine)(w:World):Prop:=
 g.status=.running/\∃g',stepG P true g w=.go g' w #[mk e]/\jb P ty Wg iO g'
def yS:List Mark->(Goroutine->World->Prop)->Goroutine->World->Prop
 |[],iO=>iO
 |e::es,iO=>wT P ty Wg e (yS es iO)
def Tg(iO:Goroutine->World->Prop)(g:Goroutine)(w:World):Prop:=
 g.status=.running/\∀v:Nat,v<2147483647->WgAt ty Wg w (v*KK) 0 ->
  ∃g',stepG P true g w=.go g' (w.setCell (stA Wg) (.int .u64 ((v+1)*KK))) #[rd (stA Wg),wr (stA Wg)] /\
   ∃ms,(ms=[.enable]\/ms=[.read (smA Wg),.enable])/\jb P ty Wg (yS P ty Wg ms iO) g'
variable(iO cY:Goroutine->World->Prop)
def ahw(g:Goroutine)(w:World):Prop:=
 g.status=.running/\(WgAt ty Wg w 0 0->∃g',stepG P true g w=.go g' w #[rd (stA Wg)]/\jb P ty Wg (yS P ty Wg [.enable,.acquire (stA Wg)] iO) g')
def T6(g:Goroutine)(w:World):Prop:=
 g.status=.running/\g.offers=none /\
  ((∃st,WgAt ty Wg w st 0)->stepG P true g w=.go { g with status:=.blocked } w #[]) /\
  (WgAt ty Wg w 0 1->∃g',stepG P true g w=.go g' (w.setCell (smA Wg) (.int .u32 0)) (semEvents (smA Wg))/\jb P ty Wg (ahw P ty Wg iO) g')
def ahx(af:Nat)(g:Goroutine)(w:World):Prop:=
 g.status=.running/\∀v:Nat,v<2147483648->WgAt ty Wg w (v*KK) 0 ->
  (v=af->∃g',stepG P true g w=.go g' (w.setCell (stA Wg) (.int .u64 (v*KK+1))) #[rd (stA Wg),wr (stA Wg)]/\∃ms,(ms=[]\/ms=[.write (smA Wg)])/\jb P ty Wg (yS P ty Wg ms (T6 P ty Wg iO)) g') /\
  (v≠af->∃g',stepG P true g w=.go g' w #[rd (stA Wg)]/\jb P ty Wg cY g')
def ahy(g:Goroutine)(w:World):Prop:=
 g.status=.running/\∀v:Nat,v<2147483648->WgAt ty Wg w (v*KK) 0->∃g',stepG P true g w=.go g' w #[rd (stA Wg)] /\
  (v=0->jb P ty Wg (yS P ty Wg [.enable,.acquire (stA Wg)] iO) g')/\(v≠0->jb P ty Wg (ahx P ty Wg iO cY v) g')
end
section
variable{L:WgLink}{Wg:Nat}{nz:Frame}{nA:Act}{jV:Array Oper}{nB:Nat}{m1:List Nat}{nC:List Item}{cs:List Frame}
set_option maxRecDepth 100000 in
set_option maxHeartbeats 8000000 in
theorem aac{P:Program}(H:WgLib P L):jb P L.tWg Wg (wT P L.tWg Wg .disable (Tg P L.tWg Wg λg _=>g=G (nz.at (nA.put ((jV[nB]?).bind (·.dst)) (.tuple #[])) (.inRegion jV m1::nC)) cs))
   (G ((base L.add).at ⟨#[.pointer (some ⟨Wg,0,none⟩),.int .i64 1,undef,undef,undef,undef,undef,undef,undef,undef,undef,undef,undef,undef,undef,undef,undef,undef,undef,undef,undef,undef,undef,undef,undef,undef,undef,undef,undef,undef,undef,undef,undef,undef,undef,undef,undef,undef,undef,undef,undef,undef,undef,undef,undef,undef,undef,undef,undef,undef,undef,undef,undef,undef,undef,undef,undef,undef,undef,undef,undef,undef,undef,undef,undef,undef,undef,undef,undef,undef,undef,undef,undef,undef,undef,undef,undef,undef,undef,undef,undef,undef,undef,undef,undef,undef,undef,undef,undef,undef,undef,undef,undef,undef,undef,undef,undef,undef,undef,undef,undef,undef,undef,undef,undef,undef,undef,undef,undef,undef,undef,undef,undef,undef,undef,undef,undef],[]⟩ [.code (body_add L)]) (nz.at nA (.inRegion jV (nB::m1)::nC)::cs)):=by
 lib_facts
 refine λw aw=>?_;simp only[body_add,addFn,Option.getD_some]
 u_c stepG_seq (λ_ r=>r) aw
 u_cond true (λ_ r=>r) aw
 u_c stepG_seq (λ_ r=>r) aw
 u_c stepG_seq (λ_ r=>r) aw
 u_reg (λ_ r=>r) aw
 u_op (λ_ r=>r) aw
 u_op (λ_ r=>r) aw
 u_c stepG_region_end (λ_ r=>r) aw
 u_cond false (λ_ r=>r) aw
 u_c stepG_skip (λ_ r=>r) aw
 u_c stepG_seq (λ_ r=>r) aw
 u_reg (λ_ r=>r) aw
 refine Goes.stop (λfB pP=>⟨rfl,_,stepG_mark0 .disable (by simp) rfl rfl (by k_ne) rfl H.f_disable (x_disable_n L) (x_disable_b L) (x_disable_x L) (x_disable_f L),λw aw=>?_⟩)
 walk_nrm
 u_c stepG_region_end (λ_ r=>r) aw
 u_reg (λ_ r=>r) aw
 u_defer (λ_ r=>r) aw
 u_c stepG_region_end (λ_ r=>r) aw
 u_c stepG_seq (λ_ r=>r) aw
 u_reg (λ_ r=>r) aw
 u_op (λ_ r=>r) aw
 u_c stepG_region_end (λ_ r=>r) aw
 u_c stepG_seq (λ_ r=>r) aw
 u_c stepG_seq (λ_ r=>r) aw
 u_reg (λ_ r=>r) aw
 u_bub (λ_ r=>r) aw
 u_c stepG_region_end (λ_ r=>r) aw
 u_cond false (λ_ r=>r) aw
 u_c stepG_skip (λ_ r=>r) aw
 u_c stepG_seq (λ_ r=>r) aw
 u_reg (λ_ r=>r) aw
 u_op (λ_ r=>r) aw
 u_op (λ_ r=>r) aw
 u_op (λ_ r=>r) aw
 u_op (λ_ r=>r) aw
 u_op (λ_ r=>r) aw
 u_op (λ_ r=>r) aw
 u_call H.f_uAdd (nm_uAdd L) uAddFn (λ_ r=>r) aw
 u_c stepG_seq (λ_ r=>r) aw
 u_reg (λ_ r=>r) aw
 u_op (λ_ r=>r) aw
 u_c stepG_region_end (λ_ r=>r) aw
 u_c stepG_seq (λ_ r=>r) aw
 u_reg (λ_ r=>r) aw
 u_op (λ_ r=>r) aw
 u_op (λ_ r=>r) aw
 u_op (λ_ r=>r) aw
 u_op (λ_ r=>r) aw
 refine Goes.stop (λvI ajg=>?_);clear aw;refine⟨rfl,λv ai hw=>?_⟩;rcases Nat.eq_zero_or_pos v with rfl|xz
 ·replace hw:WgAt L.tWg Wg vI 0 0:=by simpa using hw
  have z:(((0:Nat):Int)+1)*KK=KK:=by simp
  rw[z];have gH:IntKind.u64.wrap (0+4294967296)=KK:=by decide
  refine⟨_,(stepG_add_atomic rfl rfl (by k_ne) rfl H.f_addU64 (x_addU64_n L) (x_addU64_b L) (x_addU64_x L) .u64 (x_addU64_f L) rfl rfl hw.cellSt (hw.thaw 0)).trans (by rw[gH];rfl),_,.inr rfl,λw aw=>?_⟩;clear hw;simp only[KK]
  walk_nrm
  u_op (λ_ r=>r) aw
  u_c stepG_region_end (λ_ r=>r) aw
  u_c stepG_ret' (λ_ r=>r) aw
  u_leave1 H.f_uAdd (λ_ r=>r) aw
  u_op (λ_ r=>r) aw
  u_c stepG_region_end (λ_ r=>r) aw
  u_c stepG_seq (λ_ r=>r) aw
  u_c stepG_seq (λ_ r=>r) aw
  u_reg (λ_ r=>r) aw
  u_op (λ_ r=>r) aw
  u_op (λ_ r=>r) aw
  u_op (λ_ r=>r) aw
  u_op (λ_ r=>r) aw
  u_skip (λ_ r=>r) aw
  u_skip (λ_ r=>r) aw
  u_op (λ_ r=>r) aw
  u_c stepG_region_end (λ_ r=>r) aw
  u_cond false (λ_ r=>r) aw
  u_c stepG_skip (λ_ r=>r) aw
  u_c stepG_seq (λ_ r=>r) aw
  u_reg (λ_ r=>r) aw
  u_op (λ_ r=>r) aw
  u_op (λ_ r=>r) aw
  u_op (λ_ r=>r) aw
  u_op (λ_ r=>r) aw
  u_c stepG_region_end (λ_ r=>r) aw
  u_c stepG_seq (λ_ r=>r) aw
  u_reg (λ_ r=>r) aw
  u_op (λ_ r=>r) aw
  u_op (λ_ r=>r) aw
  u_op (λ_ r=>r) aw
  u_op (λ_ r=>r) aw
  u_c stepG_region_end (λ_ r=>r) aw
  u_c stepG_seq (λ_ r=>r) aw
  u_c stepG_seq (λ_ r=>r) aw
  u_reg (λ_ r=>r) aw
  u_op (λ_ r=>r) aw
  u_op (λ_ r=>r) aw
  u_op (λ_ r=>r) aw
  u_op (λ_ r=>r) aw
  u_op (λ_ r=>r) aw
  u_op (λ_ r=>r) aw
  u_op (λ_ r=>r) aw
  u_op (λ_ r=>r) aw
  u_op (λ_ r=>r) aw
  u_op (λ_ r=>r) aw
  u_c stepG_region_end (λ_ r=>r) aw
  u_cond true (λ_ r=>r) aw
  u_reg (λ_ r=>r) aw
  u_op (λ_ r=>r) aw
  u_op (λ_ r=>r) aw
  u_op (λ_ r=>r) aw
  u_conv H.underlying_tPU32 H.room_tU32 (WgLive.cell1 aw).choose_spec (λ_ r=>r) aw
  refine Goes.stop (λfB pP=>⟨rfl,_,stepG_markAt .read (by simp) rfl rfl (by k_ne) rfl H.f_raceRead (x_raceRead_n L) (x_raceRead_b L) (x_raceRead_x L) (x_raceRead_f L) (by simp[Act.eval,smA]<;>rfl),λw aw=>?_⟩)
  walk_nrm
  u_c stepG_region_end (λ_ r=>r) aw
  u_c stepG_seq (λ_ r=>r) aw
  u_c stepG_seq (λ_ r=>r) aw
  u_reg (λ_ r=>r) aw
  u_op (λ_ r=>r) aw
  u_op (λ_ r=>r) aw
  u_c stepG_region_end (λ_ r=>r) aw
  u_cond false (λ_ r=>r) aw
  u_c stepG_skip (λ_ r=>r) aw
  u_c stepG_seq (λ_ r=>r) aw
  u_c stepG_seq (λ_ r=>r) aw
  u_reg (λ_ r=>r) aw
  u_op (λ_ r=>r) aw
  u_op (λ_ r=>r) aw
  u_op (λ_ r=>r) aw
  u_skip (λ_ r=>r) aw
  u_skip (λ_ r=>r) aw
  u_op (λ_ r=>r) aw
  u_op (λ_ r=>r) aw
  u_skip (λ_ r=>r) aw
  u_skip (λ_ r=>r) aw
  u_skip (λ_ r=>r) aw
  u_skip (λ_ r=>r) aw
  u_op (λ_ r=>r) aw
  u_c stepG_region_end (λ_ r=>r) aw
  u_cond false (λ_ r=>r) aw
  u_c stepG_skip (λ_ r=>r) aw
  u_c stepG_seq (λ_ r=>r) aw
  u_c stepG_seq (λ_ r=>r) aw
  u_reg (λ_ r=>r) aw
  u_op (λ_ r=>r) aw
  u_op (λ_ r=>r) aw
  u_op (λ_ r=>r) aw
  u_skip (λ_ r=>r) aw
  u_skip (λ_ r=>r) aw
  u_op (λ_ r=>r) aw
  u_c stepG_region_end (λ_ r=>r) aw
  u_cond true (λ_ r=>r) aw
  u_c stepG_ret' (λ_ r=>r) aw
  refine Goes.stop (λfB pP=>⟨rfl,_,stepG_unwind_entry (v:=.tuple #[]) (evs:=#[mk .enable]) rfl H.f_enable (x_enable_n L) (x_enable_b L) (x_enable_x L) (x_enable_f L) (by simp[Extern.Race.none_]) (by simp[mk]) (by simp[mk]),λw aw=>?_⟩)
  u_leave0 H.f_add (λ_ r=>r) aw
  exact Goes.stop λ_ _=>rfl
 ·obtain⟨V,ew⟩:∃V:Int,V=(v:Int)+1:=⟨_,rfl⟩;obtain⟨S,iB⟩:∃S:Int,S=V*KK:=⟨_,rfl⟩;have U7:IntKind.u64.wrap ((v:Int)*KK+4294967296)=S:=by rw[IntKind.wrap_u64,iB,ew];simp only[KK];omega
  rw[←ew,←iB];have eD:S/4294967296=V:=by rw[iB];simp only[KK];omega
  have fj:bits .and .u64 S 2147483648=0:=by rw[iB,ew];have:=st_flag (v+1) 0 (by omega) (by omega);simpa[KK]using this
  have gB:bits .and .u64 S 2147483647=0:=by rw[iB,ew];have:=st_waiters (v+1) 0 (by omega) (by omega);simpa[KK]using this
  have dS:IntKind.i32.wrap V=V:=by rw[IntKind.wrap_i32];omega
  have ahz:1<V:=by omega
  have ak7:V<2147483648:=by omega
  have cy:(V==1)=false:=by simp;omega
  have dM:decide (V=1)=false:=decide_eq_false (by omega);have gC:decide (V<0)=false:=decide_eq_false (by omega);have jF:decide (0<V)=true:=decide_eq_true (by omega);have kB:(V==0)=false:=by simp;omega
  have kC:decide (V=0)=false:=decide_eq_false (by omega);refine⟨_,(stepG_add_atomic rfl rfl (by k_ne) rfl H.f_addU64 (x_addU64_n L) (x_addU64_b L) (x_addU64_x L) .u64 (x_addU64_f L) rfl rfl hw.cellSt (hw.thaw 0)).trans (by rw[U7];rfl),_,.inl rfl,λw aw=>?_⟩;clear hw iB ew U7
  walk_nrm
  u_op (λ_ r=>r) aw
  u_c stepG_region_end (λ_ r=>r) aw
  u_c stepG_ret' (λ_ r=>r) aw
  u_leave1 H.f_uAdd (λ_ r=>r) aw
  u_op (λ_ r=>r) aw
  u_c stepG_region_end (λ_ r=>r) aw
  u_c stepG_seq (λ_ r=>r) aw
  u_c stepG_seq (λ_ r=>r) aw
  u_reg (λ_ r=>r) aw
  u_op (λ_ r=>r) aw
  u_op (λ_ r=>r) aw
  u_op (λ_ r=>r) aw
  u_op (λ_ r=>r) aw
  u_skip (λ_ r=>r) aw
  u_skip (λ_ r=>r) aw
  u_op (λ_ r=>r) aw
  u_c stepG_region_end (λ_ r=>r) aw
  u_cnd false (λ_ r=>r) aw
  u_c stepG_skip (λ_ r=>r) aw
  u_c stepG_seq (λ_ r=>r) aw
  u_reg (λ_ r=>r) aw
  u_op (λ_ r=>r) aw
  u_op (λ_ r=>r) aw
  u_op (λ_ r=>r) aw
  u_op (λ_ r=>r) aw
  u_c stepG_region_end (λ_ r=>r) aw
  u_c stepG_seq (λ_ r=>r) aw
  u_reg (λ_ r=>r) aw
  u_op (λ_ r=>r) aw
  u_op (λ_ r=>r) aw
  u_op (λ_ r=>r) aw
  u_op (λ_ r=>r) aw
  u_c stepG_region_end (λ_ r=>r) aw
  u_c stepG_seq (λ_ r=>r) aw
  u_c stepG_seq (λ_ r=>r) aw
  u_reg (λ_ r=>r) aw
  u_op (λ_ r=>r) aw
  u_op (λ_ r=>r) aw
  u_op (λ_ r=>r) aw
  u_op (λ_ r=>r) aw
  u_op (λ_ r=>r) aw
  u_op (λ_ r=>r) aw
  u_op (λ_ r=>r) aw
  u_op (λ_ r=>r) aw
  u_op (λ_ r=>r) aw
  u_op (λ_ r=>r) aw
  u_c stepG_region_end (λ_ r=>r) aw
  u_cnd false (λ_ r=>r) aw
  u_c stepG_skip (λ_ r=>r) aw
  u_c stepG_seq (λ_ r=>r) aw
  u_c stepG_seq (λ_ r=>r) aw
  u_reg (λ_ r=>r) aw
  u_op (λ_ r=>r) aw
  u_op (λ_ r=>r) aw
  u_c stepG_region_end (λ_ r=>r) aw
  u_cnd false (λ_ r=>r) aw
  u_c stepG_skip (λ_ r=>r) aw
  u_c stepG_seq (λ_ r=>r) aw
  u_c stepG_seq (λ_ r=>r) aw
  u_reg (λ_ r=>r) aw
  u_op (λ_ r=>r) aw
  u_op (λ_ r=>r) aw
  u_op (λ_ r=>r) aw
  u_skip (λ_ r=>r) aw
  u_skip (λ_ r=>r) aw
  u_op (λ_ r=>r) aw
  u_op (λ_ r=>r) aw
  u_skip (λ_ r=>r) aw
  u_skip (λ_ r=>r) aw
  u_skip (λ_ r=>r) aw
  u_skip (λ_ r=>r) aw
  u_op (λ_ r=>r) aw
  u_c stepG_region_end (λ_ r=>r) aw
  u_cnd false (λ_ r=>r) aw
  u_c stepG_skip (λ_ r=>r) aw
  u_c stepG_seq (λ_ r=>r) aw
  u_c stepG_seq (λ_ r=>r) aw
  u_reg (λ_ r=>r) aw
  u_op (λ_ r=>r) aw
  u_op (λ_ r=>r) aw
  u_op (λ_ r=>r) aw
  u_skip (λ_ r=>r) aw
  u_skip (λ_ r=>r) aw
  u_op (λ_ r=>r) aw
  u_c stepG_region_end (λ_ r=>r) aw
  u_cnd true (λ_ r=>r) aw
  u_c stepG_ret' (λ_ r=>r) aw
  refine Goes.stop (λfB pP=>⟨rfl,_,stepG_unwind_entry (v:=.tuple #[]) (evs:=#[mk .enable]) rfl H.f_enable (x_enable_n L) (x_enable_b L) (x_enable_x L) (x_enable_f L) (by simp[Extern.Race.none_]) (by simp[mk]) (by simp[mk]),λw aw=>?_⟩)
  u_leave0 H.f_add (λ_ r=>r) aw
  exact Goes.stop λ_ _=>rfl
def Be(L:WgLink)(Wg:Nat)(c:Frame)(cs:List Frame)(g:Goroutine)(_:World):Prop:=
 ∃T:Array Value,g=G ((base L.wait).at ⟨T,[]⟩ [.code (L7 L),.inLoop (L7 L),.inBlock 0]) (c::cs)/\T.size=84/\T[0]?=some (.pointer (some ⟨Wg,0,none⟩))
set_option maxRecDepth 100000 in
theorem Xy{P:Program}(H:WgLib P L):jb P L.tWg Wg (wT P L.tWg Wg .disable (Be L Wg (nz.at nA (.inRegion jV (nB::m1)::nC)) cs))
   (G ((base L.wait).at ⟨#[.pointer (some ⟨Wg,0,none⟩),undef,undef,undef,undef,undef,undef,undef,undef,undef,undef,undef,undef,undef,undef,undef,undef,undef,undef,undef,undef,undef,undef,undef,undef,undef,undef,undef,undef,undef,undef,undef,undef,undef,undef,undef,undef,undef,undef,undef,undef,undef,undef,undef,undef,undef,undef,undef,undef,undef,undef,undef,undef,undef,undef,undef,undef,undef,undef,undef,undef,undef,undef,undef,undef,undef,undef,undef,undef,undef,undef,undef,undef,undef,undef,undef,undef,undef,undef,undef,undef,undef,undef,undef],[]⟩ [.code (body_wait L)]) (nz.at nA (.inRegion jV (nB::m1)::nC)::cs)):=by
 lib_facts
 refine λw aw=>?_;simp only[body_wait,waitFn,Option.getD_some]
 u_c stepG_seq (λ_ r=>r) aw
 u_cond true (λ_ r=>r) aw
 u_reg (λ_ r=>r) aw
 refine Goes.stop (λfB pP=>⟨rfl,_,stepG_mark0 .disable (by simp) rfl rfl (by k_ne) rfl H.f_disable (x_disable_n L) (x_disable_b L) (x_disable_x L) (x_disable_f L),λw aw=>?_⟩)
 walk_nrm
 u_c stepG_region_end (λ_ r=>r) aw
 u_c stepG_block (λ_ r=>r) aw
 u_c stepG_loop (λ_ r=>r) aw
 exact Goes.stop λ_ _=>⟨_,rfl,by simp,by simp⟩
set_option maxRecDepth 100000 in
set_option maxHeartbeats 8000000 in
theorem Xz{P:Program}(H:WgLib P L){g:Goroutine}{c9:World}(h:Be L Wg (nz.at nA (.inRegion jV (nB::m1)::nC)) cs g c9):
  jb P L.tWg Wg (ahy P L.tWg Wg (λg _=>g=G (nz.at (nA.put ((jV[nB]?).bind (·.dst)) (.tuple #[])) (.inRegion jV m1::nC)) cs) (Be L Wg (nz.at nA (.inRegion jV (nB::m1)::nC)) cs)) g:=by
 lib_facts
 obtain⟨T,rfl,afM,t0⟩:=h;obtain⟨v0,v1,v2,v3,v4,v5,v6,so,sq,v9,v10,v11,v12,rS,tB,tC,vs,rT,rU,rV,v20,v21,v22,rY,v24,r1,r3,r4,v28,r6,v30,v31,r8,r9,ak8,ak9,ala,v37,alc,ald,v40,alf,alg,alh,ali,alj,v46,alm,aln,v49,alp,v51,alr,v53,alu,alv,alw,alx,aly,v59,alA,alB,alC,alD,alE,alF,alG,alH,alI,alJ,v70,alL,v72,alN,alO,v75,v76,alR,alS,alT,alU,alV,alW,alX,rfl⟩:=array84 T afM;simp only[List.getElem?_toArray,List.getElem?_cons_zero,Option.some.injEq]at t0;subst t0;refine λw aw=>?_;simp only[L7,body_wait,waitFn,Option.getD_some]
 u_c stepG_block (λ_ r=>r) aw
 u_c stepG_seq (λ_ r=>r) aw
 u_reg (λ_ r=>r) aw
 u_op (λ_ r=>r) aw
 u_op (λ_ r=>r) aw
 u_op (λ_ r=>r) aw
 u_call H.f_uLoad (nm_uLoad L) uLoadFn (λ_ r=>r) aw
 u_c stepG_seq (λ_ r=>r) aw
 u_reg (λ_ r=>r) aw
 u_op (λ_ r=>r) aw
 u_c stepG_region_end (λ_ r=>r) aw
 u_c stepG_seq (λ_ r=>r) aw
 u_reg (λ_ r=>r) aw
 u_op (λ_ r=>r) aw
 u_op (λ_ r=>r) aw
 u_op (λ_ r=>r) aw
 refine Goes.stop (λfB pP=>?_);clear aw;refine⟨rfl,λv ai hw=>?_⟩;rcases Nat.eq_zero_or_pos v with rfl|xz
 ·replace hw:WgAt L.tWg Wg fB 0 0:=by simpa using hw
  refine⟨_,stepG_load_atomic (v:=0) rfl rfl (by k_ne) rfl H.f_loadU64 (x_loadU64_n L) (x_loadU64_b L) (x_loadU64_x L) .u64 (x_loadU64_f L) rfl hw.cellSt,λ_=>λw aw=>?_,λh=>absurd rfl h⟩;clear hw
  walk_nrm
  u_op (λ_ r=>r) aw
  u_c stepG_region_end (λ_ r=>r) aw
  u_c stepG_ret' (λ_ r=>r) aw
  u_leave1 H.f_uLoad (λ_ r=>r) aw
  u_op (λ_ r=>r) aw
  u_c stepG_region_end (λ_ r=>r) aw
  u_c stepG_seq (λ_ r=>r) aw
  u_reg (λ_ r=>r) aw
  u_op (λ_ r=>r) aw
  u_op (λ_ r=>r) aw
  u_op (λ_ r=>r) aw
  u_op (λ_ r=>r) aw
  u_c stepG_region_end (λ_ r=>r) aw
  u_c stepG_seq (λ_ r=>r) aw
  u_reg (λ_ r=>r) aw
  u_op (λ_ r=>r) aw
  u_op (λ_ r=>r) aw
  u_op (λ_ r=>r) aw
  u_op (λ_ r=>r) aw
  u_c stepG_region_end (λ_ r=>r) aw
  u_c stepG_seq (λ_ r=>r) aw
  u_c stepG_seq (λ_ r=>r) aw
  u_reg (λ_ r=>r) aw
  u_op (λ_ r=>r) aw
  u_op (λ_ r=>r) aw
  u_c stepG_region_end (λ_ r=>r) aw
  u_cond true (λ_ r=>r) aw
  u_c stepG_seq (λ_ r=>r) aw
  u_cond true (λ_ r=>r) aw
  u_c stepG_seq (λ_ r=>r) aw
  u_reg (λ_ r=>r) aw
  refine Goes.stop (λfB pP=>⟨rfl,_,stepG_mark0 .enable (by simp) rfl rfl (by k_ne) rfl H.f_enable (x_enable_n L) (x_enable_b L) (x_enable_x L) (x_enable_f L),λw aw=>?_⟩)
  walk_nrm
  u_c stepG_region_end (λ_ r=>r) aw
  u_reg (λ_ r=>r) aw
  u_op (λ_ r=>r) aw
  u_conv H.underlying_tWgP H.room_tWg (WgLive.cell0 aw).choose_spec (λ_ r=>r) aw
  refine Goes.stop (λfB pP=>⟨rfl,_,stepG_markAt .acquire (by simp) rfl rfl (by k_ne) rfl H.f_acquire (x_acquire_n L) (x_acquire_b L) (x_acquire_x L) (x_acquire_f L) (by simp[Act.eval,stA]<;>rfl),λw aw=>?_⟩)
  walk_nrm
  u_c stepG_region_end (λ_ r=>r) aw
  u_c stepG_seq (λ_ r=>r) aw
  u_c stepG_seq (λ_ r=>r) aw
  u_reg (λ_ r=>r) aw
  u_op (λ_ r=>r) aw
  u_op (λ_ r=>r) aw
  u_op (λ_ r=>r) aw
  u_op (λ_ r=>r) aw
  u_op (λ_ r=>r) aw
  u_op (λ_ r=>r) aw
  u_op (λ_ r=>r) aw
  u_op (λ_ r=>r) aw
  u_skip (λ_ r=>r) aw
  u_skip (λ_ r=>r) aw
  u_op (λ_ r=>r) aw
  u_c stepG_region_end (λ_ r=>r) aw
  u_cond false (λ_ r=>r) aw
  u_c stepG_skip (λ_ r=>r) aw
  u_c stepG_ret' (λ_ r=>r) aw
  u_leave0 H.f_wait (λ_ r=>r) aw
  exact Goes.stop λ_ _=>rfl
 ·obtain⟨S,iB⟩:∃S:Int,(v:Int)*KK=S:=⟨_,rfl⟩;have eD:S/4294967296=(v:Int):=by rw[←iB];simp only[KK];omega
  have fj:bits .and .u64 S 2147483648=0:=by rw[←iB];have:=st_flag v 0 (by omega) (by omega);simpa[KK]using this
  have gB:bits .and .u64 S 2147483647=0:=by rw[←iB];have:=st_waiters v 0 (by omega) (by omega);simpa[KK]using this
  have dS:IntKind.i32.wrap (v:Int)=(v:Int):=by rw[IntKind.wrap_i32];omega
  have w1:IntKind.u64.wrap (S+1)=S+1:=by rw[IntKind.wrap_u64,←iB];simp only[KK];omega
  have gC:decide ((v:Int)<0)=false:=decide_eq_false (by omega);have jF:decide (0<(v:Int))=true:=decide_eq_true (by omega);have kB:((v:Int)==0)=false:=by simp;omega
  have kC:decide ((v:Int)=0)=false:=decide_eq_false (by omega);rw[iB]at hw;refine⟨_,stepG_load_atomic (v:=S) rfl rfl (by k_ne) rfl H.f_loadU64 (x_loadU64_n L) (x_loadU64_b L) (x_loadU64_x L) .u64 (x_loadU64_f L) rfl hw.cellSt,λaT=>absurd aT (by omega),λ_=>λw aw=>?_⟩;clear hw
  walk_nrm
  u_op (λ_ r=>r) aw
  u_c stepG_region_end (λ_ r=>r) aw
  u_c stepG_ret' (λ_ r=>r) aw
  u_leave1 H.f_uLoad (λ_ r=>r) aw
  u_op (λ_ r=>r) aw
  u_c stepG_region_end (λ_ r=>r) aw
  u_c stepG_seq (λ_ r=>r) aw
  u_reg (λ_ r=>r) aw
  u_op (λ_ r=>r) aw
  u_op (λ_ r=>r) aw
  u_op (λ_ r=>r) aw
  u_op (λ_ r=>r) aw
  u_c stepG_region_end (λ_ r=>r) aw
  u_c stepG_seq (λ_ r=>r) aw
  u_reg (λ_ r=>r) aw
  u_op (λ_ r=>r) aw
  u_op (λ_ r=>r) aw
  u_op (λ_ r=>r) aw
  u_op (λ_ r=>r) aw
  u_c stepG_region_end (λ_ r=>r) aw
  u_c stepG_seq (λ_ r=>r) aw
  u_c stepG_seq (λ_ r=>r) aw
  u_reg (λ_ r=>r) aw
  u_op (λ_ r=>r) aw
  u_op (λ_ r=>r) aw
  u_c stepG_region_end (λ_ r=>r) aw
  u_cnd false (λ_ r=>r) aw
  u_c stepG_skip (λ_ r=>r) aw
  u_c stepG_seq (λ_ r=>r) aw
  u_reg (λ_ r=>r) aw
  u_op (λ_ r=>r) aw
  u_op (λ_ r=>r) aw
  u_op (λ_ r=>r) aw
  u_op (λ_ r=>r) aw
  u_op (λ_ r=>r) aw
  u_op (λ_ r=>r) aw
  u_call H.f_uCas (nm_uCas L) uCasFn (λ_ r=>r) aw
  u_c stepG_seq (λ_ r=>r) aw
  u_reg (λ_ r=>r) aw
  u_op (λ_ r=>r) aw
  u_c stepG_region_end (λ_ r=>r) aw
  u_c stepG_seq (λ_ r=>r) aw
  u_reg (λ_ r=>r) aw
  u_op (λ_ r=>r) aw
  u_op (λ_ r=>r) aw
  u_op (λ_ r=>r) aw
  u_op (λ_ r=>r) aw
  u_op (λ_ r=>r) aw
  refine Goes.stop (λvI ajg=>?_);clear aw;refine⟨rfl,λbg iw hw=>⟨λe=>?_,λe=>?_⟩⟩
  ·subst e;rw[iB]at hw⊢;refine⟨_,(stepG_cas_hit (v:=S) (n:=S+1) rfl rfl (by k_ne) rfl H.f_casU64 (x_casU64_n L) (x_casU64_b L) (x_casU64_x L) .u64 (x_casU64_f L) rfl rfl rfl hw.cellSt (hw.thaw 0)).trans (by rfl),_,.inr rfl,λw aw=>?_⟩;clear hw
   walk_nrm
   u_op (λ_ r=>r) aw
   u_c stepG_region_end (λ_ r=>r) aw
   u_c stepG_ret' (λ_ r=>r) aw
   u_leave1 H.f_uCas (λ_ r=>r) aw
   u_c stepG_region_end (λ_ r=>r) aw
   u_cond true (λ_ r=>r) aw
   u_c stepG_seq (λ_ r=>r) aw
   u_c stepG_seq (λ_ r=>r) aw
   u_reg (λ_ r=>r) aw
   u_op (λ_ r=>r) aw
   u_op (λ_ r=>r) aw
   u_op (λ_ r=>r) aw
   u_op (λ_ r=>r) aw
   u_c stepG_region_end (λ_ r=>r) aw
   u_cond true (λ_ r=>r) aw
   u_reg (λ_ r=>r) aw
   u_op (λ_ r=>r) aw
   u_op (λ_ r=>r) aw
   u_op (λ_ r=>r) aw
   u_conv H.underlying_tPU32 H.room_tU32 (WgLive.cell1 aw).choose_spec (λ_ r=>r) aw
   refine Goes.stop (λfB pP=>⟨rfl,_,stepG_markAt .write (by simp) rfl rfl (by k_ne) rfl H.f_raceWrite (x_raceWrite_n L) (x_raceWrite_b L) (x_raceWrite_x L) (x_raceWrite_f L) (by simp[Act.eval,smA]<;>rfl),λw aw=>?_⟩)
   walk_nrm
   u_c stepG_region_end (λ_ r=>r) aw
   u_c stepG_seq (λ_ r=>r) aw
   u_reg (λ_ r=>r) aw
   u_op (λ_ r=>r) aw
   u_c stepG_region_end (λ_ r=>r) aw
   u_c stepG_seq (λ_ r=>r) aw
   u_c stepG_seq (λ_ r=>r) aw
   u_reg (λ_ r=>r) aw
   u_op (λ_ r=>r) aw
   u_op (λ_ r=>r) aw
   u_op (λ_ r=>r) aw
   u_op (λ_ r=>r) aw
   u_skip (λ_ r=>r) aw
   u_op (λ_ r=>r) aw
   u_c stepG_region_end (λ_ r=>r) aw
   u_cond false (λ_ r=>r) aw
   u_c stepG_skip (λ_ r=>r) aw
   u_c stepG_seq (λ_ r=>r) aw
   u_reg (λ_ r=>r) aw
   u_op (λ_ r=>r) aw
   u_op (λ_ r=>r) aw
   u_op (λ_ r=>r) aw
   u_op (λ_ r=>r) aw
   refine Goes.stop (λU8 amE=>?_);clear aw;refine⟨rfl,rfl,λ⟨st,hw⟩=>stepG_semacquire_wait rfl rfl rfl H.f_semacquire (x_semacquire_n L) (x_semacquire_b L) (x_semacquire_x L) (x_semacquire_f L) (by simp[Act.eval,smA]) hw.cellSm,λaQ=>?_⟩;refine⟨_,(stepG_semacquire (n:=1) rfl rfl (by k_ne) rfl H.f_semacquire (x_semacquire_n L) (x_semacquire_b L) (x_semacquire_x L) (x_semacquire_f L) (by simp[Act.eval,smA]) aQ.cellSm (by k_ne) (aQ.thaw 1)).trans (by rfl),λw aw=>?_⟩;clear aQ
   walk_nrm
   u_c stepG_region_end (λ_ r=>r) aw
   u_c stepG_seq (λ_ r=>r) aw
   u_reg (λ_ r=>r) aw
   u_op (λ_ r=>r) aw
   u_op (λ_ r=>r) aw
   u_op (λ_ r=>r) aw
   u_call H.f_uLoad (nm_uLoad L) uLoadFn (λ_ r=>r) aw
   u_c stepG_seq (λ_ r=>r) aw
   u_reg (λ_ r=>r) aw
   u_op (λ_ r=>r) aw
   u_c stepG_region_end (λ_ r=>r) aw
   u_c stepG_seq (λ_ r=>r) aw
   u_reg (λ_ r=>r) aw
   u_op (λ_ r=>r) aw
   u_op (λ_ r=>r) aw
   u_op (λ_ r=>r) aw
   refine Goes.stop (λGy amF=>?_);clear aw;refine⟨rfl,λhw=>⟨_,stepG_load_atomic (v:=0) rfl rfl (by k_ne) rfl H.f_loadU64 (x_loadU64_n L) (x_loadU64_b L) (x_loadU64_x L) .u64 (x_loadU64_f L) rfl hw.cellSt,λw aw=>?_⟩⟩;clear hw
   walk_nrm
   u_op (λ_ r=>r) aw
   u_c stepG_region_end (λ_ r=>r) aw
   u_c stepG_ret' (λ_ r=>r) aw
   u_leave1 H.f_uLoad (λ_ r=>r) aw
   u_op (λ_ r=>r) aw
   u_op (λ_ r=>r) aw
   u_c stepG_region_end (λ_ r=>r) aw
   u_c stepG_seq (λ_ r=>r) aw
   u_cond true (λ_ r=>r) aw
   u_c stepG_seq (λ_ r=>r) aw
   u_reg (λ_ r=>r) aw
   refine Goes.stop (λfB pP=>⟨rfl,_,stepG_mark0 .enable (by simp) rfl rfl (by k_ne) rfl H.f_enable (x_enable_n L) (x_enable_b L) (x_enable_x L) (x_enable_f L),λw aw=>?_⟩)
   walk_nrm
   u_c stepG_region_end (λ_ r=>r) aw
   u_reg (λ_ r=>r) aw
   u_op (λ_ r=>r) aw
   u_conv H.underlying_tWgP H.room_tWg (WgLive.cell0 aw).choose_spec (λ_ r=>r) aw
   refine Goes.stop (λfB pP=>⟨rfl,_,stepG_markAt .acquire (by simp) rfl rfl (by k_ne) rfl H.f_acquire (x_acquire_n L) (x_acquire_b L) (x_acquire_x L) (x_acquire_f L) (by simp[Act.eval,stA]<;>rfl),λw aw=>?_⟩)
   walk_nrm
   u_c stepG_region_end (λ_ r=>r) aw
   u_c stepG_seq (λ_ r=>r) aw
   u_c stepG_seq (λ_ r=>r) aw
   u_reg (λ_ r=>r) aw
   u_op (λ_ r=>r) aw
   u_c stepG_region_end (λ_ r=>r) aw
   u_cond false (λ_ r=>r) aw
   u_c stepG_skip (λ_ r=>r) aw
   u_c stepG_ret' (λ_ r=>r) aw
   u_leave0 H.f_wait (λ_ r=>r) aw
   exact Goes.stop λ_ _=>rfl
  ·refine⟨_,stepG_cas_miss (v:=(bg:Int)*KK) (old:=S) (n:=S+1) rfl rfl (by k_ne) rfl H.f_casU64 (x_casU64_n L) (x_casU64_b L) (x_casU64_x L) .u64 (x_casU64_f L) rfl rfl rfl hw.cellSt (hw.thaw 0) (by rw[←iB];simp only[KK];omega),λw aw=>?_⟩;clear hw
   walk_nrm
   u_op (λ_ r=>r) aw
   u_c stepG_region_end (λ_ r=>r) aw
   u_c stepG_ret' (λ_ r=>r) aw
   u_leave1 H.f_uCas (λ_ r=>r) aw
   u_c stepG_region_end (λ_ r=>r) aw
   u_cond false (λ_ r=>r) aw
   u_c stepG_skip (λ_ r=>r) aw
   u_c stepG_inBlock (λ_ r=>r) aw
   u_c stepG_inLoop (λ_ r=>r) aw
   exact Goes.stop λ_ _=>⟨_,rfl,by simp,by simp⟩
end
end
section
open Go Go.Conc
open Go.ConcN (CT Apart PermW Ok0 OkW RelBy Deaf_absent)
section
variable{gh:Loc->Prop}{Own Rd Own' Rd':Nat->Loc->Prop}{t u:Trace}{j:Nat}
def wS(t:Trace)(l:Loc):Prop:=∀i a,touchAt t i=some a->a.loc≠l
theorem wS.perm{l:Loc}(h:wS t l)(g:Nat):Perm t g l:=λi a au e=>absurd e (h i a au)
theorem abG(h:CT gh Own Rd t j)(U:∀k l,1<=k->k<=j->Own k l->Own' k l)(ab:∀k l,1<=k->k<=j->Own' k l->Own k l\/wS t l)(al:∀k l,1<=k->k<=j->(Rd' k l↔Rd k l)):CT gh Own' Rd' t j:=
 ⟨h.quiet,λk k1 hU l ak=>(ab k l k1 hU ak).elim (h.own k k1 hU l) λf=>f.perm k,λk k1 hU l ak=>h.rd k k1 hU l ((al k l k1 hU).1 ak),
  λl ao ak=>h.free l ao λk k1 hU=>⟨λx=>(ak k k1 hU).1 (U k l k1 hU x),λx=>(ak k k1 hU).2 ((al k l k1 hU).2 x)⟩,λl ao ak=>h.mine l ao λk k1 hU x=>ak k k1 hU (U k l k1 hU x),h.nr,h.gs⟩
theorem Oh{B:Nat}(h:∀op∈t,op.act.low B){a:Addr}(au:B<=a.block):wS t (.cell a):=by
 intro i x aj e;obtain⟨op,ar,lq⟩:=touch_of aj;have:=h op (Array.mem_of_getElem? ar);cases zf:op.act with
 |access ay=>
  rw[zf]at lq this;simp[MemAct.touch?]at lq;subst lq;dsimp only at e;rw[show MemAct.low B (.access ay)=ay.loc.low B from rfl,e]at this;exact absurd this (Nat.not_lt.2 au)
 |mark m=>
  rw[zf]at lq this;cases m<;>simp[MemAct.touch?]at lq;all_goals
   subst lq;cases e;exact absurd this (Nat.not_lt.2 au)
 |_=>grind [MemAct.touch?]
theorem YH{B r:Nat}(h:∀op∈t,op.act.low B)(au:B<=r):wS t (.obj r):=by
 intro i x aj e;obtain⟨op,ar,lq⟩:=touch_of aj;have:=h op (Array.mem_of_getElem? ar);cases zf:op.act with
 |access ay=>
  rw[zf]at lq this;simp only[MemAct.touch?,Option.some.injEq]at lq;subst lq;dsimp only at e;rw[show MemAct.low B (.access ay)=ay.loc.low B from rfl,e]at this;exact absurd this (Nat.not_lt.2 au)
 |mark m=>
  rw[zf]at lq this;cases m<;>simp only[MemAct.touch?,Option.some.injEq,reduceCtorEq]at lq;all_goals
   subst lq;cases e
 |_=>rw[zf]at lq;simp[MemAct.touch?]at lq
end
structure hl(gh:Loc->Prop)(Own Rd:Nat->Loc->Prop)(B:Nat)(t:Trace)(j0 j:Nat):Prop where
 ct:CT gh Own Rd t j
 pl:∀i a,touchAt t i=some a->¬gh a.loc->a.kind≠.atomic
 mem:∀i a g,t.g? i=some g->j0<g->touchAt t i=some a->a.loc.isMemory=true
 old:∀i a g,t.g? i=some g->g<=j0->touchAt t i=some a->¬gh a.loc->Knows t 0 i
 over:∀i g,t.g? i=some g->g≠0->g<=j0->t.counts i->∃q,t.g? q=some 0/\HappensBefore t i q
 seen:∀op∈t,op.act.low B
 le:j0<=j
section
variable{gh:Loc->Prop}{S:Nat->Prop}{Own Rd Own' Rd':Nat->Loc->Prop}{t u:Trace}{j0 j B B' Wg:Nat}
theorem hl.start(h:kM S B t)(hW:B<=Wg)(aN:∀op∈t,op.g<=j0):hl (hP λb=>S b\/b=Wg) (λ_ _=>False) (λ_ _=>False) B t j0 j0:=by
 have fr:∀a:Addr,a.block=Wg->wS t (.cell a):=λa au=>Oh h.rq.seen (by rw[au];exact hW);have nk:∀i a,touchAt t i=some a->hP (λb=>S b\/b=Wg) a.loc->hP S a.loc:=λi a au ⟨x,aK,aO⟩=>by
  rcases aO with aO|aO
  ·exact⟨x,aK,aO⟩
  ·exact absurd aK (fr x aO i a au)
 have Tc:∀l,¬hP (λb=>S b\/b=Wg) l->¬hP S l:=λl ak ⟨x,aK,aO⟩=>ak ⟨x,aK,.inl aO⟩;have pm:∀l,¬hP (λb=>S b\/b=Wg) l->Perm t 0 l:=λl ak=>h.perm l (Tc l ak);refine⟨⟨λi op x hi aj ao=>?_,λ_ _ _ _ h=>h.elim,λ_ _ _ _ h=>h.elim,λl ak _=>pm l ak,λl ak _=>.of (pm l ak),h.rq.clean,λi op hi=>aN op (Array.mem_of_getElem? hi)⟩,λi a au ak=>h.pl i a au (Tc _ ak),λi a g h4 aU _=>?_,λi a g _ _ au ak=>pm _ ak i a au rfl,λi g h4 bU _ ah=>h.rq.over i g h4 bU ah,h.rq.seen,Nat.le_refl _⟩
 ·have aho:touchAt t i=some x:=by rw[touchAt_of hi];exact aj
  exact h.quiet i op x hi aj (nk i x aho ao)
 ·obtain⟨op,ar,rfl⟩:=Option.map_eq_some_iff.1 h4;have:=aN op (Array.mem_of_getElem? ar);omega
theorem hl.mono(h:hl gh Own Rd B t j0 j)(dH:B<=B'):hl gh Own Rd B' t j0 j:=⟨h.ct,h.pl,h.mem,h.old,h.over,λop aE=>MemAct.low_mono dH (h.seen op aE),h.le⟩
theorem hl.grow(h:hl gh Own Rd B t j0 j)(U:∀k l,1<=k->k<=j->Own k l->Own' k l)(ab:∀k l,1<=k->k<=j->Own' k l->Own k l\/wS t l)(al:∀k l,1<=k->k<=j->(Rd' k l↔Rd k l)):hl gh Own' Rd' B t j0 j:=⟨abG h.ct U ab al,h.pl,h.mem,h.old,h.over,h.seen,h.le⟩
theorem yQ{i g:Nat}(h:(t++u).g? i=some g):(i<t.size/\t.g? i=some g)\/∃op∈u,op.g=g/\(t++u)[i]?=some op:=by
 obtain⟨op,ar,rfl⟩:=Option.map_eq_some_iff.1 h;rcases getElem?_append_cases ar with⟨U,ab⟩|⟨_,ab⟩
 ·exact .inl ⟨U,by simp[Trace.g?,ab]⟩
 ·exact .inr ⟨op,ab,rfl,ar⟩
theorem hl.app(h:hl gh Own Rd B t j0 j)(ah:CT gh Own Rd (t++u) j)(cD:∀op∈u,∀a,op.act.touch?=some a->¬gh a.loc->a.kind≠.atomic)(gX:∀op∈u,op.act.low B)
  (aN:∀op∈u,(op.g=0)\/(op.act.touch?=none)\/(j0<op.g/\∀a,op.act.touch?=some a->a.loc.isMemory=true)):hl gh Own Rd B (t++u) j0 j:=by
 refine⟨ah,EF h.pl cD,λi a g h4 aU au=>?_,λi a g h4 hle au ak=>?_,λi g h4 bU hle BV=>?_,seen_app h.seen gX,h.le⟩
 ·rcases yQ h4 with⟨U,ab⟩|⟨op,U,rfl,al⟩
  ·exact h.mem i a g ab aU (by rw[←touchAt_old (u:=u) U];exact au)
  ·rw[touchAt_of al]at au;rcases aN op U with x|x|⟨_,x⟩
   ·omega
   ·rw[x]at au;cases au
   ·exact x a au
 ·rcases yQ h4 with⟨U,ab⟩|⟨op,U,rfl,al⟩
  ·exact(h.old i a g ab hle (by rw[←touchAt_old (u:=u) U];exact au) ak).app u
  ·rcases aN op U with x|x|⟨x,_⟩
   ·have:=knows_own al;rwa[x]at this
   ·rw[touchAt_of al,x]at au;cases au
   ·omega
 ·rcases yQ h4 with⟨U,ab⟩|⟨op,U,rfl,al⟩
  ·obtain⟨q,aH,hb⟩:=h.over i g ab bU hle ((counts_old U).1 BV);have xv:q<t.size:=by
    unfold Trace.g? at aH;obtain⟨z,bO,_⟩:=Option.map_eq_some_iff.1 aH;exact lt_size_of_getElem? bO
   exact⟨q,by simpa[Trace.g?,getElem?_append_old xv]using aH,hb_app u hb⟩
  ·obtain⟨x,aj,_⟩:=BV;have hc:touchAt (t++u) i=some x:=aj;rw[touchAt_of al]at hc;rcases aN op U with y|y|⟨y,_⟩
   ·exact absurd y bU
   ·rw[y]at hc;cases hc
   ·omega
theorem hl.app0(A:Apart gh Own Rd)(h:hl gh Own Rd B t j0 j)(hu:∀op∈u,Ok0 gh Own Rd j op)(cD:∀op∈u,∀a,op.act.touch?=some a->¬gh a.loc->a.kind≠.atomic)(gX:∀op∈u,op.act.low B):hl gh Own Rd B (t++u) j0 j:=
 h.app (h.ct.app0 A hu) cD gX λop aE=>.inl (hu op aE).1
theorem hl.appW(A:Apart gh Own Rd)(h:hl gh Own Rd B t j0 j){k:Nat}(k1:j0<k)(hU:k<=j)(hu:∀op∈u,OkW gh Own Rd k op)(cD:∀op∈u,∀a,op.act.touch?=some a->¬gh a.loc->a.kind≠.atomic)(hm:∀op∈u,∀a,op.act.touch?=some a->a.loc.isMemory=true)(gX:∀op∈u,op.act.low B):hl gh Own Rd B (t++u) j0 j:=
 h.app (h.ct.appW A (by omega) hU hu) cD gX λop aE=>.inr (.inr ⟨by rw[(hu op aE).1];exact k1,hm op aE⟩)
theorem hl.mute(A:Apart gh Own Rd)(h:hl gh Own Rd B t j0 j){k:Nat}(k1:1<=k)(hU:k<=j)(hu:∀op∈u,op.g=k)(aI:∀op∈u,op.act.touch?=none)(gX:∀op∈u,op.act.low B):hl gh Own Rd B (t++u) j0 j:=
 h.app (h.ct.appW A k1 hU λop aE=>⟨hu op aE,λx aj=>by rw[aI op aE]at aj;cases aj⟩) (λop aE a au=>by rw[aI op aE]at au;cases au) gX λop aE=>.inr (.inl (aI op aE))
theorem hl.fork(A:Apart gh Own Rd)(h:hl gh Own Rd B t j0 j){x y:MemOp}(aj:x.g=0/\x.act=.go (j+1))(aF:y.g=j+1/\y.act=.start)(aT:Deaf t 0=0):hl gh Own Rd B (t++#[x,y]) j0 (j+1):=by
 have aI:∀op∈#[x,y],op.act.touch?=none:=λop aE=>by
  simp only[List.mem_toArray,List.mem_cons,List.not_mem_nil,or_false]at aE;rcases aE with rfl|rfl
  ·rw[aj.2];rfl
  ·rw[aF.2];rfl
 have gX:∀op∈#[x,y],op.act.low B:=λop aE=>by
  simp only[List.mem_toArray,List.mem_cons,List.not_mem_nil,or_false]at aE;rcases aE with rfl|rfl
  ·rw[aj.2];trivial
  ·rw[aF.2];trivial
 refine⟨h.ct.fork A aj aF aT,EF h.pl λop aE a au=>(by rw[aI op aE]at au;cases au),λi a g h4 aU au=>?_,λi a g h4 hle au ak=>?_,λi g h4 bU hle BV=>?_,seen_app h.seen gX,Nat.le_succ_of_le h.le⟩
 ·rcases yQ h4 with⟨U,ab⟩|⟨op,U,rfl,al⟩
  ·exact h.mem i a g ab aU (by rw[←touchAt_old (u:=#[x,y]) U];exact au)
  ·rw[touchAt_of al,aI op U]at au;cases au
 ·rcases yQ h4 with⟨U,ab⟩|⟨op,U,rfl,al⟩
  ·exact(h.old i a g ab hle (by rw[←touchAt_old (u:=#[x,y]) U];exact au) ak).app _
  ·rw[touchAt_of al,aI op U]at au;cases au
 ·rcases yQ h4 with⟨U,ab⟩|⟨op,U,rfl,al⟩
  ·obtain⟨q,aH,hb⟩:=h.over i g ab bU hle ((counts_old U).1 BV);have xv:q<t.size:=by
    unfold Trace.g? at aH;obtain⟨z,bO,_⟩:=Option.map_eq_some_iff.1 aH;exact lt_size_of_getElem? bO
   exact⟨q,by simpa[Trace.g?,getElem?_append_old xv]using aH,hb_app _ hb⟩
  ·obtain⟨z,bO,_⟩:=BV;have FM:touchAt (t++#[x,y]) i=some z:=bO;rw[touchAt_of al,aI op U]at FM;cases FM
theorem hl.finish{a:Addr}{q:Nat}(h:hl (hP S) Own Rd B t j0 j)(aH:t.act? q=some (.mark (.acquire a)))(aN:t.g? q=some 0)(bq:t.heard q)(aI:NoRelease a t)(aV:Deaf t 0=0)
  (all:∀k,j0<k->k<=j->∃r,RelBy a t k r/\r<q):kM S B t:=by
 obtain⟨z,bO,iZ⟩:=Option.map_eq_some_iff.1 aN;have after:∀i g,t.g? i=some g->j0<g->t.counts i->HappensBefore t i q:=by
  intro i g h4 aU ah;have ahp:g<=j:=by
   obtain⟨op,ar,rfl⟩:=Option.map_eq_some_iff.1 h4;exact h.ct.gs i op ar
  obtain⟨r,ad,ahq⟩:=all g aU ahp;have Td:HappensBefore t r q:=.single (.inr ⟨.marked ahq (.inr ad.act) aH (λk _ _=>aI k),ad.heard,bq⟩);have hle:i<=r:=Nat.le_of_not_lt λaU=>ad.after i aU h4 ah;rcases Nat.lt_or_ge i r with U|U
  ·exact .trans (.single (.inl ⟨U,g,h4,ad.g⟩)) Td
  ·obtain rfl:i=r:=by omega
   exact Td
 have pm:∀l,¬hP S l->Perm t 0 l:=by
  intro l ak i x aj e;obtain⟨op,ar,lq⟩:=touch_of aj;have h4:t.g? i=some op.g:=by simp[Trace.g?,ar]
  by_cases aT:op.g=0
  ·have:=knows_own ar;rwa[aT]at this
  ·rcases Nat.lt_or_ge j0 op.g with aU|h3
   ·have ah:t.counts i:=⟨x,aj,h.mem i x op.g h4 aU aj,.inl (h.pl i x aj (by rw[e];exact ak))⟩;exact⟨q,z,bO,iZ,.inr (after i op.g h4 aU ah)⟩
   ·exact h.old i x op.g h4 h3 aj (by rw[e];exact ak)
 refine⟨⟨h.ct.nr,λi x aj hm=>?_,λi g h4 bU ah=>?_,aV,h.seen⟩,h.ct.quiet,pm,h.pl⟩
 ·by_cases ao:hP S x.loc
  ·obtain⟨op,ar,lq⟩:=touch_of aj;obtain⟨k1,bf⟩:=h.ct.quiet i op x ar lq ao;cases aq:x.kind with
   |plain=>exact absurd aq k1
   |atomic=>exact .inr ⟨ao,rfl⟩
   |said=>
    have:=knows_own ar;rw[bf aq]at this;exact .inl this
  ·exact .inl (pm _ ao i x aj rfl)
 ·rcases Nat.lt_or_ge j0 g with aU|h3
  ·exact⟨q,aN,after i g h4 aU ah⟩
  ·exact h.over i g h4 bU h3 ah
end
end
section
open Go Go.Conc
@[reducible]def jx:cQ:=⟨λ_ _ _ _=>False,λ_ _=>False⟩
abbrev m7(P:Program)(T:Frame->List Frame->World->Prop)(fr:Frame)(cs:List Frame)(w:World):Prop:=@Way jx P T fr cs w
def iO(P:Program)(T:Frame->List Frame->World->Prop)(s' s:Frame×List Frame×World):Prop:=
 (¬∀τ d,T s.1 s.2.1 (a8 s.2.2 τ d))/\∃τ d es,stepG P true (G s.1 s.2.1) (a8 s.2.2 τ d)=.go (G s'.1 s'.2.1) s'.2.2 es
section
variable{P:Program}{T:Frame->List Frame->World->Prop}
theorem abH{fr:Frame}{cs:List Frame}{w:World}(h:m7 P T fr cs w):Acc (iO P T) (fr,cs,w):=by
 induction h with
 |done h=>exact⟨_,λs' ao=>absurd h ao.1⟩
 |step a b c e he h hm _ az=>
  refine⟨_,λs' ao=>?_⟩;obtain⟨_,τ,d,es,ab⟩:=ao;dsimp only at ab;rw[h τ d]at ab;injection ab with aK aO bS;injection aK with b8 en;obtain⟨bj,c',w'⟩:=s';dsimp only at aO b8 en;rw[←aO,←b8,←en];exact az τ d
 |spec _ h _ _=>exact(h default 0).elim
 |lu h _ _ _ _ _ _=>exact h.elim
theorem DX{fr:Frame}{cs:List Frame}{w:World}(h:m7 P T fr cs w):
  (∀τ d,T fr cs (a8 w τ d)) \/
  (∃(hz:Tape->Nat->Frame)(cs':Tape->Nat->List Frame)(w':Tape->Nat->World)(es:Tape->Nat->Array Event),qT P fr/\(∀τ d,stepG P true (G fr cs) (a8 w τ d)=.go (G (hz τ d) (cs' τ d)) (w' τ d) (es τ d))/\(∀τ d,calm (hz τ d))/\∀τ d,m7 P T (hz τ d) (cs' τ d) (w' τ d)):=by
 rcases @IB jx _ _ _ _ _ h with h|h|⟨_,_,_,⟨_,_,_,h⟩|⟨_,_,h⟩⟩
 ·exact .inl h
 ·exact .inr h
 ·exact(h default 0).elim
 ·exact h.elim
theorem kF{fr f1:Frame}{cs cs1:List Frame}{w:World}{w1:Tape->Nat->World}(h:m7 P T fr cs w)(aI:¬∀τ d,T fr cs (a8 w τ d))(ao:∀τ d,∃es,stepG P true (G fr cs) (a8 w τ d)=.go (G f1 cs1) (w1 τ d) es):∀τ d,m7 P T f1 cs1 (w1 τ d):=by
 rcases DX h with h|⟨a,b,c,e,_,U,_,ab⟩
 ·exact absurd h aI
 ·intro τ d;obtain⟨es,ao⟩:=ao τ d;have:=ab τ d;rw[U]at ao;injection ao with aK aO bS;injection aK with b8 en;rw[←aO,←b8,←en];exact this
end
section
variable{p:Program}{r r2:Tmp}{v0:Value}{ops:Array Oper}
theorem Np{fn:Func}:∀(l:List Nat)(fr:Frame)(w:World),m7 p (mM λv _=>v=v0) fr [dv] w->fr.todo=[.inRegion ops l]->fr.mode=.run->fr.kind=.normal->fr.defers=[]->fr.roundOf=none->p.funcs[fr.fn]?=some fn->fn.results=#[.tmp r,.tmp r2] ->
  (∀i∈l,∃o,ops[i]?=some o/\(∃c,o.op=.assign (.const c))/\o.guard=none/\o.dst≠some r/\o.dst≠some r2)->v0=.tuple #[fr.tmps.getD r undef,fr.tmps.getD r2 undef]
 |[],fr,w,h,U,ab,al,aJ,bm,bI,cS,_=>by
  have iP:∀(f:Frame)(w:World),¬∀τ d,mM (λv _=>v=v0) f [dv] (a8 w τ d):=λf w x=>by cases(x default 0).1
  obtain⟨FN,tmps,todo,defers,mode,kind,round⟩:=fr;dsimp only at U ab al aJ bm bI⊢;subst U ab al aJ bm;have k1:=kF (f1:=⟨FN,tmps,[],[],.run,.normal,none⟩) (cs1:=[dv]) (w1:=λτ d=>a8 w τ d) h (iP _ _) λτ d=>⟨#[],by simp[G,stepG,stepG.exec]⟩;have bf:=kF (f1:=⟨FN,tmps,[],[],.returning,.normal,none⟩) (cs1:=[dv]) (w1:=λτ d=>a8 w τ d) (k1 default 0) (iP _ _) λτ d=>⟨#[],by simp[G,stepG,stepG.exec]⟩;have ad:∀w:World,(results fn tmps).run p w=.ok (.tuple #[tmps.getD r undef,tmps.getD r2 undef]) w:=λw=>results_tmp2 cS tmps p w;have bP:=kF (f1:=dv.finish (.tuple #[tmps.getD r undef,tmps.getD r2 undef])) (cs1:=[]) (w1:=λτ d=>a8 w τ d) (bf default 0) (iP _ _) λτ d=>⟨seen p FN ((results fn tmps).runT p (a8 w τ d) #[]).2++#[],by
   simp only[G,stepG,unwind,bI,aeo];generalize aN:(results fn tmps).runT p (a8 w τ d) #[]=q;obtain⟨cy,dM⟩:=q;have aH:=congrArg Prod.fst aN;rw[Sem.runT_fst,ad]at aH;dsimp only at aH;subst aH;rfl⟩
  obtain⟨_,_,ai⟩:=@IC jx _ _ _ _ (bP default 0);exact ai.symm
 |i::l,fr,w,h,U,ab,al,aJ,bm,bI,cS,et=>by
  have iP:∀(f:Frame)(w:World),¬∀τ d,mM (λv _=>v=v0) f [dv] (a8 w τ d):=λf w x=>by cases(x default 0).1
  obtain⟨o,ar,⟨c,ah⟩,ahr,xw,afG⟩:=et i (by simp);have hex:execOp fr.eval o=pure (.value c):=by
   obtain⟨d,op,t,ps,Gw,amC⟩:=o;dsimp only at ah;subst ah;rfl
  have k1:=kF (f1:=fr.finish c) (cs1:=[dv]) (w1:=λτ d=>a8 w τ d) h (iP _ _) λτ d=>by
   have hw:Region.wanted o (yielded ops fr.tmps)=true:=by simp[Region.wanted,ahr]
   have:=DY (p:=p) (main:=true) (w:=a8 w τ d) (fr0:=fr) (fr:=fr) (cs:=[dv]) (s:=execOp fr.eval o) (w1:=a8 w τ d) (esA:=#[]) (es1:=#[]) (λ_=>rfl) (by rw[U];rfl) (by simp) (by
    rw[Jb];obtain⟨FN,tmps,todo,defers,mode,kind,round⟩:=fr;dsimp only at U ab al aJ bm bI;subst U ab al aJ bm;simp only[G,stepG,stepG.exec,ar,Option.map_some,Option.getD_some,hw,if_true,stepG.oper,Frame.oper?])
   rw[hex]at this;obtain⟨es2,h,_⟩:=this;exact⟨es2,h⟩
  have aK:∀x,o.dst≠some x->(fr.finish c).tmps.getD x undef=fr.tmps.getD x undef:=λx aj=>by
   unfold Frame.finish;rw[U];dsimp only;rw[ar];simp only[Option.bind_some];cases aV:o.dst with
   |none=>rfl
   |some d=>
    have bU:d≠x:=λe=>aj (by rw[aV,e]);simp only[Array.getD_eq_getD_getElem?,Array.getElem?_setIfInBounds,if_neg bU]
  rw[←aK r xw,←aK r2 afG];have z1:(fr.finish c).todo=[.inRegion ops l]/\(fr.finish c).mode=.run/\(fr.finish c).kind=.normal/\(fr.finish c).defers=[]/\(fr.finish c).roundOf=none/\(fr.finish c).fn=fr.fn:=by
   unfold Frame.finish;rw[U];exact⟨rfl,ab,al,aJ,bm,rfl⟩
  exact Np l _ _ (k1 default 0) z1.1 z1.2.1 z1.2.2.1 z1.2.2.2.1 z1.2.2.2.2.1 (by rw[z1.2.2.2.2.2];exact bI) cS λj aC=>et j (by simp[aC])
end
end
section
open Go Go.Conc
def Te(f:Frame)(cs:List Frame)(x:Frame×List Frame):Prop:=
 x.2=cs\/x.2=f::cs\/∃c cs' v,cs=c::cs'/\x=(c.finish v,cs')
section
variable{p:Program}{f:Frame}{cs:List Frame}{W bF:World}{x:Frame×List Frame}
theorem sv{α:Type}{a b:α}(h:(pure a:Sem α).run p W=.ok b bF):b=a:=by
 have:(Result.ok a W:Result α)=.ok b bF:=h;injection this with e _;exact e.symm
theorem vW{α β:Type}{s:Sem α}{k:α->Sem β}{b:β}(h:(s >>= k).run p W=.ok b bF):∃a iA,s.run p W=.ok a iA/\(k a).run p iA=.ok b bF:=by
 rw[Sem.run_bind]at h;cases U:s.run p W with
 |ok a iA=>rw[U]at h;exact⟨a,iA,rfl,h⟩
 |halt y iA=>rw[U]at h;cases h
theorem Qg{v:Value}(h:(u5 v cs).run p W=.ok x bF):Te f cs x:=by
 cases cs with
 |nil=>cases h
 |cons c cs=>exact .inr (.inr ⟨c,cs,v,rfl,sv h⟩)
theorem O7{f0:Frame}{n:Next}(aQ:f0=f\/True)(h:(uS p f0 cs n).run p W=.ok x bF):x.2=cs/\(∃v,x.1=f0.finish v)\/x.2=f0::cs:=by
 cases n with
 |value v=>rw[sv h];exact .inl ⟨rfl,v,rfl⟩
 |skip=>rw[sv h];exact .inl ⟨rfl,undef,rfl⟩
 |enter g a=>rw[sv h];exact .inr rfl
 |round l g t a b=>rw[sv h];exact .inr rfl
 |_=>cases h
def uT(e7:Frame->Prop)(ops:Array Oper)(ms:List Nat)(f:Frame):Prop:=f.mode=.run/\f.roundOf=none/\e7 f/\∃l,f.todo=[.inRegion ops (l++ms)]/\∀i∈l,i∉ms
theorem Xv{e7:Frame->Prop}{ops:Array Oper}{ms:List Nat}(h:uT e7 ops ms f){i:Nat}{l:List Nat}(ak:f.todo=[.inRegion ops (i::l++ms)])(ad:(lD p f cs).run p W=.ok x bF):(x.2=cs/\∃v,x.1=f.finish v)\/x.2=f::cs:=by
 obtain⟨fn,tmps,todo,defers,mode,kind,round⟩:=f;obtain⟨U,ab,al,_⟩:=h;dsimp only at U ab ak;subst U ab ak;unfold lD xc at ad;dsimp only[List.cons_append]at ad;cases ar:ops[i]? with
 |none=>
  rw[ar]at ad;rw[sv ad];exact .inl ⟨rfl,undef,rfl⟩
 |some o=>
  rw[ar]at ad;dsimp only at ad;split at ad
  ·obtain⟨n,iA,_,ab⟩:=vW ad;rcases O7 (f:=⟨fn,tmps,[.inRegion ops (i::l++ms)],defers,.run,kind,none⟩) (.inl rfl) ab with h|h
   ·exact .inl h
   ·exact .inr h
  ·rw[sv ad];exact .inl ⟨rfl,undef,rfl⟩
theorem MA{e7:Frame->Prop}{ops:Array Oper}{ms:List Nat}(eP:∀f v l,e7 f->f.todo=[.inRegion ops l]->e7 (f.finish v))(h:uT e7 ops ms f){i:Nat}{l:List Nat}(ak:f.todo=[.inRegion ops (i::l++ms)])(aI:∀i∈l,i∉ms)(v:Value):uT e7 ops ms (f.finish v):=by
 obtain⟨U,ab,al,_⟩:=h;have aJ:=eP f v _ al ak;revert aJ;unfold Frame.finish;rw[ak];exact λaJ=>⟨U,ab,aJ,l,rfl,aI⟩
theorem YI{j:Option Code}(h:(lL f cs j).run p W=.ok x bF):Te f cs x:=by
 unfold lL at h;split at h
 ·split at h
  ·rw[sv h];exact .inl rfl
  ·cases h
 ·obtain⟨v,iA,_,ab⟩:=vW h;exact Qg ab
theorem adn(h:(lD p f cs).run p W=.ok x bF):x.2=cs\/(∃f0,x.2=f0::cs)\/∃c cs' v,cs=c::cs'/\x=(c.finish v,cs'):=by
 have ey:∀{j:Option Code},(lL f cs j).run p W=.ok x bF->x.2=cs\/(∃f0,x.2=f0::cs)\/∃c cs' v,cs=c::cs'/\x=(c.finish v,cs'):=λh=>(YI h).imp id λh=>h.imp (λh=>⟨_,h⟩) id;have LL:∀{f0:Frame}{n:Next}{iA:World},(uS p f0 cs n).run p iA=.ok x bF->x.2=cs\/(∃f0,x.2=f0::cs)\/∃c cs' v,cs=c::cs'/\x=(c.finish v,cs'):=λh=>(O7 (f:=f) (.inr trivial) h).imp (·.1) λh=>.inl ⟨_,h⟩;have pu:∀{f0:Frame}{iA:World},(pure (f0,cs):Sem (Frame×List Frame)).run p iA=.ok x bF->x.2=cs\/(∃f0,x.2=f0::cs)\/∃c cs' v,cs=c::cs'/\x=(c.finish v,cs'):=λh=>by rw[sv h];exact .inl rfl
 have rt:∀{v:Value}{iA:World},(u5 v cs).run p iA=.ok x bF->x.2=cs\/(∃f0,x.2=f0::cs)\/∃c cs' v,cs=c::cs'/\x=(c.finish v,cs'):=λh=>(Qg (f:=f) h).imp id λh=>h.imp (λh=>⟨_,h⟩) id;unfold lD at h;split at h
 ·unfold xc at h;dsimp only at h;split at h
  ·exact ey h
  ·exact ey h
  ·exact pu h
  ·exact pu h
  ·exact pu h
  ·exact pu h
  ·exact pu h
  ·exact pu h
  ·split at h
   ·exact pu h
   ·cases h
  all_goals first
   |exact pu h
   |(split at h<;>first|exact pu h|exact ey h|(cases h;done))
   |(obtain⟨_,_,_,ab⟩:=vW h;first|exact pu ab|exact LL ab|(obtain⟨_,_,_,al⟩:=vW ab;first|exact LL al|exact pu al))
   |(cases h;done)
   |skip
  split at h
  ·split at h
   ·obtain⟨_,_,_,ab⟩:=vW h;exact LL ab
   ·exact pu h
  ·exact pu h
 ·split at h
  ·obtain⟨_,_,_,ab⟩:=vW h;exact pu ab
  ·cases h
  ·split at h
   ·obtain⟨_,_,_,ab⟩:=vW h;exact rt ab
   ·exact rt h
 ·cases h
end
end
section
open Go Go.Conc
section
variable{e7:Frame->Prop}{cO:Frame}{ops:Array Oper}{ms:List Nat}
def uU(e7:Frame->Prop)(ops:Array Oper)(ms:List Nat)(b:Frame):Prop:=uT e7 ops ms b/\∃i l,b.todo=[.inRegion ops (i::l++ms)]/\∀j∈i::l,j∉ms
def U5(e7:Frame->Prop)(cO:Frame)(ops:Array Oper)(ms:List Nat):List Frame->Prop
 |[b,c]=>c=cO/\uU e7 ops ms b
 |_::c::d::fs=>U5 e7 cO ops ms (c::d::fs)
 |_=>False
def Gx(e7:Frame->Prop)(cO:Frame)(ops:Array Oper)(ms:List Nat):List Frame->Prop
 |[b,c]=>c=cO/\uT e7 ops ms b
 |_::c::d::fs=>U5 e7 cO ops ms (c::d::fs)
 |_=>False
theorem Qh{p:Program}{f:Frame}{cs:List Frame}{W bF:World}{x:Frame×List Frame}(eP:∀f v l,e7 f->f.todo=[.inRegion ops l]->e7 (f.finish v))(h:Gx e7 cO ops ms (f::cs))(hw:cs=[cO]->uU e7 ops ms f)(ad:(lD p f cs).run p W=.ok x bF):Gx e7 cO ops ms (x.1::x.2):=by
 obtain⟨mN,qD⟩:=x
 match cs,h,hw,ad with
 |[c],h,hw,ad=>
  obtain⟨rfl,hb⟩:=h;obtain⟨_,i,l,ak,aI⟩:=hw rfl;rcases Xv hb ak ad with⟨U,v,ab⟩|U
  ·dsimp only at U ab⊢;subst U ab;exact⟨rfl,MA eP hb ak (λj aC=>aI j (by simp[aC])) v⟩
  ·dsimp only at U⊢;subst U;exact⟨rfl,hb,i,l,ak,aI⟩
 |c::d::ds,h,hw,ad=>
  rcases adn ad with U|⟨f0,U⟩|⟨c',cs',v,U,ab⟩
  ·dsimp only at U⊢;subst U;exact h
  ·dsimp only at U⊢;subst U;exact h
  ·injection U with aK aO;subst aK aO;injection ab with bS b8;subst bS b8
   match ds,h with
   |[],h=>
    obtain⟨rfl,hb,i,l,ak,aI⟩:=h;exact⟨rfl,MA eP hb ak (λj aC=>aI j (by simp[aC])) v⟩
   |e::es,h=>exact h
end
section
variable{p p':Program}{F:FuncId->Bool}{ro:Nat->Prop}{ops:Array Oper}{ms:List Nat}{Y:List Deferred×FuncId×Bool}{cb:Frame}{v0:Value}{ops':Array Oper}{A:Array Value}
def vr:Frame->Prop:=λf=>f.kind=.normal/\f.defers=[]
theorem ahs(f:Frame)(v:Value)(l:List Nat)(h:vr f)(ak:f.todo=[.inRegion ops l]):vr (f.finish v):=by
 obtain⟨U,ab⟩:=h;unfold Frame.finish;rw[ak];split<;>exact⟨U,ab⟩
def xx(D:List Deferred)(A:Array Value):Frame->Prop:=λf=>f.kind=.deferred/\f.defers=D/\A.size+14<=f.tmps.size/\∀r,r<A.size->f.tmps[r]?=A[r]?
theorem aht{D:List Deferred}{A:Array Value}(aV:∀(i:Nat) o d,ops[i]?=some o->o.dst=some d->A.size<=d)(f:Frame)(v:Value)(l:List Nat)(h:xx D A f)(ak:f.todo=[.inRegion ops l]):xx D A (f.finish v):=by
 obtain⟨U,ab,aJ,al⟩:=h;unfold Frame.finish;rw[ak];cases l with
 |nil=>exact⟨U,ab,aJ,al⟩
 |cons i l=>
  refine⟨U,ab,by dsimp only;split<;>(try rw[Array.size_setIfInBounds])<;>exact aJ,λr ad=>?_⟩;dsimp only;cases ar:ops[i]? with
  |none=>exact al r ad
  |some o=>
   simp only[Option.bind_some];cases zz:o.dst with
   |none=>exact al r ad
   |some d=>
    have:=aV i o d ar zz;rw[Array.getElem?_setIfInBounds_ne (by omega)];exact al r ad
structure rO(p p':Program)(F:FuncId->Bool)(ro:Nat->Prop)(ops:Array Oper)(ms:List Nat)(Y:List Deferred×FuncId×Bool)(cb:Frame)(ops':Array Oper)(A:Array Value)(v0:Value)(ρ:bA)(s:Frame×List Frame×World)(g:Frame×List Frame)(W:World):Prop where
 T3:m7 p (mM λv _=>v=v0) s.1 s.2.1 s.2.2
 st:h5 p F p' (bH p F) ρ Y dv [cb] (s.1::s.2.1) (g.1::g.2)
 bi:Gx vr dv ops ms (s.1::s.2.1)
 ahu:Gx (xx Y.1 A) cb ops' ms (g.1::g.2)
 wr:dN (bH p F) ρ ro s.2.2 W
 og:∀b,W.heap.size<=b->¬ro b
theorem YJ(ae:PP (bH p F) p p')(dH:pk p p' F)(gZ:∀(i:Nat) o,ops[i]?=some o->i∉ms->q1 o=false){ρ:bA}{s:Frame×List Frame×World}{g:Frame×List Frame}{W:World}(h:rO p p' F ro ops ms Y cb ops' A v0 ρ s g W)
  (aV:∀(i:Nat) o d,ops'[i]?=some o->o.dst=some d->A.size<=d) (hw:s.2.1=[dv]->uU vr ops ms s.1) (Tf:g.2=[cb]->uU (xx Y.1 A) ops' ms g.1):
  ∃(s':Frame×List Frame×World)(σ:bA)(g':Frame×List Frame)(bF:World)(es:Array Event),stepG p' false (G g.1 g.2) W=.go (G g'.1 g'.2) bF es/\iO p (mM λv _=>v=v0) s' s/\rO p p' F ro ops ms Y cb ops' A v0 σ s' g' bF/\Fr ρ σ ro W bF/\(∀e∈es,ja σ ro e)/\(lD p' g.1 g.2).run p' W=.ok g' bF:=by
 obtain⟨f,cs,V⟩:=s;obtain⟨bj,cs'⟩:=g;obtain⟨s8,bh,BW,BX,ql,Bw⟩:=h;dsimp only at s8 bh BW BX ql hw Tf⊢;have bU:cs≠[]:=by
  obtain⟨_,_,_,_,aK,_,aO⟩:=bh.shape;cases aK;exact aO
 have U6:¬∀τ d,mM (λv _=>v=v0) f cs (a8 V τ d):=λx=>bU (x default 0).1;rcases DX s8 with h|⟨fr,nm,w2,es,he,hgo,ah,aq⟩
 ·exact absurd h U6
 ·have il:f.mode=.returning->f.defers=[]->cs≠[dv]:=λU _ e=>by
   obtain⟨hb,_⟩:=hw e;rw[hb.1]at U;cases U
  have mD:wF f:=by
   cases bh with
   |bot h=>
    obtain⟨_,i,l,ak,aI⟩:=hw rfl;intro xd i2 rest k o e ar;rw[ak]at e;injection e with aK aO;injection aK with bS b8;subst bS;injection b8 with en l9;subst en;exact gZ i o ar (aI i (by simp))
   |cons h _=>exact noMark h (by simp[rr])
  obtain⟨τ,d,σ,f1,cs1,bF,es1,U,ab,al,aJ,bm,bI,cS⟩:=Ia (main:=false) ae dH ql Bw bh il mD hgo ah;have Sm:=aq τ d;have afH:=Qh ahs BW hw bI;have afI:=Qh (aht aV) BX Tf cS;refine⟨(fr τ d,nm τ d,w2 τ d),σ,(f1,cs1),bF,es1,U,⟨U6,τ,d,_,hgo τ d⟩,⟨Sm,?_,afH,afI,al,λb hb=>Bw b (Nat.le_trans aJ.size hb)⟩,aJ,bm,cS⟩;rcases ab with ab|⟨g,a,a',us,us',aK,aO,ao,aN,au,afJ⟩
  ·exact ab
  ·exfalso;injection aK with bS b8;dsimp only at bS b8;rcases DX Sm with h|⟨_,_,_,_,he,_⟩
   ·have:=(h default 0).1;rw[b8]at this;obtain⟨_,_,_,_,en,_⟩:=afJ.shape;rw[en]at this;cases this
   ·exact he g a bS ao
end
end
section
open Go Go.Conc
open Go.ConcN (sumTo upd sumTo_upd upd_ne upd_same)
section
variable{p p':Program}{F:FuncId->Bool}{ρ:bA}{cO:Frame}{f bj u':Frame}{us':List Frame}{fn0:FuncId}
theorem YK(ae:PP (bH p F) p p'){ro:Nat->Prop}{V W':World}(hw:dN (bH p F) ρ ro V W')(dY:∀b,W'.heap.size<=b->¬ro b)(h:hh p F p' (bH p F) ρ (some ([],fn0,false)) f bj)(hm:f.mode=.returning)(aV:f.defers=[])
  (gO:(p'.funcs[f.fn]?).map (·.results)=(p.funcs[f.fn]?).map (·.results))
  {fr:Tape->Nat->Frame} {nm:Tape->Nat->List Frame} {w2:Tape->Nat->World} {es:Tape->Nat->Array Event}
  (ai:∀τ d,stepG p true (G f [cO]) (a8 V τ d)=.go (G (fr τ d) (nm τ d)) (w2 τ d) (es τ d)):
  ∃τ d σ v bg bF es1,stepG p' true (G bj (u'::us')) W'=.go (G (u'.finish bg) us') bF es1/\fr τ d=cO.finish v/\nm τ d=[]/\aZ (bH p F) σ v bg/\dN (bH p F) σ ro (w2 τ d) bF/\Fr ρ σ ro W' bF/\∀e∈es1,ja σ ro e:=by
 have eX:bj.mode=.returning:=by
  have:=h.mode;rw[hm]at this;generalize bj.mode=m at this;cases this;rfl
 have jv:bj.defers=[]:=by
  obtain⟨ds,U,ab⟩:=h.defers;rw[aV]at U;cases U;exact ab
 have dX:=h.fn;have vn:=h.cU _ rfl rfl;obtain⟨fn,tmps,todo,defers,mode,kind,round⟩:=f;obtain⟨cC,rb,yY,yE,yZ,mZ,yR⟩:=bj;have xy:=h.tmps;have BY:=h.kind;dsimp only at hm aV eX jv dX xy BY gO vn;subst hm aV eX jv dX BY vn;cases U:p.funcs[cC]? with
 |none=>
  rw[U]at gO;have ab:p'.funcs[cC]?=none:=by simpa using gO
  have fp:=ai W'.tape 0;have ay:stepG p true (G ⟨cC,tmps,todo,[],.returning,.normal,round⟩ [cO]) (a8 V W'.tape 0)=.go (G (cO.finish (tmps.getD 0 undef)) []) (a8 V W'.tape 0) #[]:=by simp only[G,stepG,unwind,U];rfl
  rw[ay]at fp;injection fp with aK aO bS;injection aK with b8 en;refine⟨W'.tape,0,ρ,tmps.getD 0 undef,rb.getD 0 undef,W',#[],?_,b8.symm,en.symm,yq xy 0,?_,Fr.refl _ _ _,by simp⟩
  ·simp only[G,stepG,unwind,ab,doReturn]
  ·rw[←aO];exact hw.a8 _ _
 |some g=>
  rw[U]at gO;obtain⟨g',ab,al⟩:=Option.map_eq_some_iff.1 gO;obtain⟨τ,aB⟩:=(HC ae hw.ok g g' al xy).run V W' #[] 0 hw dY;have aB:=aB τ λ_ _ _=>rfl;have fp:=ai τ 0;have ay:stepG p true (G ⟨cC,tmps,todo,[],.returning,.normal,round⟩ [cO]) (a8 V τ 0)=GStep.after (seen p cC ((results g tmps).runT p (a8 V τ 0) #[]).2) (match((results g tmps).runT p (a8 V τ 0) #[]).1 with
    |.ok v w=>.go (G (cO.finish v) []) w #[]
    |.halt (.stuck s) w=>.ended (.stuck s (Frame.pos p ⟨cC,tmps,todo,[],.returning,.normal,round⟩)) w
    |.halt _ w=>.ended (.stuck "return: the result variables cannot be read" (Frame.pos p ⟨cC,tmps,todo,[],.returning,.normal,round⟩)) w):=by
   simp only[G,stepG,unwind,U];generalize(results g tmps).runT p (a8 V τ 0) #[]=r;obtain⟨r,e⟩:=r;cases r with
   |ok v w=>rfl
   |halt x w=>cases x<;>rfl
  rw[ay]at fp;rw[Sem.runT_fst]at fp;cases ad:(results g tmps).run p (a8 V τ 0)with
  |ok v w1=>
   rw[ad]at aB fp;obtain⟨σ,bg,bF,es1,k1,bf,bP,cX,fi⟩:=aB;simp only[GStep.after]at fp;injection fp with aK aO bS;injection aK with b8 en;refine⟨τ,0,σ,v,bg,bF,seen p' cC (#[]++es1)++#[],?_,b8.symm,en.symm,bf,?_,cX,λe he=>?_⟩
   ·simp only[G,stepG,unwind,ab];rw[k1];rfl
   ·rw[←aO];exact bP
   ·simp only[Array.append_empty]at he;have:=uv (p:=p') cC (#[]++es1) e he;exact fi e (by simpa using this)
  |halt x w1=>
   rw[ad]at fp;cases x<;>simp[GStep.after]at fp
end
section
variable{p p':Program}{F:FuncId->Bool}{fn0:FuncId}{ro:Nat->Prop}{W0:World}{Q:Machine->Outcome->World->Trace->Prop}{u':Frame}{us':List Frame}
theorem YL{R:Value->World->Prop}(ae:PP (bH p F) p p')(dH:pk p p' F)(gO:(p'.funcs[fn0]?).map (·.results)=(p.funcs[fn0]?).map (·.results))
  {f:Frame} {cs:List Frame} {V:World} (h:m7 p (mM R) f cs V):∀(bj:Frame)(cs':List Frame)(S:Nat->Prop)(ρ:bA)(W:World)(gs:Array Goroutine)(sl:Option (Nat×Nat))(t:Trace)(q:Nat->Nat),
   CK p p' F ([],fn0,false) dv (u'::us') ρ (f,cs) (bj,cs')->oP p p' F ro W0 S ρ V W (G bj cs') gs t q ->
   (∀(σ:bA)(v bg:Value)(k3 bF:World)(hQ:Array Goroutine)(lr:Option (Nat×Nat))(t1:Trace)(cy:Nat->Nat),(∃τ d,R v (a8 k3 τ d))->cN ρ σ->aZ (bH p F) σ v bg->oP p p' F ro W0 S σ k3 bF (G (u'.finish bg) us') hQ t1 cy->Ends p' Q (crowd hQ bF lr) t1) ->
   Ends p' Q (crowd gs W sl) t:=by
 induction h with
 |@done fr cs w h=>
  intro bj cs' S ρ W gs sl t q h6 hm _;exfalso;obtain⟨U,_⟩:=h w.tape 0;subst U;rcases h6 with h|⟨g,a,a',us,us',aK,aO,ao,aN,au,bh⟩
  ·obtain⟨_,_,_,_,aK,_,aO⟩:=h.shape;cases aK;exact aO rfl
  ·injection aK with bS b8;subst b8;cases bh
 |@step fr cs V hz nm w2 es he bh ah k az=>
  intro bj cs' S ρ W gs sl t q h6;have s9:=@Ri _ _ _ jx _ _ _ _ _ _ _ h6 he;clear h6;generalize e3:sumTo gs.size q=M;induction M using Nat.strongRecOn generalizing S W gs sl t q with
  |_ M KT=>
   intro hm re;rcases Ka (sl:=sl) hm.g0 rfl hm.ey hm.pa with⟨d,fT,oD⟩|⟨ed,d,fT,ops,dF,oD,bX,rP,ak,BZ,tz,aU⟩
   ·have hm:=hm.at (p:=p) d;have aU:0<gs.size:=(Array.getElem?_eq_some_iff.1 hm.g0).1;have T4:∀(σ:bA)(k3 bF:World)(g1:Goroutine)(a:Goroutine)(es1:Array Event),Fr ρ σ ro (W.at d) bF->dN (bH p F) σ ro k3 bF->(∀e∈es1,ja σ ro e)->oP p p' F ro W0 S σ k3 bF g1 ((gs.map (woken p' (G bj cs') g1 bF)).setIfInBounds 0 g1) (t++MemOp.ofEvents 0 bj.fn bj.place es1) q:=λσ k3 bF g1 a es1 aJ al bm=>by
     have nk:∀b,S b->∀a,¬σ a b:=λb hb a bL=>by
      rcases aJ.new a b bL with h|h
      ·exact hm.ma b hb a h
      ·exact absurd (hm.shl b hb) (by omega)
     have gX:∀a b,σ a b->b<bF.heap.size:=λa b bL=>by
      obtain⟨_,_,_,k,_⟩:=al.obj _ _ bL;exact(Array.getElem?_eq_some_iff.1 k).1
     refine⟨by simp[aU],Leavers.step0 hm.ey hm.g0,(hm.pa.mono aJ.size).own bm nk gX,λop aE=>?_,nk,λb hb=>Nat.lt_of_lt_of_le (hm.shl b hb) aJ.size,al,λb hb=>hm.og b (Nat.le_trans aJ.size hb),λa b bL hb=>?_,⟨Nat.le_trans hm.db.size aJ.size,aJ.os.trans hm.db.os,aJ.out.trans hm.db.out,λb hb=>?_⟩⟩
     ·simp only[Array.size_setIfInBounds,Array.size_map];rcases Array.mem_append.1 aE with h|h
      ·exact hm.k4 op h
      ·obtain⟨e,_,rfl⟩:=Go.Conc.mem_ofEvents h;exact aU
     ·rcases aJ.new a b bL with h|h
      ·exact hm.old a b h hb
      ·exact absurd (Nat.lt_of_lt_of_le hb hm.db.size) (by omega)
     ·refine(aJ.keep b (Nat.lt_of_lt_of_le hb hm.db.size) ?_).trans (hm.db.blk b hb);by_cases hex:∃a,ρ a b
      ·obtain⟨a,au⟩:=hex;exact .inr (hm.old a b au hb)
      ·exact .inl λa au=>hex ⟨a,au⟩
    by_cases il:fr.mode=.returning->fr.defers=[]->cs≠[dv]
    ·have mD:wF fr:=by
      cases s9 with
      |bot h=>exact noMark h (by simp[rr])
      |cons h _=>exact noMark h (by simp[rr])
     obtain⟨τ,d2,σ,f1,cs1,bF,es1,U,ab,al,aJ,bm,_,_⟩:=Ia (main:=true) ae dH hm.wr hm.og s9 il mD bh ah;have sS:=runT_crowd_go (P:=p') (sl:=fT) (i:=0) hm.g0 (show stepG p' (0==0) (G bj cs') (W.at d)=_ from U);exact Ends.next (oD.trans sS) (az τ d2 f1 cs1 S σ bF _ fT _ q ab (T4 σ _ bF _ (G bj cs') es1 aJ al bm) λGs v bg k3 bF hQ lr t1 cy cn hle=>re Gs v bg k3 bF hQ lr t1 cy cn (aJ.le.trans hle))
    ·have hcs:cs=[dv]:=Classical.byContradiction λh=>il λ_ _=>h;have jZ:fr.mode=.returning:=Classical.byContradiction λh=>il λU _=>absurd U h;have iY:fr.defers=[]:=Classical.byContradiction λh=>il λ_ U=>absurd U h;subst hcs;cases s9 with
     |cons _ h=>cases h with
      |cons _ ab=>cases ab
     |bot h=>
      have dX:=h.nn _ rfl;dsimp only at dX;obtain⟨τ,d2,σ,v,bg,bF,es1,U,ab,al,aJ,bm,bI,cS⟩:=YK (fn0:=fn0) (u':=u') (us':=us') ae hm.wr hm.og h jZ iY (by rw[dX];exact gO) bh;have xt:=k τ d2;rw[ab,al]at xt;have cn:=@IC jx _ _ _ _ xt;have sS:=runT_crowd_go (P:=p') (sl:=fT) (i:=0) hm.g0 (show stepG p' (0==0) (G bj (u'::us')) (W.at d)=_ from U);exact Ends.next (oD.trans sS) (re σ v bg _ bF _ fT _ q cn bI.le aJ (T4 σ _ bF _ (G bj (u'::us')) es1 bI bm cS))
   ·exact Ends.next oD (KT (sumTo ed.size dF) (by rw[bX,←e3];exact aU) S (W.at d) ed fT _ dF rfl ⟨rP,ak,tz,λop aE=>(by rw[bX];exact(Array.mem_append.1 aE).elim (hm.k4 op) (BZ op)),hm.ma,hm.shl,hm.wr.B0 _ d,hm.og,hm.old,⟨hm.db.size,hm.db.os,hm.db.out,hm.db.blk⟩⟩ re)
 |spec _ h _ _=>exact(h default 0).elim
 |lu h _ _ _ _ _ _=>exact h.elim
end
end
end Go.Proofs.YtlminnpaeaganaaGreat
