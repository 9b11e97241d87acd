/- The table of the residual trees. No condition. -/
import Derived.Test.YtlminnpaeaganaaGreatMTrA
import Derived.Test.YtlminnpaeaganaaGreatMTrB
import Derived.Test.YtlminnpaeaganaaGreatMTrC
import Derived.Test.YtlminnpaeaganaaGreatMTrD
namespace Go.Proofs.YtlminnpaeaganaaGreat
open Go Go.RowKit
set_option maxRecDepth 100000
def tabL : List (FuncId × Tree) := [(8, t8), (12, t12), (13, t13), (14, t14), (16, t16), (18, t18), (20, t20), (21, t21), (22, t22), (23, t23), (24, t24), (25, t25), (29, t29), (30, t30), (35, t35), (36, t36), (37, t37), (38, t38), (39, t39), (40, t40), (41, t41), (42, t42), (43, t43), (45, t45), (47, t47), (50, t50), (51, t51), (52, t52), (53, t53), (54, t54), (55, t55), (56, t56), (57, t57), (59, t59), (60, t60), (61, t61), (63, t63), (64, t64), (67, t67), (68, t68), (69, t69), (70, t70), (72, t72), (73, t73), (77, t77), (78, t78), (79, t79), (80, t80), (81, t81), (82, t82), (83, t83), (84, t84), (88, t88), (89, t89), (90, t90), (91, t91), (92, t92), (93, t93), (94, t94), (95, t95), (96, t96), (97, t97), (98, t98), (99, t99), (106, t106), (107, t107), (109, t109), (110, t110), (111, t111), (112, t112), (113, t113), (114, t114), (115, t115), (116, t116), (117, t117), (118, t118), (121, t121), (122, t122), (123, t123), (124, t124), (125, t125), (126, t126), (130, t130), (131, t131), (150, t150), (151, t151), (163, t163)]
def findT : List (FuncId × Tree) → FuncId → Option Tree
  | [], _ => none
  | (f, t) :: l, g => if f = g then some t else findT l g
def tab (g : FuncId) : Option Tree := findT tabL g
theorem findT_ok : ∀ (l : List (FuncId × Tree)), (∀ f t, (f, t) ∈ l → ∃ X W fn, TreeOk Tryz.prog 23 ⟨11, some 86, some 87⟩ ownT f t X W fn) → ∀ g t, findT l g = some t → ∃ X W fn, TreeOk Tryz.prog 23 ⟨11, some 86, some 87⟩ ownT g t X W fn
  | [], _, g, t, h => by cases h
  | (f, u) :: l, hl, g, t, h => by
    simp only [findT] at h
    split at h
    · rename_i e
      injection h with h
      subst e; subst h
      exact hl _ _ (by simp)
    · exact findT_ok l (fun f t h => hl f t (by simp [h])) g t h
theorem tab_ok : TabOk Tryz.prog 23 ⟨11, some 86, some 87⟩ ownT tab := by
  refine ⟨findT_ok tabL fun f t h => ?_, fun g r h => ?_⟩
  · simp only [tabL, List.mem_cons, Prod.mk.injEq, List.mem_nil_iff, or_false] at h
    rcases h with ⟨rfl, rfl⟩ | ⟨rfl, rfl⟩ | ⟨rfl, rfl⟩ | ⟨rfl, rfl⟩ | ⟨rfl, rfl⟩ | ⟨rfl, rfl⟩ | ⟨rfl, rfl⟩ | ⟨rfl, rfl⟩ | ⟨rfl, rfl⟩ | ⟨rfl, rfl⟩ | ⟨rfl, rfl⟩ | ⟨rfl, rfl⟩ | ⟨rfl, rfl⟩ | ⟨rfl, rfl⟩ | ⟨rfl, rfl⟩ | ⟨rfl, rfl⟩ | ⟨rfl, rfl⟩ | ⟨rfl, rfl⟩ | ⟨rfl, rfl⟩ | ⟨rfl, rfl⟩ | ⟨rfl, rfl⟩ | ⟨rfl, rfl⟩ | ⟨rfl, rfl⟩ | ⟨rfl, rfl⟩ | ⟨rfl, rfl⟩ | ⟨rfl, rfl⟩ | ⟨rfl, rfl⟩ | ⟨rfl, rfl⟩ | ⟨rfl, rfl⟩ | ⟨rfl, rfl⟩ | ⟨rfl, rfl⟩ | ⟨rfl, rfl⟩ | ⟨rfl, rfl⟩ | ⟨rfl, rfl⟩ | ⟨rfl, rfl⟩ | ⟨rfl, rfl⟩ | ⟨rfl, rfl⟩ | ⟨rfl, rfl⟩ | ⟨rfl, rfl⟩ | ⟨rfl, rfl⟩ | ⟨rfl, rfl⟩ | ⟨rfl, rfl⟩ | ⟨rfl, rfl⟩ | ⟨rfl, rfl⟩ | ⟨rfl, rfl⟩ | ⟨rfl, rfl⟩ | ⟨rfl, rfl⟩ | ⟨rfl, rfl⟩ | ⟨rfl, rfl⟩ | ⟨rfl, rfl⟩ | ⟨rfl, rfl⟩ | ⟨rfl, rfl⟩ | ⟨rfl, rfl⟩ | ⟨rfl, rfl⟩ | ⟨rfl, rfl⟩ | ⟨rfl, rfl⟩ | ⟨rfl, rfl⟩ | ⟨rfl, rfl⟩ | ⟨rfl, rfl⟩ | ⟨rfl, rfl⟩ | ⟨rfl, rfl⟩ | ⟨rfl, rfl⟩ | ⟨rfl, rfl⟩ | ⟨rfl, rfl⟩ | ⟨rfl, rfl⟩ | ⟨rfl, rfl⟩ | ⟨rfl, rfl⟩ | ⟨rfl, rfl⟩ | ⟨rfl, rfl⟩ | ⟨rfl, rfl⟩ | ⟨rfl, rfl⟩ | ⟨rfl, rfl⟩ | ⟨rfl, rfl⟩ | ⟨rfl, rfl⟩ | ⟨rfl, rfl⟩ | ⟨rfl, rfl⟩ | ⟨rfl, rfl⟩ | ⟨rfl, rfl⟩ | ⟨rfl, rfl⟩ | ⟨rfl, rfl⟩ | ⟨rfl, rfl⟩ | ⟨rfl, rfl⟩ | ⟨rfl, rfl⟩ | ⟨rfl, rfl⟩ | ⟨rfl, rfl⟩ | ⟨rfl, rfl⟩ | ⟨rfl, rfl⟩
    · exact ⟨_, _, _, k8⟩
    · exact ⟨_, _, _, k12⟩
    · exact ⟨_, _, _, k13⟩
    · exact ⟨_, _, _, k14⟩
    · exact ⟨_, _, _, k16⟩
    · exact ⟨_, _, _, k18⟩
    · exact ⟨_, _, _, k20⟩
    · exact ⟨_, _, _, k21⟩
    · exact ⟨_, _, _, k22⟩
    · exact ⟨_, _, _, k23⟩
    · exact ⟨_, _, _, k24⟩
    · exact ⟨_, _, _, k25⟩
    · exact ⟨_, _, _, k29⟩
    · exact ⟨_, _, _, k30⟩
    · exact ⟨_, _, _, k35⟩
    · exact ⟨_, _, _, k36⟩
    · exact ⟨_, _, _, k37⟩
    · exact ⟨_, _, _, k38⟩
    · exact ⟨_, _, _, k39⟩
    · exact ⟨_, _, _, k40⟩
    · exact ⟨_, _, _, k41⟩
    · exact ⟨_, _, _, k42⟩
    · exact ⟨_, _, _, k43⟩
    · exact ⟨_, _, _, k45⟩
    · exact ⟨_, _, _, k47⟩
    · exact ⟨_, _, _, k50⟩
    · exact ⟨_, _, _, k51⟩
    · exact ⟨_, _, _, k52⟩
    · exact ⟨_, _, _, k53⟩
    · exact ⟨_, _, _, k54⟩
    · exact ⟨_, _, _, k55⟩
    · exact ⟨_, _, _, k56⟩
    · exact ⟨_, _, _, k57⟩
    · exact ⟨_, _, _, k59⟩
    · exact ⟨_, _, _, k60⟩
    · exact ⟨_, _, _, k61⟩
    · exact ⟨_, _, _, k63⟩
    · exact ⟨_, _, _, k64⟩
    · exact ⟨_, _, _, k67⟩
    · exact ⟨_, _, _, k68⟩
    · exact ⟨_, _, _, k69⟩
    · exact ⟨_, _, _, k70⟩
    · exact ⟨_, _, _, k72⟩
    · exact ⟨_, _, _, k73⟩
    · exact ⟨_, _, _, k77⟩
    · exact ⟨_, _, _, k78⟩
    · exact ⟨_, _, _, k79⟩
    · exact ⟨_, _, _, k80⟩
    · exact ⟨_, _, _, k81⟩
    · exact ⟨_, _, _, k82⟩
    · exact ⟨_, _, _, k83⟩
    · exact ⟨_, _, _, k84⟩
    · exact ⟨_, _, _, k88⟩
    · exact ⟨_, _, _, k89⟩
    · exact ⟨_, _, _, k90⟩
    · exact ⟨_, _, _, k91⟩
    · exact ⟨_, _, _, k92⟩
    · exact ⟨_, _, _, k93⟩
    · exact ⟨_, _, _, k94⟩
    · exact ⟨_, _, _, k95⟩
    · exact ⟨_, _, _, k96⟩
    · exact ⟨_, _, _, k97⟩
    · exact ⟨_, _, _, k98⟩
    · exact ⟨_, _, _, k99⟩
    · exact ⟨_, _, _, k106⟩
    · exact ⟨_, _, _, k107⟩
    · exact ⟨_, _, _, k109⟩
    · exact ⟨_, _, _, k110⟩
    · exact ⟨_, _, _, k111⟩
    · exact ⟨_, _, _, k112⟩
    · exact ⟨_, _, _, k113⟩
    · exact ⟨_, _, _, k114⟩
    · exact ⟨_, _, _, k115⟩
    · exact ⟨_, _, _, k116⟩
    · exact ⟨_, _, _, k117⟩
    · exact ⟨_, _, _, k118⟩
    · exact ⟨_, _, _, k121⟩
    · exact ⟨_, _, _, k122⟩
    · exact ⟨_, _, _, k123⟩
    · exact ⟨_, _, _, k124⟩
    · exact ⟨_, _, _, k125⟩
    · exact ⟨_, _, _, k126⟩
    · exact ⟨_, _, _, k130⟩
    · exact ⟨_, _, _, k131⟩
    · exact ⟨_, _, _, k150⟩
    · exact ⟨_, _, _, k151⟩
    · exact ⟨_, _, _, k163⟩
  · unfold ownT at h
    split at h
    · rename_i e; subst e; rfl
    split at h
    · rename_i e; subst e; rfl
    cases h
/-- What the functions answer: loops of at most 4096 rounds, calls of at most 40 levels. -/
def E (P : Program) (k : Nat) (ω : Orc) (g : FuncId) (a : List PV) : Option PV := evalF P 23 tab rollC 4096 k ω g a
theorem e_sound (k : Nat) : CSound Tryz.prog DiceI (E Tryz.prog k) := (evalF_sound (by kernel_rfl) tab_ok roll_sound new_ok k).1
end Go.Proofs.YtlminnpaeaganaaGreat
