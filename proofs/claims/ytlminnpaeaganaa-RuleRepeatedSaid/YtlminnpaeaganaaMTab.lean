/- The table of the residual trees. No condition. -/
import Derived.Test.YtlminnpaeaganaaMTrA
import Derived.Test.YtlminnpaeaganaaMTrB
import Derived.Test.YtlminnpaeaganaaMTrC
import Derived.Test.YtlminnpaeaganaaMTrD
import Derived.Test.YtlminnpaeaganaaMTrE
import Derived.Test.YtlminnpaeaganaaMTrF
namespace Go.Proofs.Ytlminnpaeaganaa
open Go Go.RowKit
set_option maxRecDepth 100000
def tabL : List (FuncId × Tree) := [(3, t3), (4, t4), (5, t5), (6, t6), (7, t7), (8, t8), (9, t9), (10, t10), (12, t12), (13, t13), (14, t14), (15, t15), (16, t16), (17, t17), (19, t19), (20, t20), (21, t21), (22, t22), (23, t23), (24, t24), (25, t25), (26, t26), (27, t27), (28, t28), (29, t29), (30, t30), (31, t31), (32, t32), (33, t33), (34, t34), (35, t35), (36, t36), (37, t37), (38, t38), (39, t39), (40, t40), (41, t41), (42, t42), (43, t43), (44, t44), (45, t45), (46, t46), (47, t47), (48, t48), (49, t49), (50, t50), (51, t51), (52, t52), (53, t53), (54, t54), (55, t55), (56, t56), (57, t57), (58, t58), (59, t59), (60, t60), (61, t61), (62, t62), (63, t63), (64, t64), (65, t65), (67, t67), (68, t68), (69, t69), (70, t70), (71, t71), (72, t72), (73, t73), (74, t74), (75, t75), (76, t76), (77, t77), (78, t78), (79, t79), (80, t80), (81, t81), (82, t82), (83, t83), (84, t84), (85, t85), (88, t88), (89, t89), (90, t90), (91, t91), (92, t92), (93, t93), (94, t94), (95, t95), (96, t96), (97, t97), (98, t98), (101, t101), (102, t102), (103, t103), (104, t104), (105, t105), (106, t106), (107, t107), (108, t108), (109, t109), (110, t110), (111, t111), (112, t112), (113, t113), (114, t114), (118, t118), (119, t119), (122, t122), (120, t120), (121, t121)]
def findT : List (FuncId × Tree) → FuncId → Option Tree
  | [], _ => none
  | (f, t) :: l, g => if f = g then some t else findT l g
def tab (g : FuncId) : Option Tree := findT tabL g
theorem findT_ok : ∀ (l : List (FuncId × Tree)), (∀ f t, (f, t) ∈ l → ∃ X W fn, TreeOk Try.prog 31 ⟨18, none, none⟩ ownT f t X W fn) → ∀ g t, findT l g = some t → ∃ X W fn, TreeOk Try.prog 31 ⟨18, none, none⟩ ownT g t X W fn
  | [], _, g, t, h => by cases h
  | (f, u) :: l, hl, g, t, h => by
    simp only [findT] at h
    split at h
    · rename_i e
      injection h with h
      subst e; subst h
      exact hl _ _ (by simp)
    · exact findT_ok l (fun f t h => hl f t (by simp [h])) g t h
theorem tab_ok : TabOk Try.prog 31 ⟨18, none, none⟩ ownT tab := by
  refine ⟨findT_ok tabL fun f t h => ?_, fun g r h => ?_⟩
  · simp only [tabL, List.mem_cons, Prod.mk.injEq, List.mem_nil_iff, or_false] at h
    rcases h with ⟨rfl, rfl⟩ | ⟨rfl, rfl⟩ | ⟨rfl, rfl⟩ | ⟨rfl, rfl⟩ | ⟨rfl, rfl⟩ | ⟨rfl, rfl⟩ | ⟨rfl, rfl⟩ | ⟨rfl, rfl⟩ | ⟨rfl, rfl⟩ | ⟨rfl, rfl⟩ | ⟨rfl, rfl⟩ | ⟨rfl, rfl⟩ | ⟨rfl, rfl⟩ | ⟨rfl, rfl⟩ | ⟨rfl, rfl⟩ | ⟨rfl, rfl⟩ | ⟨rfl, rfl⟩ | ⟨rfl, rfl⟩ | ⟨rfl, rfl⟩ | ⟨rfl, rfl⟩ | ⟨rfl, rfl⟩ | ⟨rfl, rfl⟩ | ⟨rfl, rfl⟩ | ⟨rfl, rfl⟩ | ⟨rfl, rfl⟩ | ⟨rfl, rfl⟩ | ⟨rfl, rfl⟩ | ⟨rfl, rfl⟩ | ⟨rfl, rfl⟩ | ⟨rfl, rfl⟩ | ⟨rfl, rfl⟩ | ⟨rfl, rfl⟩ | ⟨rfl, rfl⟩ | ⟨rfl, rfl⟩ | ⟨rfl, rfl⟩ | ⟨rfl, rfl⟩ | ⟨rfl, rfl⟩ | ⟨rfl, rfl⟩ | ⟨rfl, rfl⟩ | ⟨rfl, rfl⟩ | ⟨rfl, rfl⟩ | ⟨rfl, rfl⟩ | ⟨rfl, rfl⟩ | ⟨rfl, rfl⟩ | ⟨rfl, rfl⟩ | ⟨rfl, rfl⟩ | ⟨rfl, rfl⟩ | ⟨rfl, rfl⟩ | ⟨rfl, rfl⟩ | ⟨rfl, rfl⟩ | ⟨rfl, rfl⟩ | ⟨rfl, rfl⟩ | ⟨rfl, rfl⟩ | ⟨rfl, rfl⟩ | ⟨rfl, rfl⟩ | ⟨rfl, rfl⟩ | ⟨rfl, rfl⟩ | ⟨rfl, rfl⟩ | ⟨rfl, rfl⟩ | ⟨rfl, rfl⟩ | ⟨rfl, rfl⟩ | ⟨rfl, rfl⟩ | ⟨rfl, rfl⟩ | ⟨rfl, rfl⟩ | ⟨rfl, rfl⟩ | ⟨rfl, rfl⟩ | ⟨rfl, rfl⟩ | ⟨rfl, rfl⟩ | ⟨rfl, rfl⟩ | ⟨rfl, rfl⟩ | ⟨rfl, rfl⟩ | ⟨rfl, rfl⟩ | ⟨rfl, rfl⟩ | ⟨rfl, rfl⟩ | ⟨rfl, rfl⟩ | ⟨rfl, rfl⟩ | ⟨rfl, rfl⟩ | ⟨rfl, rfl⟩ | ⟨rfl, rfl⟩ | ⟨rfl, rfl⟩ | ⟨rfl, rfl⟩ | ⟨rfl, rfl⟩ | ⟨rfl, rfl⟩ | ⟨rfl, rfl⟩ | ⟨rfl, rfl⟩ | ⟨rfl, rfl⟩ | ⟨rfl, rfl⟩ | ⟨rfl, rfl⟩ | ⟨rfl, rfl⟩ | ⟨rfl, rfl⟩ | ⟨rfl, rfl⟩ | ⟨rfl, rfl⟩ | ⟨rfl, rfl⟩ | ⟨rfl, rfl⟩ | ⟨rfl, rfl⟩ | ⟨rfl, rfl⟩ | ⟨rfl, rfl⟩ | ⟨rfl, rfl⟩ | ⟨rfl, rfl⟩ | ⟨rfl, rfl⟩ | ⟨rfl, rfl⟩ | ⟨rfl, rfl⟩ | ⟨rfl, rfl⟩ | ⟨rfl, rfl⟩ | ⟨rfl, rfl⟩ | ⟨rfl, rfl⟩ | ⟨rfl, rfl⟩ | ⟨rfl, rfl⟩ | ⟨rfl, rfl⟩ | ⟨rfl, rfl⟩
    · exact ⟨_, _, _, k3⟩
    · exact ⟨_, _, _, k4⟩
    · exact ⟨_, _, _, k5⟩
    · exact ⟨_, _, _, k6⟩
    · exact ⟨_, _, _, k7⟩
    · exact ⟨_, _, _, k8⟩
    · exact ⟨_, _, _, k9⟩
    · exact ⟨_, _, _, k10⟩
    · exact ⟨_, _, _, k12⟩
    · exact ⟨_, _, _, k13⟩
    · exact ⟨_, _, _, k14⟩
    · exact ⟨_, _, _, k15⟩
    · exact ⟨_, _, _, k16⟩
    · exact ⟨_, _, _, k17⟩
    · exact ⟨_, _, _, k19⟩
    · exact ⟨_, _, _, k20⟩
    · exact ⟨_, _, _, k21⟩
    · exact ⟨_, _, _, k22⟩
    · exact ⟨_, _, _, k23⟩
    · exact ⟨_, _, _, k24⟩
    · exact ⟨_, _, _, k25⟩
    · exact ⟨_, _, _, k26⟩
    · exact ⟨_, _, _, k27⟩
    · exact ⟨_, _, _, k28⟩
    · exact ⟨_, _, _, k29⟩
    · exact ⟨_, _, _, k30⟩
    · exact ⟨_, _, _, k31⟩
    · exact ⟨_, _, _, k32⟩
    · exact ⟨_, _, _, k33⟩
    · exact ⟨_, _, _, k34⟩
    · exact ⟨_, _, _, k35⟩
    · exact ⟨_, _, _, k36⟩
    · exact ⟨_, _, _, k37⟩
    · exact ⟨_, _, _, k38⟩
    · exact ⟨_, _, _, k39⟩
    · exact ⟨_, _, _, k40⟩
    · exact ⟨_, _, _, k41⟩
    · exact ⟨_, _, _, k42⟩
    · exact ⟨_, _, _, k43⟩
    · exact ⟨_, _, _, k44⟩
    · exact ⟨_, _, _, k45⟩
    · exact ⟨_, _, _, k46⟩
    · exact ⟨_, _, _, k47⟩
    · exact ⟨_, _, _, k48⟩
    · exact ⟨_, _, _, k49⟩
    · exact ⟨_, _, _, k50⟩
    · exact ⟨_, _, _, k51⟩
    · exact ⟨_, _, _, k52⟩
    · exact ⟨_, _, _, k53⟩
    · exact ⟨_, _, _, k54⟩
    · exact ⟨_, _, _, k55⟩
    · exact ⟨_, _, _, k56⟩
    · exact ⟨_, _, _, k57⟩
    · exact ⟨_, _, _, k58⟩
    · exact ⟨_, _, _, k59⟩
    · exact ⟨_, _, _, k60⟩
    · exact ⟨_, _, _, k61⟩
    · exact ⟨_, _, _, k62⟩
    · exact ⟨_, _, _, k63⟩
    · exact ⟨_, _, _, k64⟩
    · exact ⟨_, _, _, k65⟩
    · exact ⟨_, _, _, k67⟩
    · exact ⟨_, _, _, k68⟩
    · exact ⟨_, _, _, k69⟩
    · exact ⟨_, _, _, k70⟩
    · exact ⟨_, _, _, k71⟩
    · exact ⟨_, _, _, k72⟩
    · exact ⟨_, _, _, k73⟩
    · exact ⟨_, _, _, k74⟩
    · exact ⟨_, _, _, k75⟩
    · exact ⟨_, _, _, k76⟩
    · exact ⟨_, _, _, k77⟩
    · exact ⟨_, _, _, k78⟩
    · exact ⟨_, _, _, k79⟩
    · exact ⟨_, _, _, k80⟩
    · exact ⟨_, _, _, k81⟩
    · exact ⟨_, _, _, k82⟩
    · exact ⟨_, _, _, k83⟩
    · exact ⟨_, _, _, k84⟩
    · exact ⟨_, _, _, k85⟩
    · exact ⟨_, _, _, k88⟩
    · exact ⟨_, _, _, k89⟩
    · exact ⟨_, _, _, k90⟩
    · exact ⟨_, _, _, k91⟩
    · exact ⟨_, _, _, k92⟩
    · exact ⟨_, _, _, k93⟩
    · exact ⟨_, _, _, k94⟩
    · exact ⟨_, _, _, k95⟩
    · exact ⟨_, _, _, k96⟩
    · exact ⟨_, _, _, k97⟩
    · exact ⟨_, _, _, k98⟩
    · exact ⟨_, _, _, k101⟩
    · exact ⟨_, _, _, k102⟩
    · exact ⟨_, _, _, k103⟩
    · exact ⟨_, _, _, k104⟩
    · exact ⟨_, _, _, k105⟩
    · exact ⟨_, _, _, k106⟩
    · exact ⟨_, _, _, k107⟩
    · exact ⟨_, _, _, k108⟩
    · exact ⟨_, _, _, k109⟩
    · exact ⟨_, _, _, k110⟩
    · exact ⟨_, _, _, k111⟩
    · exact ⟨_, _, _, k112⟩
    · exact ⟨_, _, _, k113⟩
    · exact ⟨_, _, _, k114⟩
    · exact ⟨_, _, _, k118⟩
    · exact ⟨_, _, _, k119⟩
    · exact ⟨_, _, _, k122⟩
    · exact ⟨_, _, _, k120⟩
    · exact ⟨_, _, _, k121⟩
  · unfold ownT at h
    split at h
    · rename_i e; subst e; rfl
    split at h
    · rename_i e; subst e; rfl
    split at h
    · rename_i e; subst e; rfl
    split at h
    · rename_i e; subst e; rfl
    split at h
    · rename_i e; subst e; rfl
    cases h
def E (P : Program) (k : Nat) (ω : Orc) (g : FuncId) (a : List PV) : Option PV := evalF P 31 tab rollC 4096 k ω g a
theorem e_sound (k : Nat) : CSound Try.prog DiceI (E Try.prog k) := (evalF_sound (by kernel_rfl) tab_ok roll_sound new_ok k).1
end Go.Proofs.Ytlminnpaeaganaa
