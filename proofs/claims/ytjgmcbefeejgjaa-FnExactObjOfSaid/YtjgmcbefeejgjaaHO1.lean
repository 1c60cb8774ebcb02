/-
  My own text (road H): HO1.
-/
import Derived.Test.YtjgmcbefeejgjaaHO0
set_option linter.unusedSimpArgs false
namespace HO
open Go Go.Proofs HK
@[simp] def instr (a b c d : Int) : AV := .agg [.int .i64 a, .int .i64 b, .int .i64 c, .int .i64 d]
def objOf (a b : Int) : Int := if 8 ≤ a ∧ a < 15 then b else 0
set_option maxHeartbeats 1000000 in
theorem shared_spec (a : Int) : Fn Try.prog 41 [.int .i64 a] (.bool (decide (8 ≤ a) && decide (a ≤ 15))) := by
  refine Fn.intro Try.func41 (by decide) rfl (rs := [.tmp 2]) rfl Try.ntmps41 (by simp) ?_
  refine SW.regionK fun K hK => ?_
  simp
  refine hK _ ?_; clear hK K
  refine SW.regionK fun K hK => ?_
  simp
  refine hK _ ?_; clear hK K
  refine SW.ret ?_
  simp [Ex.then, Ex.inBlock]
  all_goals first | done | omega | (split <;> simp_all <;> omega)
set_option maxHeartbeats 1000000 in
theorem objOf_spec (a b c d : Int) : Fn Try.prog 10 [instr a b c d] (.int .i64 (objOf a b)) := by
  refine Fn.intro Try.func10 (by decide) rfl (rs := [.tmp 2]) rfl Try.ntmps10 (by simp) ?_
  refine SW.regionK fun K hK => ?_
  simp
  refine hK _ ?_; clear hK K
  refine SW.seqK fun K1 hK1 => ?_
  refine SW.regionK fun K hK => ?_
  simp
  refine CallK.fz (shared_spec _) ?_
  simp
  refine hK _ ?_; clear hK K
  refine SW.cond _ rfl (by simp) ?_ ?_
  case' refine_2 =>
    intro hb1
    refine SW.skip ?_
    refine hK1 _ ?_; clear hK1 K1
    refine SW.regionK fun K hK => ?_
    simp
    refine hK _ ?_; clear hK K
    refine SW.ret ?_
    simp [Ex.then, Ex.inBlock]
    simp [objOf]
    simp at hb1
    omega
  rotate_right
  case' _ =>
    intro hb1
    refine SW.regionK fun K hK => ?_
    simp
    refine hK _ ?_; clear hK K
    refine SW.ret ?_
    simp [Ex.then, Ex.inBlock]
    simp [objOf]
    simp at hb1
    omega
set_option maxHeartbeats 1000000 in
theorem objOf_impl (a b c d : Int) : Fn Try.prog 12 [instr a b c d] (.int .i64 (objOf a b)) := by
  refine Fn.intro Try.func12 (by decide) rfl (rs := [.tmp 2]) rfl Try.ntmps12 (by simp) ?_
  refine SW.regionK fun K hK => ?_
  simp
  refine hK _ ?_; clear hK K
  refine SW.seqK fun K1 hK1 => ?_
  refine SW.regionK fun K hK => ?_
  simp
  refine hK _ ?_; clear hK K
  refine SW.block ?_
  refine SW.seqK fun K2 hK2 => ?_
  refine SW.regionK fun K hK => ?_
  simp
  refine hK _ ?_; clear hK K
  refine SW.cond _ rfl (by simp) ?_ ?_
  case' refine_2 =>
    intro hb1
    first
    | (exfalso; simp at hb1; done)
    | (
      refine SW.regionK fun K hK => ?_
      simp
      refine hK _ ?_; clear hK K
      refine SW.cond _ rfl (by simp) ?_ ?_
      case' refine_2 =>
        intro hb2
        first
        | (exfalso; simp at hb2; done)
        | (
          refine SW.regionK fun K hK => ?_
          simp
          refine hK _ ?_; clear hK K
          refine SW.cond _ rfl (by simp) ?_ ?_
          case' refine_2 =>
            intro hb3
            first
            | (exfalso; simp at hb3; done)
            | (
              refine SW.regionK fun K hK => ?_
              simp
              refine hK _ ?_; clear hK K
              refine SW.cond _ rfl (by simp) ?_ ?_
              case' refine_2 =>
                intro hb4
                first
                | (exfalso; simp at hb4; done)
                | (
                  refine SW.regionK fun K hK => ?_
                  simp
                  refine hK _ ?_; clear hK K
                  refine SW.cond _ rfl (by simp) ?_ ?_
                  case' refine_2 =>
                    intro hb5
                    first
                    | (exfalso; simp at hb5; done)
                    | (
                      refine SW.regionK fun K hK => ?_
                      simp
                      refine hK _ ?_; clear hK K
                      refine SW.cond _ rfl (by simp) ?_ ?_
                      case' refine_2 =>
                        intro hb6
                        first
                        | (exfalso; simp at hb6; done)
                        | (
                          refine SW.regionE fun K hK => ?_
                          simp
                          refine hK _ ?_; clear hK K)
                      rotate_right
                      case' _ =>
                        intro hb6
                        first
                        | (exfalso; simp at hb6; done)
                        | (
                          refine SW.skip ?_))
                  rotate_right
                  case' _ =>
                    intro hb5
                    first
                    | (exfalso; simp at hb5; done)
                    | (
                      refine SW.skip ?_))
              rotate_right
              case' _ =>
                intro hb4
                first
                | (exfalso; simp at hb4; done)
                | (
                  refine SW.skip ?_))
          rotate_right
          case' _ =>
            intro hb3
            first
            | (exfalso; simp at hb3; done)
            | (
              refine SW.skip ?_))
      rotate_right
      case' _ =>
        intro hb2
        first
        | (exfalso; simp at hb2; done)
        | (
          refine SW.skip ?_))
  rotate_right
  case' _ =>
    intro hb1
    first
    | (exfalso; simp at hb1; done)
    | (
      refine SW.skip ?_)
  all_goals (
    refine hK2 _ ?_; clear hK2 K2
    refine SW.cond _ rfl (by simp) ?_ ?_
    case' refine_2 =>
      intro hb7
      first
      | (exfalso; simp at hb7; done)
      | (
        refine SW.skip ?_
        refine hK1 _ ?_; clear hK1 K1
        refine SW.regionK fun K hK => ?_
        simp
        refine hK _ ?_; clear hK K
        refine SW.ret ?_
        simp [Ex.then, Ex.inBlock]
        all_goals simp_all [objOf]
        all_goals omega)
    rotate_right
    case' _ =>
      intro hb7
      first
      | (exfalso; simp at hb7; done)
      | (
        refine SW.regionK fun K hK => ?_
        simp
        refine hK _ ?_; clear hK K
        refine SW.ret ?_
        simp [Ex.then, Ex.inBlock]
        all_goals simp_all [objOf]
        all_goals omega))
set_option maxHeartbeats 1000000 in
theorem toInstr_ok (a b c d : Int) : Fn Try.prog 11 [instr a b c d] (instr a b c d) := by
  refine Fn.intro Try.func11 (by decide) rfl (rs := [.cell 2 25]) rfl Try.ntmps11 (by simp) ?_
  refine SW.regionK fun K hK => ?_
  simp
  refine hK _ ?_; clear hK K
  refine SW.regionK fun K hK => ?_
  simp
  refine hK _ ?_; clear hK K
  refine SW.regionK fun K hK => ?_
  simp
  refine hK _ ?_; clear hK K
  refine SW.regionK fun K hK => ?_
  simp
  refine hK _ ?_; clear hK K
  refine SW.regionK fun K hK => ?_
  simp
  refine hK _ ?_; clear hK K
  refine SW.regionK fun K hK => ?_
  simp
  refine hK _ ?_; clear hK K
  refine SW.regionK fun K hK => ?_
  simp
  refine hK _ ?_; clear hK K
  refine SW.ret ?_
  simp [Ex.then, Ex.inBlock]
set_option maxHeartbeats 1000000 in
theorem law_objOf (a b c d : Int) : Fn Try.prog 3 [instr a b c d] (.bool true) := by
  refine Fn.intro Try.func3 (by decide) rfl (rs := [.tmp 2]) rfl Try.ntmps3 (by simp) ?_
  refine SW.regionK fun K hK => ?_
  simp
  refine hK _ ?_; clear hK K
  refine SW.regionK fun K hK => ?_
  simp
  refine CallK.fz (toInstr_ok _ _ _ _) ?_
  simp
  refine CallK.fz (objOf_spec _ _ _ _) ?_
  simp
  refine hK _ ?_; clear hK K
  refine SW.regionK fun K hK => ?_
  simp
  refine CallK.fz (toInstr_ok _ _ _ _) ?_
  simp
  refine CallK.fz (objOf_impl _ _ _ _) ?_
  simp
  refine hK _ ?_; clear hK K
  refine SW.seqK fun K1 hK1 => ?_
  refine SW.regionK fun K hK => ?_
  simp
  refine hK _ ?_; clear hK K
  refine SW.cond _ rfl (by simp) ?_ ?_
  case' refine_2 =>
    intro hb1
    refine SW.skip ?_
    refine hK1 _ ?_; clear hK1 K1
    refine SW.regionK fun K hK => ?_
    simp
    refine hK _ ?_; clear hK K
    refine SW.ret ?_
    simp [Ex.then, Ex.inBlock]
    all_goals simp_all
  rotate_right
  case' _ =>
    intro hb1
    refine SW.regionK fun K hK => ?_
    simp
    refine hK _ ?_; clear hK K
    refine SW.ret ?_
    simp [Ex.then, Ex.inBlock]
    all_goals simp_all
end HO
