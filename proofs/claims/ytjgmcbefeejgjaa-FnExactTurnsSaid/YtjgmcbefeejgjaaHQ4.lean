/-
  My own text (road H): HQ4.
-/
import Derived.Test.YtjgmcbefeejgjaaHQ3
import Derived.Test.YtjgmcbefeejgjaaRows
import Derived.Test.YtjgmcbefeejgjaaHB2
namespace HO
open Go Go.Proofs HK Go.RowKit
theorem own_FnExactTurns : ownKnob Try.prog.godebug = none := by kernel_rfl
set_option maxRecDepth 100000 in
theorem lifted_FnExactTurns (os : Os) (started : os.Started) (H : Type) (enc : TypeId × Value → H) :
    ReturnsInHanded {} Try.checked os 4 .any (Ytjgmcbefeejgjaa.Rows.fnExactTurnsSpec.pre6 enc Try.prog Try.f4 Ytjgmcbefeejgjaa.Rows.fnExactTurnsRow.domain false) (Ytjgmcbefeejgjaa.Rows.fnExactTurnsSpec.post enc Try.prog Try.f4 false true false false) := by
  refine law (C := Try.checked) (ts := [3]) own_FnExactTurns started (by kernel_rfl) Try.func4
    (ChangeSpec.witness6 (enc := enc) (C := Try.checked) false ⟨#[], #[.int .i64 0], []⟩ 8 (by kernel_rfl) (by kernel_rfl) (by kernel_rfl) (by kernel_rfl))
    (by kernel_rfl) (AReads.cons (rdInt.oneV (by kernel_rfl)) AReads.nil) rfl (by kernel_rfl) (by kernel_rfl) ?_ (by kernel_rfl) Try.underlying4 (fun a h => law_turns a.1 (tn_le _))
  intro H ds hl
  match ds, hl with
  | [d0], _ => rfl
theorem over_FnExactTurns : Ytjgmcbefeejgjaa.Rows.fnExactTurnsRow.holds Ytjgmcbefeejgjaa.Try.pinned (OpenSpec.ofChange Ytjgmcbefeejgjaa.Rows.fnExactTurnsSpec) :=
  OpenClaim.holds_of_wide 4 Try.f4 rfl rfl rfl rfl rfl rfl rfl ⟨rfl, rfl, rfl, rfl, rfl⟩ rfl rfl rfl rfl rfl (by kernel_rfl) Try.func4 (by kernel_rfl)
    (of_decide_eq_true (by kernel_rfl)) (by unfold Func.isWrapper; first | (rw [if_pos (by decide +kernel)]; kernel_rfl) | (rw [if_neg (by decide +kernel)]; exact ⟨rfl, rfl⟩))
    (fun os started H enc _ => lifted_FnExactTurns os started H enc)
#print axioms over_FnExactTurns
end HO
namespace Go.Proofs.Ytjgmcbefeejgjaa
/-- The law, for every input. -/
theorem turns_holds : Rows.FnExactTurnsSaid := HO.over_FnExactTurns
end Go.Proofs.Ytjgmcbefeejgjaa
