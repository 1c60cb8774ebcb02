import Derived.Test.YtnehpceohjlacaaGreatHZU6
import Derived.Test.YtnehpceohjlacaaGreatHZT7G
import Derived.Test.YtnehpceohjlacaaGreatRows
import Derived.Test.YtnehpceohjlacaaGreatG3
/-
  My own texts (road H): HZU7.
-/
namespace HT
open Go Go.Proofs HK Go.RowKit
theorem own_FnExactStepLocal : ownKnob Tryz.prog.godebug = none := by kernel_rfl
set_option maxRecDepth 100000 in
theorem lifted_FnExactStepLocal (os : Os) (started : os.Started) (H : Type) (enc : TypeId × Value → H) :
    ReturnsInHanded {} Tryz.checked os 3 .any (YtnehpceohjlacaaGreat.Rows.fnExactStepLocalSpec.pre6 enc Tryz.prog Tryz.f3 YtnehpceohjlacaaGreat.Rows.fnExactStepLocalRow.domain false) (YtnehpceohjlacaaGreat.Rows.fnExactStepLocalSpec.post enc Tryz.prog Tryz.f3 false true false false) := by
  refine law (C := Tryz.checked) (ts := [26, 29]) own_FnExactStepLocal started (by kernel_rfl) Tryz.func3
    (ChangeSpec.witness6 (enc := enc) (C := Tryz.checked) false ⟨#[], #[.agg #[.slice none 0 0, .int .i64 0, .slice none 0 0, .slice none 0 0], .agg #[.int .i64 0, .int .i64 0, .slice none 0 0, .int .i64 0, .slice none 0 0]], []⟩ 8 (by kernel_rfl) (by kernel_rfl) (by kernel_rfl) (by kernel_rfl))
    (by kernel_rfl) (AReads.cons (rdProg.aggV (by kernel_rfl)) (AReads.cons (rdGor.aggV (by kernel_rfl)) AReads.nil)) rfl (by kernel_rfl) (by kernel_rfl) ?_ (by kernel_rfl) Tryz.underlying4 (fun a h => law_stepLocal a.1 a.2.1 h.1 h.2.1)
  intro H ds hl
  match ds, hl with
  | [d0, d1], _ => rfl
theorem over_FnExactStepLocal : YtnehpceohjlacaaGreat.Rows.fnExactStepLocalRow.holds YtnehpceohjlacaaGreat.Tryz.pinned (OpenSpec.ofChange YtnehpceohjlacaaGreat.Rows.fnExactStepLocalSpec) :=
  OpenClaim.holds_of_wide 3 Tryz.f3 rfl rfl rfl rfl rfl rfl rfl ⟨rfl, rfl, rfl, rfl, rfl⟩ rfl rfl rfl rfl rfl (by kernel_rfl) Tryz.func3 (by kernel_rfl)
    (of_decide_eq_true (by kernel_rfl)) (by unfold Func.isWrapper; first | (rw [if_pos (by decide +kernel)]; kernel_rfl) | (rw [if_neg (by decide +kernel)]; exact ⟨rfl, rfl⟩))
    (fun os started H enc _ => lifted_FnExactStepLocal os started H enc)

end HT
namespace Go.Proofs.YtnehpceohjlacaaGreat
/-- The law, for every input. -/
theorem stepLocal_holds : Rows.FnExactStepLocalSaid := HT.over_FnExactStepLocal
end Go.Proofs.YtnehpceohjlacaaGreat
