import Derived.Test.YtnehpceohjlacaaGreatHZU6
import Derived.Test.YtnehpceohjlacaaGreatHZT7G
import Derived.Test.YtnehpceohjlacaaGreatRows
import Derived.Test.YtnehpceohjlacaaGreatG3
/-
  My own texts (road H): HZU8.
-/
namespace HT
open Go Go.Proofs HK Go.RowKit
theorem own_FnExactBurn : ownKnob Tryz.prog.godebug = none := by kernel_rfl
set_option maxRecDepth 100000 in
theorem lifted_FnExactBurn (os : Os) (started : os.Started) (H : Type) (enc : TypeId × Value → H) :
    ReturnsInHanded {} Tryz.checked os 4 .any (YtnehpceohjlacaaGreat.Rows.fnExactBurnSpec.pre6 enc Tryz.prog Tryz.f4 YtnehpceohjlacaaGreat.Rows.fnExactBurnRow.domain false) (YtnehpceohjlacaaGreat.Rows.fnExactBurnSpec.post enc Tryz.prog Tryz.f4 false true false false) := by
  refine law (C := Tryz.checked) (ts := [26, 29, 3]) own_FnExactBurn started (by kernel_rfl) Tryz.func4
    (ChangeSpec.witness6 (enc := enc) (C := Tryz.checked) false ⟨#[], #[.agg #[.slice none 0 0, .int .i64 0, .slice none 0 0, .slice none 0 0], .agg #[.int .i64 0, .int .i64 0, .slice none 0 0, .int .i64 0, .slice none 0 0], .int .i64 0], []⟩ 8 (by kernel_rfl) (by kernel_rfl) (by kernel_rfl) (by kernel_rfl))
    (by kernel_rfl) (AReads.cons (rdProg.aggV (by kernel_rfl)) (AReads.cons (rdGor.aggV (by kernel_rfl)) (AReads.cons (rdInt.oneV (by kernel_rfl)) AReads.nil))) rfl (by kernel_rfl) (by kernel_rfl) ?_ (by kernel_rfl) Tryz.underlying4 (fun a h => law_burn a.1 a.2.1 a.2.2.1 h.1 h.2.1)
  intro H ds hl
  match ds, hl with
  | [d0, d1, d2], _ => rfl
theorem over_FnExactBurn : YtnehpceohjlacaaGreat.Rows.fnExactBurnRow.holds YtnehpceohjlacaaGreat.Tryz.pinned (OpenSpec.ofChange YtnehpceohjlacaaGreat.Rows.fnExactBurnSpec) :=
  OpenClaim.holds_of_wide 4 Tryz.f4 rfl rfl rfl rfl rfl rfl rfl ⟨rfl, rfl, rfl, rfl, rfl⟩ rfl rfl rfl rfl rfl (by kernel_rfl) Tryz.func4 (by kernel_rfl)
    (of_decide_eq_true (by kernel_rfl)) (by unfold Func.isWrapper; first | (rw [if_pos (by decide +kernel)]; kernel_rfl) | (rw [if_neg (by decide +kernel)]; exact ⟨rfl, rfl⟩))
    (fun os started H enc _ => lifted_FnExactBurn os started H enc)

end HT
namespace Go.Proofs.YtnehpceohjlacaaGreat
/-- The law, for every input. -/
theorem burn_holds : Rows.FnExactBurnSaid := HT.over_FnExactBurn
end Go.Proofs.YtnehpceohjlacaaGreat
