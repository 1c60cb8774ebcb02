import Derived.Test.YtnehpceohjlacaaHVC
import Derived.Test.YtnehpceohjlacaaRows
import Derived.Test.YtnehpceohjlacaaG3
/-
  My own texts (road H): HVD.
-/
namespace HT
open Go Go.Proofs HK Go.RowKit
theorem own_FnExactObjects : ownKnob Try.prog.godebug = none := by kernel_rfl
set_option maxRecDepth 100000 in
theorem lifted_FnExactObjects (os : Os) (started : os.Started) (H : Type) (enc : TypeId × Value → H) :
    ReturnsInHanded {} Try.checked os 6 .any (Ytnehpceohjlacaa.Rows.fnExactObjectsSpec.pre6 enc Try.prog Try.f6 Ytnehpceohjlacaa.Rows.fnExactObjectsRow.domain false) (Ytnehpceohjlacaa.Rows.fnExactObjectsSpec.post enc Try.prog Try.f6 false true false false) := by
  refine law (C := Try.checked) (ts := [26, 61]) own_FnExactObjects started (by kernel_rfl) Try.func6
    (ChangeSpec.witness6 (enc := enc) (C := Try.checked) false ⟨#[], #[.agg #[.slice none 0 0, .int .i64 0, .slice none 0 0, .slice none 0 0], .agg #[.int .i64 0, .int .i64 0, .int .i64 0, .int .i64 0]], []⟩ 8 (by kernel_rfl) (by kernel_rfl) (by kernel_rfl) (by kernel_rfl))
    (by kernel_rfl) (AReads.cons (rdProg.aggV (by kernel_rfl)) (AReads.cons (rdDeed.aggV (by kernel_rfl)) AReads.nil)) rfl (by kernel_rfl) (by kernel_rfl) ?_ (by kernel_rfl) Try.underlying4 (fun a h => law_objects a.1 a.2.1 h.1)
  intro H ds hl
  match ds, hl with
  | [d0, d1], _ => rfl
theorem over_FnExactObjects : Ytnehpceohjlacaa.Rows.fnExactObjectsRow.holds Ytnehpceohjlacaa.Try.pinned (OpenSpec.ofChange Ytnehpceohjlacaa.Rows.fnExactObjectsSpec) :=
  OpenClaim.holds_of_wide 6 Try.f6 rfl rfl rfl rfl rfl rfl rfl ⟨rfl, rfl, rfl, rfl, rfl⟩ rfl rfl rfl rfl rfl (by kernel_rfl) Try.func6 (by kernel_rfl)
    (of_decide_eq_true (by kernel_rfl)) (by unfold Func.isWrapper; first | (rw [if_pos (by decide +kernel)]; kernel_rfl) | (rw [if_neg (by decide +kernel)]; exact ⟨rfl, rfl⟩))
    (fun os started H enc _ => lifted_FnExactObjects os started H enc)

end HT
namespace Go.Proofs.Ytnehpceohjlacaa
/-- The law, for every input. -/
theorem objects_holds : Rows.FnExactObjectsSaid := HT.over_FnExactObjects
end Go.Proofs.Ytnehpceohjlacaa
