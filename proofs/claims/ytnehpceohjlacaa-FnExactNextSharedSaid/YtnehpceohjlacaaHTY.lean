import Derived.Test.YtnehpceohjlacaaHTX
import Derived.Test.YtnehpceohjlacaaHT7G
import Derived.Test.YtnehpceohjlacaaRows
import Derived.Test.YtnehpceohjlacaaG3
/-
  My own texts (road H): HTY.
-/
namespace HT
open Go Go.Proofs HK Go.RowKit
theorem own_FnExactNextShared : ownKnob Try.prog.godebug = none := by kernel_rfl
set_option maxRecDepth 100000 in
theorem lifted_FnExactNextShared (os : Os) (started : os.Started) (H : Type) (enc : TypeId × Value → H) :
    ReturnsInHanded {} Try.checked os 4 .any (Ytnehpceohjlacaa.Rows.fnExactNextSharedSpec.pre6 enc Try.prog Try.f4 Ytnehpceohjlacaa.Rows.fnExactNextSharedRow.domain false) (Ytnehpceohjlacaa.Rows.fnExactNextSharedSpec.post enc Try.prog Try.f4 false true false false) := by
  refine law (C := Try.checked) (ts := [26, 29]) own_FnExactNextShared started (by kernel_rfl) Try.func4
    (ChangeSpec.witness6 (enc := enc) (C := Try.checked) false ⟨#[], #[.agg #[.slice none 0 0, .int .i64 0, .slice none 0 0, .slice none 0 0], .agg #[.int .i64 0, .int .i64 0, .slice none 0 0, .int .i64 0, .slice none 0 0]], []⟩ 8 (by kernel_rfl) (by kernel_rfl) (by kernel_rfl) (by kernel_rfl))
    (by kernel_rfl) (AReads.cons (rdProg.aggV (by kernel_rfl)) (AReads.cons (rdGor.aggV (by kernel_rfl)) AReads.nil)) rfl (by kernel_rfl) (by kernel_rfl) ?_ (by kernel_rfl) Try.underlying4 (fun a h => law_nextShared a.1 a.2.1 h.1 h.2.1)
  intro H ds hl
  match ds, hl with
  | [d0, d1], _ => rfl
theorem over_FnExactNextShared : Ytnehpceohjlacaa.Rows.fnExactNextSharedRow.holds Ytnehpceohjlacaa.Try.pinned (OpenSpec.ofChange Ytnehpceohjlacaa.Rows.fnExactNextSharedSpec) :=
  OpenClaim.holds_of_wide 4 Try.f4 rfl rfl rfl rfl rfl rfl rfl ⟨rfl, rfl, rfl, rfl, rfl⟩ rfl rfl rfl rfl rfl (by kernel_rfl) Try.func4 (by kernel_rfl)
    (of_decide_eq_true (by kernel_rfl)) (by unfold Func.isWrapper; first | (rw [if_pos (by decide +kernel)]; kernel_rfl) | (rw [if_neg (by decide +kernel)]; exact ⟨rfl, rfl⟩))
    (fun os started H enc _ => lifted_FnExactNextShared os started H enc)

end HT
namespace Go.Proofs.Ytnehpceohjlacaa
/-- The law, for every input. -/
theorem nextShared_holds : Rows.FnExactNextSharedSaid := HT.over_FnExactNextShared
end Go.Proofs.Ytnehpceohjlacaa
