import Derived.Test.YteeefpifkepbpaaHSZ6
import Derived.Test.YteeefpifkepbpaaHSC
import Derived.Test.YteeefpifkepbpaaHS6
import Derived.Test.YteeefpifkepbpaaRows
import Derived.Test.YteeefpifkepbpaaG3
/-
  My own texts (road H): HSZ7.
-/
namespace HS
open Go Go.Proofs HK Go.RowKit
theorem own_FnExactLogSize : ownKnob Try.prog.godebug = none := by kernel_rfl
set_option maxRecDepth 100000 in
theorem lifted_FnExactLogSize (os : Os) (started : os.Started) (H : Type) (enc : TypeId × Value → H) :
    ReturnsInHanded {} Try.checked os 11 .any (Yteeefpifkepbpaa.Rows.fnExactLogSizeSpec.pre6 enc Try.prog Try.f11 Yteeefpifkepbpaa.Rows.fnExactLogSizeRow.domain false) (Yteeefpifkepbpaa.Rows.fnExactLogSizeSpec.post enc Try.prog Try.f11 false true false false) := by
  refine law (C := Try.checked) (ts := [42]) own_FnExactLogSize started (by kernel_rfl) Try.func11
    (ChangeSpec.witness6 (enc := enc) (C := Try.checked) false ⟨#[], #[.agg #[.int .i64 0, .slice none 0 0]], []⟩ 8 (by kernel_rfl) (by kernel_rfl) (by kernel_rfl) (by kernel_rfl))
    (by kernel_rfl) (AReads.cons (rdLog.aggV (by kernel_rfl)) AReads.nil) rfl (by kernel_rfl) (by kernel_rfl) ?_ (by kernel_rfl) Try.underlying4 (fun a h => law_logSize a.1.1 a.1.2 h.1)
  intro H ds hl
  match ds, hl with
  | [d0], _ => rfl
theorem over_FnExactLogSize : Yteeefpifkepbpaa.Rows.fnExactLogSizeRow.holds Yteeefpifkepbpaa.Try.pinned (OpenSpec.ofChange Yteeefpifkepbpaa.Rows.fnExactLogSizeSpec) :=
  OpenClaim.holds_of_wide 11 Try.f11 rfl rfl rfl rfl rfl rfl rfl ⟨rfl, rfl, rfl, rfl, rfl⟩ rfl rfl rfl rfl rfl (by kernel_rfl) Try.func11 (by kernel_rfl)
    (of_decide_eq_true (by kernel_rfl)) (by unfold Func.isWrapper; first | (rw [if_pos (by decide +kernel)]; kernel_rfl) | (rw [if_neg (by decide +kernel)]; exact ⟨rfl, rfl⟩))
    (fun os started H enc _ => lifted_FnExactLogSize os started H enc)
end HS
namespace Go.Proofs.Yteeefpifkepbpaa
theorem logSize_holds : Rows.FnExactLogSizeSaid := HS.over_FnExactLogSize
end Go.Proofs.Yteeefpifkepbpaa
