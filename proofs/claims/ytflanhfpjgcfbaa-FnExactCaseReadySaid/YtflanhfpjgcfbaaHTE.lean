import Derived.Test.YtflanhfpjgcfbaaHTD
import Derived.Test.YtflanhfpjgcfbaaG5
import Derived.Test.YtflanhfpjgcfbaaRows
import Derived.Test.YtflanhfpjgcfbaaG3
/-
  My own texts (road H): HTE.
-/
namespace HT
open Go Go.Proofs HK Go.RowKit
theorem own_FnExactCaseReady : ownKnob Try.prog.godebug = none := by kernel_rfl
set_option maxRecDepth 100000 in
theorem lifted_FnExactCaseReady (os : Os) (started : os.Started) (H : Type) (enc : TypeId × Value → H) :
    ReturnsInHanded {} Try.checked os 4 .any (Ytflanhfpjgcfbaa.Rows.fnExactCaseReadySpec.pre6 enc Try.prog Try.f4 Ytflanhfpjgcfbaa.Rows.fnExactCaseReadyRow.domain false) (Ytflanhfpjgcfbaa.Rows.fnExactCaseReadySpec.post enc Try.prog Try.f4 false true false false) := by
  refine law (C := Try.checked) (ts := [26, 37]) own_FnExactCaseReady started (by kernel_rfl) Try.func4
    (ChangeSpec.witness6 (enc := enc) (C := Try.checked) false ⟨#[], #[.agg #[.slice none 0 0, .slice none 0 0, .slice none 0 0], .agg #[.bool false, .int .i64 0, .int .i64 0, .int .i64 0, .int .i64 0]], []⟩ 8 (by kernel_rfl) (by kernel_rfl) (by kernel_rfl) (by kernel_rfl))
    (by kernel_rfl) (AReads.cons (rdEng.aggV (by kernel_rfl)) (AReads.cons (rdCase.aggV (by kernel_rfl)) AReads.nil)) rfl (by kernel_rfl) (by kernel_rfl) ?_ (by kernel_rfl) Try.underlying4 (fun a h => law_caseReady a.1 a.2.1 h.1)
  intro H ds hl
  match ds, hl with
  | [d0, d1], _ => rfl
theorem over_FnExactCaseReady : Ytflanhfpjgcfbaa.Rows.fnExactCaseReadyRow.holds Ytflanhfpjgcfbaa.Try.pinned (OpenSpec.ofChange Ytflanhfpjgcfbaa.Rows.fnExactCaseReadySpec) :=
  OpenClaim.holds_of_wide 4 Try.f4 rfl rfl rfl rfl rfl rfl rfl ⟨rfl, rfl, rfl, rfl, rfl⟩ rfl rfl rfl rfl rfl (by kernel_rfl) Try.func4 (by kernel_rfl)
    (of_decide_eq_true (by kernel_rfl)) (by unfold Func.isWrapper; first | (rw [if_pos (by decide +kernel)]; kernel_rfl) | (rw [if_neg (by decide +kernel)]; exact ⟨rfl, rfl⟩))
    (fun os started H enc _ => lifted_FnExactCaseReady os started H enc)

end HT
namespace Go.Proofs.Ytflanhfpjgcfbaa
/-- The law, for every input. -/
theorem caseReady_holds : Rows.FnExactCaseReadySaid := HT.over_FnExactCaseReady
end Go.Proofs.Ytflanhfpjgcfbaa
