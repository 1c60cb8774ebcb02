/-
  My own text (road H): HSD.
-/
import Derived.Test.YteeefpifkepbpaaHSC
import Derived.Test.YteeefpifkepbpaaHS6
import Derived.Test.YteeefpifkepbpaaRows
import Derived.Test.YteeefpifkepbpaaHB2
namespace HS
open Go Go.Proofs HK Go.RowKit
theorem own_FnExactLogCut : ownKnob Try.prog.godebug = none := by kernel_rfl
set_option maxRecDepth 100000 in
theorem lifted_FnExactLogCut (os : Os) (started : os.Started) (H : Type) (enc : TypeId × Value → H) :
    ReturnsInHanded {} Try.checked os 5 .any (Yteeefpifkepbpaa.Rows.fnExactLogCutSpec.pre6 enc Try.prog Try.f5 Yteeefpifkepbpaa.Rows.fnExactLogCutRow.domain false) (Yteeefpifkepbpaa.Rows.fnExactLogCutSpec.post enc Try.prog Try.f5 false true false false) := by
  refine law (C := Try.checked) (ts := [42, 3]) own_FnExactLogCut started (by kernel_rfl) Try.func5
    (ChangeSpec.witness6 (enc := enc) (C := Try.checked) false ⟨#[], #[.agg #[.int .i64 0, .slice none 0 0], .int .i64 0], []⟩ 8 (by kernel_rfl) (by kernel_rfl) (by kernel_rfl) (by kernel_rfl))
    (by kernel_rfl) (AReads.cons (rdLog.aggV (by kernel_rfl)) (AReads.cons (rdInt.oneV (by kernel_rfl)) AReads.nil)) rfl (by kernel_rfl) (by kernel_rfl) ?_ (by kernel_rfl) Try.underlying4 (fun a h => law_logCut a.1.1 a.1.2 a.2.1 h.1)
  intro H ds hl
  match ds, hl with
  | [d0, d1], _ => rfl
theorem over_FnExactLogCut : Yteeefpifkepbpaa.Rows.fnExactLogCutRow.holds Yteeefpifkepbpaa.Try.pinned (OpenSpec.ofChange Yteeefpifkepbpaa.Rows.fnExactLogCutSpec) :=
  OpenClaim.holds_of_wide 5 Try.f5 rfl rfl rfl rfl rfl rfl rfl ⟨rfl, rfl, rfl, rfl, rfl⟩ rfl rfl rfl rfl rfl (by kernel_rfl) Try.func5 (by kernel_rfl)
    (of_decide_eq_true (by kernel_rfl)) (by unfold Func.isWrapper; first | (rw [if_pos (by decide +kernel)]; kernel_rfl) | (rw [if_neg (by decide +kernel)]; exact ⟨rfl, rfl⟩))
    (fun os started H enc _ => lifted_FnExactLogCut os started H enc)

end HS
namespace Go.Proofs.Yteeefpifkepbpaa
/-- The law, for every input. -/
theorem logCut_holds : Rows.FnExactLogCutSaid := HS.over_FnExactLogCut
end Go.Proofs.Yteeefpifkepbpaa
