import Derived.Test.YtjalahhkhcmjaaaHNQ5
import Derived.Test.YtjalahhkhcmjaaaRows
import Derived.Test.YtjalahhkhcmjaaaG3
/-
  My own texts (road H): HNQ6.
-/
namespace HT
open Go Go.Proofs HK Go.RowKit
theorem own_FnExactEventText : ownKnob Try.prog.godebug = none := by kernel_rfl
set_option maxRecDepth 100000 in
theorem lifted_FnExactEventText (os : Os) (started : os.Started) (H : Type) (enc : TypeId × Value → H) :
    ReturnsInHanded {} Try.checked os 3 .any (Ytjalahhkhcmjaaa.Rows.fnExactEventTextSpec.pre6 enc Try.prog Try.f3 Ytjalahhkhcmjaaa.Rows.fnExactEventTextRow.domain false) (Ytjalahhkhcmjaaa.Rows.fnExactEventTextSpec.post enc Try.prog Try.f3 false true false false) := by
  refine law (C := Try.checked) (ts := [23]) own_FnExactEventText started (by kernel_rfl) Try.func3
    (ChangeSpec.witness6 (enc := enc) (C := Try.checked) false ⟨#[], #[.agg #[.int .i64 0, .int .i64 0, .int .i64 0, .int .i64 0]], []⟩ 8 (by kernel_rfl) (by kernel_rfl) (by kernel_rfl) (by kernel_rfl))
    (by kernel_rfl) (AReads.cons (rdDeed.aggV (by kernel_rfl)) AReads.nil) rfl (by kernel_rfl) (by kernel_rfl) ?_ (by kernel_rfl) Try.underlying4 (fun a h => law_eventText a.1)
  intro H ds hl
  match ds, hl with
  | [d0], _ => rfl
theorem over_FnExactEventText : Ytjalahhkhcmjaaa.Rows.fnExactEventTextRow.holds Ytjalahhkhcmjaaa.Try.pinned (OpenSpec.ofChange Ytjalahhkhcmjaaa.Rows.fnExactEventTextSpec) :=
  OpenClaim.holds_of_wide 3 Try.f3 rfl rfl rfl rfl rfl rfl rfl ⟨rfl, rfl, rfl, rfl, rfl⟩ rfl rfl rfl rfl rfl (by kernel_rfl) Try.func3 (by kernel_rfl)
    (of_decide_eq_true (by kernel_rfl)) (by unfold Func.isWrapper; first | (rw [if_pos (by decide +kernel)]; kernel_rfl) | (rw [if_neg (by decide +kernel)]; exact ⟨rfl, rfl⟩))
    (fun os started H enc _ => lifted_FnExactEventText os started H enc)

end HT
namespace Go.Proofs.Ytjalahhkhcmjaaa
/-- The law, for every input. -/
theorem eventText_holds : Rows.FnExactEventTextSaid := HT.over_FnExactEventText
end Go.Proofs.Ytjalahhkhcmjaaa
