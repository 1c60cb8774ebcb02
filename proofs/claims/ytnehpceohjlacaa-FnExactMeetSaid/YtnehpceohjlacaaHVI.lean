import Derived.Test.YtnehpceohjlacaaHVH
import Derived.Test.YtnehpceohjlacaaRows
import Derived.Test.YtnehpceohjlacaaG3
/-
  My own texts (road H): HVI.
-/
namespace HT
open Go Go.Proofs HK Go.RowKit
theorem own_FnExactMeet : ownKnob Try.prog.godebug = none := by kernel_rfl
set_option maxRecDepth 100000 in
theorem lifted_FnExactMeet (os : Os) (started : os.Started) (H : Type) (enc : TypeId × Value → H) :
    ReturnsInHanded {} Try.checked os 7 .any (Ytnehpceohjlacaa.Rows.fnExactMeetSpec.pre6 enc Try.prog Try.f7 Ytnehpceohjlacaa.Rows.fnExactMeetRow.domain false) (Ytnehpceohjlacaa.Rows.fnExactMeetSpec.post enc Try.prog Try.f7 false true false false) := by
  refine law (C := Try.checked) (ts := [26, 61, 61]) own_FnExactMeet started (by kernel_rfl) Try.func7
    (ChangeSpec.witness6 (enc := enc) (C := Try.checked) false ⟨#[], #[.agg #[.slice none 0 0, .int .i64 0, .slice none 0 0, .slice none 0 0], .agg #[.int .i64 0, .int .i64 0, .int .i64 0, .int .i64 0], .agg #[.int .i64 0, .int .i64 0, .int .i64 0, .int .i64 0]], []⟩ 8 (by kernel_rfl) (by kernel_rfl) (by kernel_rfl) (by kernel_rfl))
    (by kernel_rfl) (AReads.cons (rdProg.aggV (by kernel_rfl)) (AReads.cons (rdDeed.aggV (by kernel_rfl)) (AReads.cons (rdDeed.aggV (by kernel_rfl)) AReads.nil))) rfl (by kernel_rfl) (by kernel_rfl) ?_ (by kernel_rfl) Try.underlying4 (fun a h => law_meet a.1 a.2.1 a.2.2.1 h.1)
  intro H ds hl
  match ds, hl with
  | [d0, d1, d2], _ => rfl
theorem over_FnExactMeet : Ytnehpceohjlacaa.Rows.fnExactMeetRow.holds Ytnehpceohjlacaa.Try.pinned (OpenSpec.ofChange Ytnehpceohjlacaa.Rows.fnExactMeetSpec) :=
  OpenClaim.holds_of_wide 7 Try.f7 rfl rfl rfl rfl rfl rfl rfl ⟨rfl, rfl, rfl, rfl, rfl⟩ rfl rfl rfl rfl rfl (by kernel_rfl) Try.func7 (by kernel_rfl)
    (of_decide_eq_true (by kernel_rfl)) (by unfold Func.isWrapper; first | (rw [if_pos (by decide +kernel)]; kernel_rfl) | (rw [if_neg (by decide +kernel)]; exact ⟨rfl, rfl⟩))
    (fun os started H enc _ => lifted_FnExactMeet os started H enc)

end HT
namespace Go.Proofs.Ytnehpceohjlacaa
/-- The law, for every input. -/
theorem meet_holds : Rows.FnExactMeetSaid := HT.over_FnExactMeet
end Go.Proofs.Ytnehpceohjlacaa
