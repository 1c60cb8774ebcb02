/-
  My own text (road H): HS7.
-/
import Derived.Test.YteeefpifkepbpaaHS6
import Derived.Test.YteeefpifkepbpaaRows
import Derived.Test.YteeefpifkepbpaaHB2
namespace HS
open Go Go.Proofs HK Go.RowKit
theorem own_FnExactPackEvent : ownKnob Try.prog.godebug = none := by kernel_rfl
set_option maxRecDepth 100000 in
theorem lifted_FnExactPackEvent (os : Os) (started : os.Started) (H : Type) (enc : TypeId × Value → H) :
    ReturnsInHanded {} Try.checked os 3 .any (Yteeefpifkepbpaa.Rows.fnExactPackEventSpec.pre6 enc Try.prog Try.f3 Yteeefpifkepbpaa.Rows.fnExactPackEventRow.domain false) (Yteeefpifkepbpaa.Rows.fnExactPackEventSpec.post enc Try.prog Try.f3 false true false false) := by
  refine law (C := Try.checked) (ts := [22, 3, 24]) own_FnExactPackEvent started (by kernel_rfl) Try.func3
    (ChangeSpec.witness6 (enc := enc) (C := Try.checked) false ⟨#[], #[.slice none 0 0, .int .i64 0, .agg #[.int .i64 0, .int .i64 0, .int .i64 0, .int .i64 0]], []⟩ 8 (by kernel_rfl) (by kernel_rfl) (by kernel_rfl) (by kernel_rfl))
    (by kernel_rfl) (AReads.cons (rdByteS.oneV (by kernel_rfl)) (AReads.cons (rdInt.oneV (by kernel_rfl)) (AReads.cons (rdDeed.aggV (by kernel_rfl)) AReads.nil))) rfl (by kernel_rfl) (by kernel_rfl) ?_ (by kernel_rfl) Try.underlying4 (fun a h => law_pack a.1 a.2.1 a.2.2.1)
  intro H ds hl
  match ds, hl with
  | [d0, d1, d2], _ => rfl
theorem over_FnExactPackEvent : Yteeefpifkepbpaa.Rows.fnExactPackEventRow.holds Yteeefpifkepbpaa.Try.pinned (OpenSpec.ofChange Yteeefpifkepbpaa.Rows.fnExactPackEventSpec) :=
  OpenClaim.holds_of_wide 3 Try.f3 rfl rfl rfl rfl rfl rfl rfl ⟨rfl, rfl, rfl, rfl, rfl⟩ rfl rfl rfl rfl rfl (by kernel_rfl) Try.func3 (by kernel_rfl)
    (of_decide_eq_true (by kernel_rfl)) (by unfold Func.isWrapper; first | (rw [if_pos (by decide +kernel)]; kernel_rfl) | (rw [if_neg (by decide +kernel)]; exact ⟨rfl, rfl⟩))
    (fun os started H enc _ => lifted_FnExactPackEvent os started H enc)

end HS
namespace Go.Proofs.Yteeefpifkepbpaa
/-- The law, for every input. -/
theorem packEvent_holds : Rows.FnExactPackEventSaid := HS.over_FnExactPackEvent
end Go.Proofs.Yteeefpifkepbpaa
