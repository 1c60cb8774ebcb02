/-
  My own text (road H): HSP.
-/
import Derived.Test.YteeefpifkepbpaaHSO
import Derived.Test.YteeefpifkepbpaaHS6
import Derived.Test.YteeefpifkepbpaaRows
import Derived.Test.YteeefpifkepbpaaHB2
namespace HS
open Go Go.Proofs HK Go.RowKit
theorem own_FnExactReadEvent : ownKnob Try.prog.godebug = none := by kernel_rfl
set_option maxRecDepth 100000 in
theorem lifted_FnExactReadEvent (os : Os) (started : os.Started) (H : Type) (enc : TypeId × Value → H) :
    ReturnsInHanded {} Try.checked os 8 .any (Yteeefpifkepbpaa.Rows.fnExactReadEventSpec.pre6 enc Try.prog Try.f8 Yteeefpifkepbpaa.Rows.fnExactReadEventRow.domain false) (Yteeefpifkepbpaa.Rows.fnExactReadEventSpec.post enc Try.prog Try.f8 false true false false) := by
  refine law (C := Try.checked) (ts := [22, 3, 3]) own_FnExactReadEvent started (by kernel_rfl) Try.func8
    (ChangeSpec.witness6 (enc := enc) (C := Try.checked) false ⟨#[], #[.slice none 0 0, .int .i64 0, .int .i64 0], []⟩ 8 (by kernel_rfl) (by kernel_rfl) (by kernel_rfl) (by kernel_rfl))
    (by kernel_rfl) (AReads.cons (rdByteS.oneV (by kernel_rfl)) (AReads.cons (rdInt.oneV (by kernel_rfl)) (AReads.cons (rdInt.oneV (by kernel_rfl)) AReads.nil))) rfl (by kernel_rfl) (by kernel_rfl) ?_ (by kernel_rfl) Try.underlying4 (fun a h => law_readEvent a.1 a.2.1 a.2.2.1 (fun x hx => byte_wf (h.1.1 x hx)))
  intro H ds hl
  match ds, hl with
  | [d0, d1, d2], _ => rfl
theorem over_FnExactReadEvent : Yteeefpifkepbpaa.Rows.fnExactReadEventRow.holds Yteeefpifkepbpaa.Try.pinned (OpenSpec.ofChange Yteeefpifkepbpaa.Rows.fnExactReadEventSpec) :=
  OpenClaim.holds_of_wide 8 Try.f8 rfl rfl rfl rfl rfl rfl rfl ⟨rfl, rfl, rfl, rfl, rfl⟩ rfl rfl rfl rfl rfl (by kernel_rfl) Try.func8 (by kernel_rfl)
    (of_decide_eq_true (by kernel_rfl)) (by unfold Func.isWrapper; first | (rw [if_pos (by decide +kernel)]; kernel_rfl) | (rw [if_neg (by decide +kernel)]; exact ⟨rfl, rfl⟩))
    (fun os started H enc _ => lifted_FnExactReadEvent os started H enc)

end HS
namespace Go.Proofs.Yteeefpifkepbpaa
/-- The law, for every input. -/
theorem readEvent_holds : Rows.FnExactReadEventSaid := HS.over_FnExactReadEvent
end Go.Proofs.Yteeefpifkepbpaa
