import Derived.Test.YteeefpifkepbpaaHSX
import Derived.Test.YteeefpifkepbpaaHS6
import Derived.Test.YteeefpifkepbpaaRows
import Derived.Test.YteeefpifkepbpaaG3
/-
  My own texts (road H): HSY.
-/
namespace HS
open Go Go.Proofs HK Go.RowKit
theorem own_FnExactLogRead : ownKnob Try.prog.godebug = none := by kernel_rfl
set_option maxRecDepth 100000 in
theorem lifted_FnExactLogRead (os : Os) (started : os.Started) (H : Type) (enc : TypeId × Value → H) :
    ReturnsInHanded {} Try.checked os 13 .any (Yteeefpifkepbpaa.Rows.fnExactLogReadSpec.pre6 enc Try.prog Try.f13 Yteeefpifkepbpaa.Rows.fnExactLogReadRow.domain false) (Yteeefpifkepbpaa.Rows.fnExactLogReadSpec.post enc Try.prog Try.f13 false true false false) := by
  refine law (C := Try.checked) (ts := [22]) own_FnExactLogRead started (by kernel_rfl) Try.func13
    (ChangeSpec.witness6 (enc := enc) (C := Try.checked) false ⟨#[], #[.slice none 0 0], []⟩ 8 (by kernel_rfl) (by kernel_rfl) (by kernel_rfl) (by kernel_rfl))
    (by kernel_rfl) (AReads.cons (rdByteS.oneV (by kernel_rfl)) AReads.nil) rfl (by kernel_rfl) (by kernel_rfl) ?_ (by kernel_rfl) Try.underlying4 (fun a h => law_logRead a.1 (fun x hx => byte_wf (h.1.1 x hx)))
  intro H ds hl
  match ds, hl with
  | [d0], _ => rfl
theorem over_FnExactLogRead : Yteeefpifkepbpaa.Rows.fnExactLogReadRow.holds Yteeefpifkepbpaa.Try.pinned (OpenSpec.ofChange Yteeefpifkepbpaa.Rows.fnExactLogReadSpec) :=
  OpenClaim.holds_of_wide 13 Try.f13 rfl rfl rfl rfl rfl rfl rfl ⟨rfl, rfl, rfl, rfl, rfl⟩ rfl rfl rfl rfl rfl (by kernel_rfl) Try.func13 (by kernel_rfl)
    (of_decide_eq_true (by kernel_rfl)) (by unfold Func.isWrapper; first | (rw [if_pos (by decide +kernel)]; kernel_rfl) | (rw [if_neg (by decide +kernel)]; exact ⟨rfl, rfl⟩))
    (fun os started H enc _ => lifted_FnExactLogRead os started H enc)
end HS
namespace Go.Proofs.Yteeefpifkepbpaa
theorem logRead_holds : Rows.FnExactLogReadSaid := HS.over_FnExactLogRead
end Go.Proofs.Yteeefpifkepbpaa
