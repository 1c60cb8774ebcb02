/-
  My own text (road H): HSS.
-/
import Derived.Test.YteeefpifkepbpaaHSR
import Derived.Test.YteeefpifkepbpaaHS6
import Derived.Test.YteeefpifkepbpaaRows
import Derived.Test.YteeefpifkepbpaaHB2
namespace HS
open Go Go.Proofs HK Go.RowKit
theorem own_FnExactReadSome : ownKnob Try.prog.godebug = none := by kernel_rfl
set_option maxRecDepth 100000 in
theorem lifted_FnExactReadSome (os : Os) (started : os.Started) (H : Type) (enc : TypeId × Value → H) :
    ReturnsInHanded {} Try.checked os 9 .any (Yteeefpifkepbpaa.Rows.fnExactReadSomeSpec.pre6 enc Try.prog Try.f9 Yteeefpifkepbpaa.Rows.fnExactReadSomeRow.domain false) (Yteeefpifkepbpaa.Rows.fnExactReadSomeSpec.post enc Try.prog Try.f9 false true false false) := by
  refine law (C := Try.checked) (ts := [22]) own_FnExactReadSome started (by kernel_rfl) Try.func9
    (ChangeSpec.witness6 (enc := enc) (C := Try.checked) false ⟨#[], #[.slice none 0 0], []⟩ 8 (by kernel_rfl) (by kernel_rfl) (by kernel_rfl) (by kernel_rfl))
    (by kernel_rfl) (AReads.cons (rdByteS.oneV (by kernel_rfl)) AReads.nil) rfl (by kernel_rfl) (by kernel_rfl) ?_ (by kernel_rfl) Try.underlying4 (fun a h => law_readSome a.1 (fun x hx => byte_wf (h.1.1 x hx)))
  intro H ds hl
  match ds, hl with
  | [d0], _ => rfl
theorem over_FnExactReadSome : Yteeefpifkepbpaa.Rows.fnExactReadSomeRow.holds Yteeefpifkepbpaa.Try.pinned (OpenSpec.ofChange Yteeefpifkepbpaa.Rows.fnExactReadSomeSpec) :=
  OpenClaim.holds_of_wide 9 Try.f9 rfl rfl rfl rfl rfl rfl rfl ⟨rfl, rfl, rfl, rfl, rfl⟩ rfl rfl rfl rfl rfl (by kernel_rfl) Try.func9 (by kernel_rfl)
    (of_decide_eq_true (by kernel_rfl)) (by unfold Func.isWrapper; first | (rw [if_pos (by decide +kernel)]; kernel_rfl) | (rw [if_neg (by decide +kernel)]; exact ⟨rfl, rfl⟩))
    (fun os started H enc _ => lifted_FnExactReadSome os started H enc)

end HS
namespace Go.Proofs.Yteeefpifkepbpaa
/-- The law, for every input. -/
theorem readSome_holds : Rows.FnExactReadSomeSaid := HS.over_FnExactReadSome
end Go.Proofs.Yteeefpifkepbpaa
