/-
  My own text (road H): HSG.
-/
import Derived.Test.YteeefpifkepbpaaHSF
import Derived.Test.YteeefpifkepbpaaHS6
import Derived.Test.YteeefpifkepbpaaRows
import Derived.Test.YteeefpifkepbpaaHB2
namespace HS
open Go Go.Proofs HK Go.RowKit
theorem own_FnExactPackSome : ownKnob Try.prog.godebug = none := by kernel_rfl
set_option maxRecDepth 100000 in
theorem lifted_FnExactPackSome (os : Os) (started : os.Started) (H : Type) (enc : TypeId × Value → H) :
    ReturnsInHanded {} Try.checked os 7 .any (Yteeefpifkepbpaa.Rows.fnExactPackSomeSpec.pre6 enc Try.prog Try.f7 Yteeefpifkepbpaa.Rows.fnExactPackSomeRow.domain false) (Yteeefpifkepbpaa.Rows.fnExactPackSomeSpec.post enc Try.prog Try.f7 false true false false) := by
  refine law (C := Try.checked) (ts := [33]) own_FnExactPackSome started (by kernel_rfl) Try.func7
    (ChangeSpec.witness6 (enc := enc) (C := Try.checked) false ⟨#[], #[.slice none 0 0], []⟩ 8 (by kernel_rfl) (by kernel_rfl) (by kernel_rfl) (by kernel_rfl))
    (by kernel_rfl) (AReads.cons (rdDeedS.oneV (by kernel_rfl)) AReads.nil) rfl (by kernel_rfl) (by kernel_rfl) ?_ (by kernel_rfl) Try.underlying4 (fun a h => law_packSome a.1 h.1)
  intro H ds hl
  match ds, hl with
  | [d0], _ => rfl
theorem over_FnExactPackSome : Yteeefpifkepbpaa.Rows.fnExactPackSomeRow.holds Yteeefpifkepbpaa.Try.pinned (OpenSpec.ofChange Yteeefpifkepbpaa.Rows.fnExactPackSomeSpec) :=
  OpenClaim.holds_of_wide 7 Try.f7 rfl rfl rfl rfl rfl rfl rfl ⟨rfl, rfl, rfl, rfl, rfl⟩ rfl rfl rfl rfl rfl (by kernel_rfl) Try.func7 (by kernel_rfl)
    (of_decide_eq_true (by kernel_rfl)) (by unfold Func.isWrapper; first | (rw [if_pos (by decide +kernel)]; kernel_rfl) | (rw [if_neg (by decide +kernel)]; exact ⟨rfl, rfl⟩))
    (fun os started H enc _ => lifted_FnExactPackSome os started H enc)

end HS
namespace Go.Proofs.Yteeefpifkepbpaa
/-- The law, for every input. -/
theorem packSome_holds : Rows.FnExactPackSomeSaid := HS.over_FnExactPackSome
end Go.Proofs.Yteeefpifkepbpaa
