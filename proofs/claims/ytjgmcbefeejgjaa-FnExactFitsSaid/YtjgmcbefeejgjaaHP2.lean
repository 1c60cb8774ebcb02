/-
  My own text (road H): HP2.
-/
import Derived.Test.YtjgmcbefeejgjaaHP1
import Derived.Test.YtjgmcbefeejgjaaRows
import Derived.Test.YtjgmcbefeejgjaaHB2
namespace HO
open Go Go.Proofs HK Go.RowKit
theorem own_FnExactFits : ownKnob Try.prog.godebug = none := by kernel_rfl
set_option maxRecDepth 100000 in
theorem lifted_FnExactFits (os : Os) (started : os.Started) (H : Type) (enc : TypeId × Value → H) :
    ReturnsInHanded {} Try.checked os 6 .any (Ytjgmcbefeejgjaa.Rows.fnExactFitsSpec.pre6 enc Try.prog Try.f6 Ytjgmcbefeejgjaa.Rows.fnExactFitsRow.domain false) (Ytjgmcbefeejgjaa.Rows.fnExactFitsSpec.post enc Try.prog Try.f6 false true false false) := by
  refine law (C := Try.checked) (ts := [33]) own_FnExactFits started (by kernel_rfl) Try.func6
    (ChangeSpec.witness6 (enc := enc) (C := Try.checked) false ⟨#[], #[.slice none 0 0], []⟩ 8 (by kernel_rfl) (by kernel_rfl) (by kernel_rfl) (by kernel_rfl))
    (by kernel_rfl) (AReads.cons (rdDeedS.oneV (by kernel_rfl)) AReads.nil) rfl (by kernel_rfl) (by kernel_rfl) ?_ (by kernel_rfl) Try.underlying4 (fun a h => law_fits a.1 h.1)
  intro H ds hl
  match ds, hl with
  | [d0], _ => rfl
theorem over_FnExactFits : Ytjgmcbefeejgjaa.Rows.fnExactFitsRow.holds Ytjgmcbefeejgjaa.Try.pinned (OpenSpec.ofChange Ytjgmcbefeejgjaa.Rows.fnExactFitsSpec) :=
  OpenClaim.holds_of_wide 6 Try.f6 rfl rfl rfl rfl rfl rfl rfl ⟨rfl, rfl, rfl, rfl, rfl⟩ rfl rfl rfl rfl rfl (by kernel_rfl) Try.func6 (by kernel_rfl)
    (of_decide_eq_true (by kernel_rfl)) (by unfold Func.isWrapper; first | (rw [if_pos (by decide +kernel)]; kernel_rfl) | (rw [if_neg (by decide +kernel)]; exact ⟨rfl, rfl⟩))
    (fun os started H enc _ => lifted_FnExactFits os started H enc)
#print axioms over_FnExactFits
end HO
namespace Go.Proofs.Ytjgmcbefeejgjaa
/-- The law, for every input. -/
theorem fits_holds : Rows.FnExactFitsSaid := HO.over_FnExactFits
end Go.Proofs.Ytjgmcbefeejgjaa
