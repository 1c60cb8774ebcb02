/-
  My own text (road H): HP6.
-/
import Derived.Test.YtjgmcbefeejgjaaHP5
import Derived.Test.YtjgmcbefeejgjaaRows
import Derived.Test.YtjgmcbefeejgjaaHB2
namespace HO
open Go Go.Proofs HK Go.RowKit
theorem own_FnExactNextOf : ownKnob Try.prog.godebug = none := by kernel_rfl
set_option maxRecDepth 100000 in
theorem lifted_FnExactNextOf (os : Os) (started : os.Started) (H : Type) (enc : TypeId × Value → H) :
    ReturnsInHanded {} Try.checked os 7 .any (Ytjgmcbefeejgjaa.Rows.fnExactNextOfSpec.pre6 enc Try.prog Try.f7 Ytjgmcbefeejgjaa.Rows.fnExactNextOfRow.domain false) (Ytjgmcbefeejgjaa.Rows.fnExactNextOfSpec.post enc Try.prog Try.f7 false true false false) := by
  refine law (C := Try.checked) (ts := [33, 42, 3]) own_FnExactNextOf started (by kernel_rfl) Try.func7
    (ChangeSpec.witness6 (enc := enc) (C := Try.checked) false ⟨#[], #[.slice none 0 0, .slice none 0 0, .int .i64 0], []⟩ 8 (by kernel_rfl) (by kernel_rfl) (by kernel_rfl) (by kernel_rfl))
    (by kernel_rfl) (AReads.cons (rdDeedS.oneV (by kernel_rfl)) (AReads.cons (rdBoolS.oneV (by kernel_rfl)) (AReads.cons (rdInt.oneV (by kernel_rfl)) AReads.nil))) rfl (by kernel_rfl) (by kernel_rfl) ?_ (by kernel_rfl) Try.underlying4 (fun a h => law_nextOf a.1 a.2.1 a.2.2.1 h.1)
  intro H ds hl
  match ds, hl with
  | [d0, d1, d2], _ => rfl
theorem over_FnExactNextOf : Ytjgmcbefeejgjaa.Rows.fnExactNextOfRow.holds Ytjgmcbefeejgjaa.Try.pinned (OpenSpec.ofChange Ytjgmcbefeejgjaa.Rows.fnExactNextOfSpec) :=
  OpenClaim.holds_of_wide 7 Try.f7 rfl rfl rfl rfl rfl rfl rfl ⟨rfl, rfl, rfl, rfl, rfl⟩ rfl rfl rfl rfl rfl (by kernel_rfl) Try.func7 (by kernel_rfl)
    (of_decide_eq_true (by kernel_rfl)) (by unfold Func.isWrapper; first | (rw [if_pos (by decide +kernel)]; kernel_rfl) | (rw [if_neg (by decide +kernel)]; exact ⟨rfl, rfl⟩))
    (fun os started H enc _ => lifted_FnExactNextOf os started H enc)
#print axioms over_FnExactNextOf
end HO
namespace Go.Proofs.Ytjgmcbefeejgjaa
/-- The law, for every input. -/
theorem nextOf_holds : Rows.FnExactNextOfSaid := HO.over_FnExactNextOf
end Go.Proofs.Ytjgmcbefeejgjaa
