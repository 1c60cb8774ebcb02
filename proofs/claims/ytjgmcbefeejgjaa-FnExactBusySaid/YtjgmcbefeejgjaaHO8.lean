/-
  My own text (road H): HO8.
-/
import Derived.Test.YtjgmcbefeejgjaaHO7
import Derived.Test.YtjgmcbefeejgjaaRows
import Derived.Test.YtjgmcbefeejgjaaHB2
namespace HO
open Go Go.Proofs HK Go.RowKit
theorem own_FnExactBusy : ownKnob Try.prog.godebug = none := by kernel_rfl
set_option maxRecDepth 100000 in
theorem lifted_FnExactBusy (os : Os) (started : os.Started) (H : Type) (enc : TypeId × Value → H) :
    ReturnsInHanded {} Try.checked os 5 .any (Ytjgmcbefeejgjaa.Rows.fnExactBusySpec.pre6 enc Try.prog Try.f5 Ytjgmcbefeejgjaa.Rows.fnExactBusyRow.domain false) (Ytjgmcbefeejgjaa.Rows.fnExactBusySpec.post enc Try.prog Try.f5 false true false false) := by
  refine law (C := Try.checked) (ts := [33, 3]) own_FnExactBusy started (by kernel_rfl) Try.func5
    (ChangeSpec.witness6 (enc := enc) (C := Try.checked) false ⟨#[], #[.slice none 0 0, .int .i64 0], []⟩ 8 (by kernel_rfl) (by kernel_rfl) (by kernel_rfl) (by kernel_rfl))
    (by kernel_rfl) (AReads.cons (rdDeedS.oneV (by kernel_rfl)) (AReads.cons (rdInt.oneV (by kernel_rfl)) AReads.nil)) rfl (by kernel_rfl) (by kernel_rfl) ?_ (by kernel_rfl) Try.underlying4 (fun a h => law_busy a.1 a.2.1 h.1)
  intro H ds hl
  match ds, hl with
  | [d0, d1], _ => rfl
theorem over_FnExactBusy : Ytjgmcbefeejgjaa.Rows.fnExactBusyRow.holds Ytjgmcbefeejgjaa.Try.pinned (OpenSpec.ofChange Ytjgmcbefeejgjaa.Rows.fnExactBusySpec) :=
  OpenClaim.holds_of_wide 5 Try.f5 rfl rfl rfl rfl rfl rfl rfl ⟨rfl, rfl, rfl, rfl, rfl⟩ rfl rfl rfl rfl rfl (by kernel_rfl) Try.func5 (by kernel_rfl)
    (of_decide_eq_true (by kernel_rfl)) (by unfold Func.isWrapper; first | (rw [if_pos (by decide +kernel)]; kernel_rfl) | (rw [if_neg (by decide +kernel)]; exact ⟨rfl, rfl⟩))
    (fun os started H enc _ => lifted_FnExactBusy os started H enc)
#print axioms over_FnExactBusy
end HO
namespace Go.Proofs.Ytjgmcbefeejgjaa
/-- The law, for every input. -/
theorem busy_holds : Rows.FnExactBusySaid := HO.over_FnExactBusy
end Go.Proofs.Ytjgmcbefeejgjaa
