import Derived.Test.YtnehpceohjlacaaHV8
import Derived.Test.YtnehpceohjlacaaRows
import Derived.Test.YtnehpceohjlacaaG3
/-
  My own texts (road H): HV9.
-/
namespace HT
open Go Go.Proofs HK Go.RowKit
theorem own_FnExactKin : ownKnob Try.prog.godebug = none := by kernel_rfl
set_option maxRecDepth 100000 in
theorem lifted_FnExactKin (os : Os) (started : os.Started) (H : Type) (enc : TypeId × Value → H) :
    ReturnsInHanded {} Try.checked os 5 .any (Ytnehpceohjlacaa.Rows.fnExactKinSpec.pre6 enc Try.prog Try.f5 Ytnehpceohjlacaa.Rows.fnExactKinRow.domain false) (Ytnehpceohjlacaa.Rows.fnExactKinSpec.post enc Try.prog Try.f5 false true false false) := by
  refine law (C := Try.checked) (ts := [26, 3]) own_FnExactKin started (by kernel_rfl) Try.func5
    (ChangeSpec.witness6 (enc := enc) (C := Try.checked) false ⟨#[], #[.agg #[.slice none 0 0, .int .i64 0, .slice none 0 0, .slice none 0 0], .int .i64 0], []⟩ 8 (by kernel_rfl) (by kernel_rfl) (by kernel_rfl) (by kernel_rfl))
    (by kernel_rfl) (AReads.cons (rdProg.aggV (by kernel_rfl)) (AReads.cons (rdInt.oneV (by kernel_rfl)) AReads.nil)) rfl (by kernel_rfl) (by kernel_rfl) ?_ (by kernel_rfl) Try.underlying4 (fun a h => law_kin a.1 a.2.1 h.1)
  intro H ds hl
  match ds, hl with
  | [d0, d1], _ => rfl
theorem over_FnExactKin : Ytnehpceohjlacaa.Rows.fnExactKinRow.holds Ytnehpceohjlacaa.Try.pinned (OpenSpec.ofChange Ytnehpceohjlacaa.Rows.fnExactKinSpec) :=
  OpenClaim.holds_of_wide 5 Try.f5 rfl rfl rfl rfl rfl rfl rfl ⟨rfl, rfl, rfl, rfl, rfl⟩ rfl rfl rfl rfl rfl (by kernel_rfl) Try.func5 (by kernel_rfl)
    (of_decide_eq_true (by kernel_rfl)) (by unfold Func.isWrapper; first | (rw [if_pos (by decide +kernel)]; kernel_rfl) | (rw [if_neg (by decide +kernel)]; exact ⟨rfl, rfl⟩))
    (fun os started H enc _ => lifted_FnExactKin os started H enc)

end HT
namespace Go.Proofs.Ytnehpceohjlacaa
/-- The law, for every input. -/
theorem kin_holds : Rows.FnExactKinSaid := HT.over_FnExactKin
end Go.Proofs.Ytnehpceohjlacaa
