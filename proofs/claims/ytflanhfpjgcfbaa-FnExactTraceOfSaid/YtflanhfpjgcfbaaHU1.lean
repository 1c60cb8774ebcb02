import Derived.Test.YtflanhfpjgcfbaaHU0
import Derived.Test.YtflanhfpjgcfbaaRows
import Derived.Test.YtflanhfpjgcfbaaG3
/-
  My own texts (road H): HU1.
-/
namespace HT
open Go Go.Proofs HK Go.RowKit
theorem own_FnExactTraceOf : ownKnob Try.prog.godebug = none := by kernel_rfl
set_option maxRecDepth 100000 in
theorem lifted_FnExactTraceOf (os : Os) (started : os.Started) (H : Type) (enc : TypeId × Value → H) :
    ReturnsInHanded {} Try.checked os 5 .any (Ytflanhfpjgcfbaa.Rows.fnExactTraceOfSpec.pre6 enc Try.prog Try.f5 Ytflanhfpjgcfbaa.Rows.fnExactTraceOfRow.domain false) (Ytflanhfpjgcfbaa.Rows.fnExactTraceOfSpec.post enc Try.prog Try.f5 false true false false) := by
  refine law (C := Try.checked) (ts := [26, 3]) own_FnExactTraceOf started (by kernel_rfl) Try.func5
    (ChangeSpec.witness6 (enc := enc) (C := Try.checked) false ⟨#[], #[.agg #[.slice none 0 0, .slice none 0 0, .slice none 0 0], .int .i64 0], []⟩ 8 (by kernel_rfl) (by kernel_rfl) (by kernel_rfl) (by kernel_rfl))
    (by kernel_rfl) (AReads.cons (rdEng.aggV (by kernel_rfl)) (AReads.cons (rdInt.oneV (by kernel_rfl)) AReads.nil)) rfl (by kernel_rfl) (by kernel_rfl) ?_ (by kernel_rfl) Try.underlying4 (fun a h => law_traceOf a.1 a.2.1 h.1)
  intro H ds hl
  match ds, hl with
  | [d0, d1], _ => rfl
theorem over_FnExactTraceOf : Ytflanhfpjgcfbaa.Rows.fnExactTraceOfRow.holds Ytflanhfpjgcfbaa.Try.pinned (OpenSpec.ofChange Ytflanhfpjgcfbaa.Rows.fnExactTraceOfSpec) :=
  OpenClaim.holds_of_wide 5 Try.f5 rfl rfl rfl rfl rfl rfl rfl ⟨rfl, rfl, rfl, rfl, rfl⟩ rfl rfl rfl rfl rfl (by kernel_rfl) Try.func5 (by kernel_rfl)
    (of_decide_eq_true (by kernel_rfl)) (by unfold Func.isWrapper; first | (rw [if_pos (by decide +kernel)]; kernel_rfl) | (rw [if_neg (by decide +kernel)]; exact ⟨rfl, rfl⟩))
    (fun os started H enc _ => lifted_FnExactTraceOf os started H enc)

end HT
namespace Go.Proofs.Ytflanhfpjgcfbaa
/-- The law, for every input. -/
theorem traceOf_holds : Rows.FnExactTraceOfSaid := HT.over_FnExactTraceOf
end Go.Proofs.Ytflanhfpjgcfbaa
