import Derived.Test.YtflanhfpjgcfbaaHT8
import Derived.Test.YtflanhfpjgcfbaaG5
import Derived.Test.YtflanhfpjgcfbaaRows
import Derived.Test.YtflanhfpjgcfbaaG3
/-
  My own texts (road H): HT9.
-/
namespace HT
open Go Go.Proofs HK Go.RowKit
theorem own_FnExactSameTraces : ownKnob Try.prog.godebug = none := by kernel_rfl
set_option maxRecDepth 100000 in
theorem lifted_FnExactSameTraces (os : Os) (started : os.Started) (H : Type) (enc : TypeId × Value → H) :
    ReturnsInHanded {} Try.checked os 3 .any (Ytflanhfpjgcfbaa.Rows.fnExactSameTracesSpec.pre6 enc Try.prog Try.f3 Ytflanhfpjgcfbaa.Rows.fnExactSameTracesRow.domain false) (Ytflanhfpjgcfbaa.Rows.fnExactSameTracesSpec.post enc Try.prog Try.f3 false true false false) := by
  refine law (C := Try.checked) (ts := [26, 26]) own_FnExactSameTraces started (by kernel_rfl) Try.func3
    (ChangeSpec.witness6 (enc := enc) (C := Try.checked) false ⟨#[], #[.agg #[.slice none 0 0, .slice none 0 0, .slice none 0 0], .agg #[.slice none 0 0, .slice none 0 0, .slice none 0 0]], []⟩ 8 (by kernel_rfl) (by kernel_rfl) (by kernel_rfl) (by kernel_rfl))
    (by kernel_rfl) (AReads.cons (rdEng.aggV (by kernel_rfl)) (AReads.cons (rdEng.aggV (by kernel_rfl)) AReads.nil)) rfl (by kernel_rfl) (by kernel_rfl) ?_ (by kernel_rfl) Try.underlying4 (fun a h => law_sameTraces a.1 a.2.1 h.1 h.2.1)
  intro H ds hl
  match ds, hl with
  | [d0, d1], _ => rfl
theorem over_FnExactSameTraces : Ytflanhfpjgcfbaa.Rows.fnExactSameTracesRow.holds Ytflanhfpjgcfbaa.Try.pinned (OpenSpec.ofChange Ytflanhfpjgcfbaa.Rows.fnExactSameTracesSpec) :=
  OpenClaim.holds_of_wide 3 Try.f3 rfl rfl rfl rfl rfl rfl rfl ⟨rfl, rfl, rfl, rfl, rfl⟩ rfl rfl rfl rfl rfl (by kernel_rfl) Try.func3 (by kernel_rfl)
    (of_decide_eq_true (by kernel_rfl)) (by unfold Func.isWrapper; first | (rw [if_pos (by decide +kernel)]; kernel_rfl) | (rw [if_neg (by decide +kernel)]; exact ⟨rfl, rfl⟩))
    (fun os started H enc _ => lifted_FnExactSameTraces os started H enc)

end HT
namespace Go.Proofs.Ytflanhfpjgcfbaa
/-- The law, for every input. -/
theorem sameTraces_holds : Rows.FnExactSameTracesSaid := HT.over_FnExactSameTraces
end Go.Proofs.Ytflanhfpjgcfbaa
