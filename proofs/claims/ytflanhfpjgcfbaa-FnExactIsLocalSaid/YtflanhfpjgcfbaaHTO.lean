import Derived.Test.YtflanhfpjgcfbaaG12
import Derived.Test.YtflanhfpjgcfbaaRows
import Derived.Test.YtflanhfpjgcfbaaG3
/-
  My own texts (road H): HTO.
-/
namespace HT
open Go Go.Proofs HK Go.RowKit
theorem own_FnExactIsLocal : ownKnob Try.prog.godebug = none := by kernel_rfl
set_option maxRecDepth 100000 in
theorem lifted_FnExactIsLocal (os : Os) (started : os.Started) (H : Type) (enc : TypeId × Value → H) :
    ReturnsInHanded {} Try.checked os 7 .any (Ytflanhfpjgcfbaa.Rows.fnExactIsLocalSpec.pre6 enc Try.prog Try.f7 Ytflanhfpjgcfbaa.Rows.fnExactIsLocalRow.domain false) (Ytflanhfpjgcfbaa.Rows.fnExactIsLocalSpec.post enc Try.prog Try.f7 false true false false) := by
  refine law (C := Try.checked) (ts := [52, 68]) own_FnExactIsLocal started (by kernel_rfl) Try.func7
    (ChangeSpec.witness6 (enc := enc) (C := Try.checked) false ⟨#[], #[.agg #[.slice none 0 0, .int .i64 0, .slice none 0 0, .slice none 0 0], .agg #[.int .i64 0, .int .i64 0, .slice none 0 0, .int .i64 0, .slice none 0 0]], []⟩ 8 (by kernel_rfl) (by kernel_rfl) (by kernel_rfl) (by kernel_rfl))
    (by kernel_rfl) (AReads.cons (rdProg.aggV (by kernel_rfl)) (AReads.cons (rdGor.aggV (by kernel_rfl)) AReads.nil)) rfl (by kernel_rfl) (by kernel_rfl) ?_ (by kernel_rfl) Try.underlying4 (fun a h => law_isLocal a.1 a.2.1 h.1 h.2.1)
  intro H ds hl
  match ds, hl with
  | [d0, d1], _ => rfl
theorem over_FnExactIsLocal : Ytflanhfpjgcfbaa.Rows.fnExactIsLocalRow.holds Ytflanhfpjgcfbaa.Try.pinned (OpenSpec.ofChange Ytflanhfpjgcfbaa.Rows.fnExactIsLocalSpec) :=
  OpenClaim.holds_of_wide 7 Try.f7 rfl rfl rfl rfl rfl rfl rfl ⟨rfl, rfl, rfl, rfl, rfl⟩ rfl rfl rfl rfl rfl (by kernel_rfl) Try.func7 (by kernel_rfl)
    (of_decide_eq_true (by kernel_rfl)) (by unfold Func.isWrapper; first | (rw [if_pos (by decide +kernel)]; kernel_rfl) | (rw [if_neg (by decide +kernel)]; exact ⟨rfl, rfl⟩))
    (fun os started H enc _ => lifted_FnExactIsLocal os started H enc)

end HT
namespace Go.Proofs.Ytflanhfpjgcfbaa
/-- The law, for every input. -/
theorem isLocal_holds : Rows.FnExactIsLocalSaid := HT.over_FnExactIsLocal
end Go.Proofs.Ytflanhfpjgcfbaa
