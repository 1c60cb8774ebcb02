import Derived.Test.YtfdaepchofckkaaHZWD
import Derived.Test.YtfdaepchofckkaaRows
import Derived.Test.YtfdaepchofckkaaG3
/-
  My own texts (road H): HZWE.
-/
namespace HT
open Go Go.Proofs HK Go.RowKit
theorem own_FnExactApart : ownKnob Try.prog.godebug = none := by kernel_rfl
set_option maxRecDepth 100000 in
theorem lifted_FnExactApart (os : Os) (started : os.Started) (H : Type) (enc : TypeId × Value → H) :
    ReturnsInHanded {} Try.checked os 3 .any (Ytfdaepchofckkaa.Rows.fnExactApartSpec.pre6 enc Try.prog Try.f3 Ytfdaepchofckkaa.Rows.fnExactApartRow.domain false) (Ytfdaepchofckkaa.Rows.fnExactApartSpec.post enc Try.prog Try.f3 false true false false) := by
  refine law (C := Try.checked) (ts := [26, 27, 3, 3]) own_FnExactApart started (by kernel_rfl) Try.func3
    (ChangeSpec.witness6 (enc := enc) (C := Try.checked) false ⟨#[], #[.agg #[.slice none 0 0, .int .i64 0, .slice none 0 0, .slice none 0 0], .slice none 0 0, .int .i64 0, .int .i64 0], []⟩ 8 (by kernel_rfl) (by kernel_rfl) (by kernel_rfl) (by kernel_rfl))
    (by kernel_rfl) (AReads.cons (rdProg.aggV (by kernel_rfl)) (AReads.cons (rdDeedS.oneV (by kernel_rfl)) (AReads.cons (rdInt.oneV (by kernel_rfl)) (AReads.cons (rdInt.oneV (by kernel_rfl)) AReads.nil)))) rfl (by kernel_rfl) (by kernel_rfl) ?_ (by kernel_rfl) Try.underlying4 (fun a h => law_apart a.1 a.2.1 a.2.2.1 a.2.2.2.1 h.1 h.2.1)
  intro H ds hl
  match ds, hl with
  | [d0, d1, d2, d3], _ => rfl
theorem over_FnExactApart : Ytfdaepchofckkaa.Rows.fnExactApartRow.holds Ytfdaepchofckkaa.Try.pinned (OpenSpec.ofChange Ytfdaepchofckkaa.Rows.fnExactApartSpec) :=
  OpenClaim.holds_of_wide 3 Try.f3 rfl rfl rfl rfl rfl rfl rfl ⟨rfl, rfl, rfl, rfl, rfl⟩ rfl rfl rfl rfl rfl (by kernel_rfl) Try.func3 (by kernel_rfl)
    (of_decide_eq_true (by kernel_rfl)) (by unfold Func.isWrapper; first | (rw [if_pos (by decide +kernel)]; kernel_rfl) | (rw [if_neg (by decide +kernel)]; exact ⟨rfl, rfl⟩))
    (fun os started H enc _ => lifted_FnExactApart os started H enc)

end HT
namespace Go.Proofs.Ytfdaepchofckkaa
/-- The law, for every input. -/
theorem apart_holds : Rows.FnExactApartSaid := HT.over_FnExactApart
end Go.Proofs.Ytfdaepchofckkaa
