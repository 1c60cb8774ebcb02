import Derived.Test.YtokcpmbgipblpaaGreatBHXYB
import Derived.Test.YtokcpmbgipblpaaGreatRows
import Derived.Test.YtokcpmbgipblpaaGreatBG3
/-
  My own texts (road H): HXYD.
-/
namespace HT
open Go Go.Proofs HK Go.RowKit
theorem own_FnExactChoices : ownKnob Tryz.prog.godebug = none := by kernel_rfl
set_option maxRecDepth 100000 in
theorem lifted_FnExactChoices (os : Os) (started : os.Started) (H : Type) (enc : TypeId × Value → H) :
    ReturnsInHanded {} Tryz.checked os 5 .any (YtokcpmbgipblpaaGreat.Rows.fnExactChoicesSpec.pre6 enc Tryz.prog Tryz.f5 YtokcpmbgipblpaaGreat.Rows.fnExactChoicesRow.domain false) (YtokcpmbgipblpaaGreat.Rows.fnExactChoicesSpec.post enc Tryz.prog Tryz.f5 false true false false) := by
  refine law (C := Tryz.checked) (ts := [26, 31, 3]) own_FnExactChoices started (by kernel_rfl) Tryz.func5
    (ChangeSpec.witness6 (enc := enc) (C := Tryz.checked) false ⟨#[], #[.agg #[.slice none 0 0, .int .i64 0, .slice none 0 0, .slice none 0 0], .agg #[.slice none 0 0, .slice none 0 0, .slice none 0 0], .int .i64 0], []⟩ 8 (by kernel_rfl) (by kernel_rfl) (by kernel_rfl) (by kernel_rfl))
    (by kernel_rfl) (AReads.cons (rdProg.aggV (by kernel_rfl)) (AReads.cons (rdEng.aggV (by kernel_rfl)) (AReads.cons (rdInt.oneV (by kernel_rfl)) AReads.nil))) rfl (by kernel_rfl) (by kernel_rfl) ?_ (by kernel_rfl) Tryz.underlying4 (fun a h => law_choices a.1 a.2.1 a.2.2.1 h.1 h.2.1)
  intro H ds hl
  match ds, hl with
  | [d0, d1, d2], _ => rfl
theorem over_FnExactChoices : YtokcpmbgipblpaaGreat.Rows.fnExactChoicesRow.holds YtokcpmbgipblpaaGreat.Tryz.pinned (OpenSpec.ofChange YtokcpmbgipblpaaGreat.Rows.fnExactChoicesSpec) :=
  OpenClaim.holds_of_wide 5 Tryz.f5 rfl rfl rfl rfl rfl rfl rfl ⟨rfl, rfl, rfl, rfl, rfl⟩ rfl rfl rfl rfl rfl (by kernel_rfl) Tryz.func5 (by kernel_rfl)
    (of_decide_eq_true (by kernel_rfl)) (by unfold Func.isWrapper; first | (rw [if_pos (by decide +kernel)]; kernel_rfl) | (rw [if_neg (by decide +kernel)]; exact ⟨rfl, rfl⟩))
    (fun os started H enc _ => lifted_FnExactChoices os started H enc)
end HT
namespace Go.Proofs.YtokcpmbgipblpaaGreat
theorem choices_holds : Rows.FnExactChoicesSaid := HT.over_FnExactChoices
end Go.Proofs.YtokcpmbgipblpaaGreat
