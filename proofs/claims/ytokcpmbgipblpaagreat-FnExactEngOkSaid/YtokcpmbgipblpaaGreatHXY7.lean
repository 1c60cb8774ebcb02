import Derived.Test.YtokcpmbgipblpaaGreatHXY6
import Derived.Test.YtokcpmbgipblpaaGreatRows
import Derived.Test.YtokcpmbgipblpaaGreatG3
/-
  My own texts (road H): HXY7.
-/
namespace HT
open Go Go.Proofs HK Go.RowKit
theorem own_FnExactEngOk : ownKnob Tryz.prog.godebug = none := by kernel_rfl
set_option maxRecDepth 100000 in
theorem lifted_FnExactEngOk (os : Os) (started : os.Started) (H : Type) (enc : TypeId × Value → H) :
    ReturnsInHanded {} Tryz.checked os 3 .any (YtokcpmbgipblpaaGreat.Rows.fnExactEngOkSpec.pre6 enc Tryz.prog Tryz.f3 YtokcpmbgipblpaaGreat.Rows.fnExactEngOkRow.domain false) (YtokcpmbgipblpaaGreat.Rows.fnExactEngOkSpec.post enc Tryz.prog Tryz.f3 false true false false) := by
  refine law (C := Tryz.checked) (ts := [26, 31]) own_FnExactEngOk started (by kernel_rfl) Tryz.func3
    (ChangeSpec.witness6 (enc := enc) (C := Tryz.checked) false ⟨#[], #[.agg #[.slice none 0 0, .int .i64 0, .slice none 0 0, .slice none 0 0], .agg #[.slice none 0 0, .slice none 0 0, .slice none 0 0]], []⟩ 8 (by kernel_rfl) (by kernel_rfl) (by kernel_rfl) (by kernel_rfl))
    (by kernel_rfl) (AReads.cons (rdProg.aggV (by kernel_rfl)) (AReads.cons (rdEng.aggV (by kernel_rfl)) AReads.nil)) rfl (by kernel_rfl) (by kernel_rfl) ?_ (by kernel_rfl) Tryz.underlying4 (fun a h => law_engOk a.1 a.2.1 h.1 h.2.1)
  intro H ds hl
  match ds, hl with
  | [d0, d1], _ => rfl
theorem over_FnExactEngOk : YtokcpmbgipblpaaGreat.Rows.fnExactEngOkRow.holds YtokcpmbgipblpaaGreat.Tryz.pinned (OpenSpec.ofChange YtokcpmbgipblpaaGreat.Rows.fnExactEngOkSpec) :=
  OpenClaim.holds_of_wide 3 Tryz.f3 rfl rfl rfl rfl rfl rfl rfl ⟨rfl, rfl, rfl, rfl, rfl⟩ rfl rfl rfl rfl rfl (by kernel_rfl) Tryz.func3 (by kernel_rfl)
    (of_decide_eq_true (by kernel_rfl)) (by unfold Func.isWrapper; first | (rw [if_pos (by decide +kernel)]; kernel_rfl) | (rw [if_neg (by decide +kernel)]; exact ⟨rfl, rfl⟩))
    (fun os started H enc _ => lifted_FnExactEngOk os started H enc)

end HT
namespace Go.Proofs.YtokcpmbgipblpaaGreat
/-- The law, for every input. -/
theorem engOk_holds : Rows.FnExactEngOkSaid := HT.over_FnExactEngOk
end Go.Proofs.YtokcpmbgipblpaaGreat
