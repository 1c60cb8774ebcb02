import Derived.Test.YtokcpmbgipblpaaGreatHXYB
import Derived.Test.YtokcpmbgipblpaaGreatRows
import Derived.Test.YtokcpmbgipblpaaGreatG3
/-
  My own texts (road H): HXYC.
-/
namespace HT
open Go Go.Proofs HK Go.RowKit
theorem own_FnExactStatus : ownKnob Tryz.prog.godebug = none := by kernel_rfl
set_option maxRecDepth 100000 in
theorem lifted_FnExactStatus (os : Os) (started : os.Started) (H : Type) (enc : TypeId × Value → H) :
    ReturnsInHanded {} Tryz.checked os 4 .any (YtokcpmbgipblpaaGreat.Rows.fnExactStatusSpec.pre6 enc Tryz.prog Tryz.f4 YtokcpmbgipblpaaGreat.Rows.fnExactStatusRow.domain false) (YtokcpmbgipblpaaGreat.Rows.fnExactStatusSpec.post enc Tryz.prog Tryz.f4 false true false false) := by
  refine law (C := Tryz.checked) (ts := [26, 31]) own_FnExactStatus started (by kernel_rfl) Tryz.func4
    (ChangeSpec.witness6 (enc := enc) (C := Tryz.checked) false ⟨#[], #[.agg #[.slice none 0 0, .int .i64 0, .slice none 0 0, .slice none 0 0], .agg #[.slice none 0 0, .slice none 0 0, .slice none 0 0]], []⟩ 8 (by kernel_rfl) (by kernel_rfl) (by kernel_rfl) (by kernel_rfl))
    (by kernel_rfl) (AReads.cons (rdProg.aggV (by kernel_rfl)) (AReads.cons (rdEng.aggV (by kernel_rfl)) AReads.nil)) rfl (by kernel_rfl) (by kernel_rfl) ?_ (by kernel_rfl) Tryz.underlying4 (fun a h => law_status a.1 a.2.1 h.1 h.2.1)
  intro H ds hl
  match ds, hl with
  | [d0, d1], _ => rfl
theorem over_FnExactStatus : YtokcpmbgipblpaaGreat.Rows.fnExactStatusRow.holds YtokcpmbgipblpaaGreat.Tryz.pinned (OpenSpec.ofChange YtokcpmbgipblpaaGreat.Rows.fnExactStatusSpec) :=
  OpenClaim.holds_of_wide 4 Tryz.f4 rfl rfl rfl rfl rfl rfl rfl ⟨rfl, rfl, rfl, rfl, rfl⟩ rfl rfl rfl rfl rfl (by kernel_rfl) Tryz.func4 (by kernel_rfl)
    (of_decide_eq_true (by kernel_rfl)) (by unfold Func.isWrapper; first | (rw [if_pos (by decide +kernel)]; kernel_rfl) | (rw [if_neg (by decide +kernel)]; exact ⟨rfl, rfl⟩))
    (fun os started H enc _ => lifted_FnExactStatus os started H enc)

end HT
namespace Go.Proofs.YtokcpmbgipblpaaGreat
/-- The law, for every input. -/
theorem status_holds : Rows.FnExactStatusSaid := HT.over_FnExactStatus
end Go.Proofs.YtokcpmbgipblpaaGreat
