import Derived.Test.YtohfnikklggjjaaGreatHGWG
import Derived.Test.YtohfnikklggjjaaGreatRows
import Derived.Test.YtohfnikklggjjaaGreatG3
/-
  My own texts (road H): HGWH.
-/
namespace HT
open Go Go.Proofs HK Go.RowKit
theorem own_FnExactSwap : ownKnob Tryz.prog.godebug = none := by kernel_rfl
set_option maxRecDepth 100000 in
theorem lifted_FnExactSwap (os : Os) (started : os.Started) (H : Type) (enc : TypeId × Value → H) :
    ReturnsInHanded {} Tryz.checked os 3 .any (YtohfnikklggjjaaGreat.Rows.fnExactSwapSpec.pre6 enc Tryz.prog Tryz.f3 YtohfnikklggjjaaGreat.Rows.fnExactSwapRow.domain false) (YtohfnikklggjjaaGreat.Rows.fnExactSwapSpec.post enc Tryz.prog Tryz.f3 false true false false) := by
  refine law (C := Tryz.checked) (ts := [26, 27, 3]) own_FnExactSwap started (by kernel_rfl) Tryz.func3
    (ChangeSpec.witness6 (enc := enc) (C := Tryz.checked) false ⟨#[], #[.agg #[.slice none 0 0, .int .i64 0, .slice none 0 0, .slice none 0 0], .slice none 0 0, .int .i64 0], []⟩ 8 (by kernel_rfl) (by kernel_rfl) (by kernel_rfl) (by kernel_rfl))
    (by kernel_rfl) (AReads.cons (rdProg.aggV (by kernel_rfl)) (AReads.cons (rdDeedS.oneV (by kernel_rfl)) (AReads.cons (rdInt.oneV (by kernel_rfl)) AReads.nil))) rfl (by kernel_rfl) (by kernel_rfl) ?_ (by kernel_rfl) Tryz.underlying4 (fun a h => law_swap a.1 a.2.1 a.2.2.1 h.1 h.2.1)
  intro H ds hl
  match ds, hl with
  | [d0, d1, d2], _ => rfl
theorem over_FnExactSwap : YtohfnikklggjjaaGreat.Rows.fnExactSwapRow.holds YtohfnikklggjjaaGreat.Tryz.pinned (OpenSpec.ofChange YtohfnikklggjjaaGreat.Rows.fnExactSwapSpec) :=
  OpenClaim.holds_of_wide 3 Tryz.f3 rfl rfl rfl rfl rfl rfl rfl ⟨rfl, rfl, rfl, rfl, rfl⟩ rfl rfl rfl rfl rfl (by kernel_rfl) Tryz.func3 (by kernel_rfl)
    (of_decide_eq_true (by kernel_rfl)) (by unfold Func.isWrapper; first | (rw [if_pos (by decide +kernel)]; kernel_rfl) | (rw [if_neg (by decide +kernel)]; exact ⟨rfl, rfl⟩))
    (fun os started H enc _ => lifted_FnExactSwap os started H enc)
end HT
namespace Go.Proofs.YtohfnikklggjjaaGreat
theorem swap_holds : Rows.FnExactSwapSaid := HT.over_FnExactSwap
end Go.Proofs.YtohfnikklggjjaaGreat
