import Derived.Test.YtokcpmbgipblpaaGreatBHXYB
import Derived.Test.YtokcpmbgipblpaaGreatRows
import Derived.Test.YtokcpmbgipblpaaGreatBG3
/-
  My own texts (road H): HXYE.
-/
namespace HT
open Go Go.Proofs HK Go.RowKit
theorem own_FnExactBlocks : ownKnob Tryz.prog.godebug = none := by kernel_rfl
set_option maxRecDepth 100000 in
theorem lifted_FnExactBlocks (os : Os) (started : os.Started) (H : Type) (enc : TypeId × Value → H) :
    ReturnsInHanded {} Tryz.checked os 6 .any (YtokcpmbgipblpaaGreat.Rows.fnExactBlocksSpec.pre6 enc Tryz.prog Tryz.f6 YtokcpmbgipblpaaGreat.Rows.fnExactBlocksRow.domain false) (YtokcpmbgipblpaaGreat.Rows.fnExactBlocksSpec.post enc Tryz.prog Tryz.f6 false true false false) := by
  refine law (C := Tryz.checked) (ts := [26, 31, 3]) own_FnExactBlocks started (by kernel_rfl) Tryz.func6
    (ChangeSpec.witness6 (enc := enc) (C := Tryz.checked) false ⟨#[], #[.agg #[.slice none 0 0, .int .i64 0, .slice none 0 0, .slice none 0 0], .agg #[.slice none 0 0, .slice none 0 0, .slice none 0 0], .int .i64 0], []⟩ 8 (by kernel_rfl) (by kernel_rfl) (by kernel_rfl) (by kernel_rfl))
    (by kernel_rfl) (AReads.cons (rdProg.aggV (by kernel_rfl)) (AReads.cons (rdEng.aggV (by kernel_rfl)) (AReads.cons (rdInt.oneV (by kernel_rfl)) AReads.nil))) rfl (by kernel_rfl) (by kernel_rfl) ?_ (by kernel_rfl) Tryz.underlying4 (fun a h => law_blocks a.1 a.2.1 a.2.2.1 h.1 h.2.1)
  intro H ds hl
  match ds, hl with
  | [d0, d1, d2], _ => rfl
theorem over_FnExactBlocks : YtokcpmbgipblpaaGreat.Rows.fnExactBlocksRow.holds YtokcpmbgipblpaaGreat.Tryz.pinned (OpenSpec.ofChange YtokcpmbgipblpaaGreat.Rows.fnExactBlocksSpec) :=
  OpenClaim.holds_of_wide 6 Tryz.f6 rfl rfl rfl rfl rfl rfl rfl ⟨rfl, rfl, rfl, rfl, rfl⟩ rfl rfl rfl rfl rfl (by kernel_rfl) Tryz.func6 (by kernel_rfl)
    (of_decide_eq_true (by kernel_rfl)) (by unfold Func.isWrapper; first | (rw [if_pos (by decide +kernel)]; kernel_rfl) | (rw [if_neg (by decide +kernel)]; exact ⟨rfl, rfl⟩))
    (fun os started H enc _ => lifted_FnExactBlocks os started H enc)
end HT
namespace Go.Proofs.YtokcpmbgipblpaaGreat
theorem blocks_holds : Rows.FnExactBlocksSaid := HT.over_FnExactBlocks
end Go.Proofs.YtokcpmbgipblpaaGreat
