import Derived.Test.YtfdaepchofckkaaGreatHWB
import Derived.Test.YtfdaepchofckkaaGreatRows
import Derived.Test.YtfdaepchofckkaaGreatG3
/-
  My own texts (road H): HWC.
-/
namespace HT
open Go Go.Proofs HK Go.RowKit
theorem own_FnExactLayers : ownKnob Tryz.prog.godebug = none := by kernel_rfl
set_option maxRecDepth 100000 in
theorem lifted_FnExactLayers (os : Os) (started : os.Started) (H : Type) (enc : TypeId × Value → H) :
    ReturnsInHanded {} Tryz.checked os 5 .any (YtfdaepchofckkaaGreat.Rows.fnExactLayersSpec.pre6 enc Tryz.prog Tryz.f5 YtfdaepchofckkaaGreat.Rows.fnExactLayersRow.domain false) (YtfdaepchofckkaaGreat.Rows.fnExactLayersSpec.post enc Tryz.prog Tryz.f5 false true false false) := by
  refine law (C := Tryz.checked) (ts := [26, 27]) own_FnExactLayers started (by kernel_rfl) Tryz.func5
    (ChangeSpec.witness6 (enc := enc) (C := Tryz.checked) false ⟨#[], #[.agg #[.slice none 0 0, .int .i64 0, .slice none 0 0, .slice none 0 0], .slice none 0 0], []⟩ 8 (by kernel_rfl) (by kernel_rfl) (by kernel_rfl) (by kernel_rfl))
    (by kernel_rfl) (AReads.cons (rdProg.aggV (by kernel_rfl)) (AReads.cons (rdDeedS.oneV (by kernel_rfl)) AReads.nil)) rfl (by kernel_rfl) (by kernel_rfl) ?_ (by kernel_rfl) Tryz.underlying4 (fun a h => law_layers a.1 a.2.1 h.1 h.2.1)
  intro H ds hl
  match ds, hl with
  | [d0, d1], _ => rfl
theorem over_FnExactLayers : YtfdaepchofckkaaGreat.Rows.fnExactLayersRow.holds YtfdaepchofckkaaGreat.Tryz.pinned (OpenSpec.ofChange YtfdaepchofckkaaGreat.Rows.fnExactLayersSpec) :=
  OpenClaim.holds_of_wide 5 Tryz.f5 rfl rfl rfl rfl rfl rfl rfl ⟨rfl, rfl, rfl, rfl, rfl⟩ rfl rfl rfl rfl rfl (by kernel_rfl) Tryz.func5 (by kernel_rfl)
    (of_decide_eq_true (by kernel_rfl)) (by unfold Func.isWrapper; first | (rw [if_pos (by decide +kernel)]; kernel_rfl) | (rw [if_neg (by decide +kernel)]; exact ⟨rfl, rfl⟩))
    (fun os started H enc _ => lifted_FnExactLayers os started H enc)

end HT
namespace Go.Proofs.YtfdaepchofckkaaGreat
/-- The law, for every input. -/
theorem layers_holds : Rows.FnExactLayersSaid := HT.over_FnExactLayers
end Go.Proofs.YtfdaepchofckkaaGreat
