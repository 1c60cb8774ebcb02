import Derived.Test.YtdhoappjadnhcaaGreatHCAC
import Derived.Test.YtdhoappjadnhcaaGreatRows
import Derived.Test.YtdhoappjadnhcaaGreatG3
/-
  My own texts (road H): HCAD.
-/
set_option maxHeartbeats 8000000
namespace HT
open Go Go.Proofs HK Go.RowKit
theorem own_FnExactWake : ownKnob Tryz.prog.godebug = none := by kernel_rfl
set_option maxRecDepth 100000 in
theorem lifted_FnExactWake (os : Os) (started : os.Started) (H : Type) (enc : TypeId × Value → H) :
    ReturnsInHanded {} Tryz.checked os 3 .any (YtdhoappjadnhcaaGreat.Rows.fnExactWakeSpec.pre6 enc Tryz.prog Tryz.f3 YtdhoappjadnhcaaGreat.Rows.fnExactWakeRow.domain false) (YtdhoappjadnhcaaGreat.Rows.fnExactWakeSpec.post enc Tryz.prog Tryz.f3 false true false false) := by
  refine law (C := Tryz.checked) (ts := [26, 31, 3, 33, 3, 4]) own_FnExactWake started (by kernel_rfl) Tryz.func3
    (ChangeSpec.witness6 (enc := enc) (C := Tryz.checked) false ⟨#[], #[.agg #[.slice none 0 0, .int .i64 0, .slice none 0 0, .slice none 0 0], .agg #[.slice none 0 0, .slice none 0 0, .slice none 0 0], .int .i64 0, .agg #[.int .i64 0, .int .i64 0, .int .i64 0], .int .i64 0, .bool false], []⟩ 8 (by kernel_rfl) (by kernel_rfl) (by kernel_rfl) (by kernel_rfl))
    (by kernel_rfl) (AReads.cons (rdProg.aggV (by kernel_rfl)) (AReads.cons (rdEng.aggV (by kernel_rfl)) (AReads.cons (rdInt.oneV (by kernel_rfl)) (AReads.cons (rdWaiter.aggV (by kernel_rfl)) (AReads.cons (rdInt.oneV (by kernel_rfl)) (AReads.cons (rdBool.oneV (by kernel_rfl)) AReads.nil)))))) rfl (by kernel_rfl) (by kernel_rfl) ?_ (by kernel_rfl) Tryz.underlying4 (fun a h => law_wake a.1 a.2.1 a.2.2.1 a.2.2.2.1.g a.2.2.2.1.cas a.2.2.2.1.v a.2.2.2.2.1 a.2.2.2.2.2.1 h.1 h.2.1)
  intro H ds hl
  match ds, hl with
  | [d0, d1, d2, d3, d4, d5], _ => rfl
theorem over_FnExactWake : YtdhoappjadnhcaaGreat.Rows.fnExactWakeRow.holds YtdhoappjadnhcaaGreat.Tryz.pinned (OpenSpec.ofChange YtdhoappjadnhcaaGreat.Rows.fnExactWakeSpec) :=
  OpenClaim.holds_of_wide 3 Tryz.f3 rfl rfl rfl rfl rfl rfl rfl ⟨rfl, rfl, rfl, rfl, rfl⟩ rfl rfl rfl rfl rfl (by kernel_rfl) Tryz.func3 (by kernel_rfl)
    (of_decide_eq_true (by kernel_rfl)) (by unfold Func.isWrapper; first | (rw [if_pos (by decide +kernel)]; kernel_rfl) | (rw [if_neg (by decide +kernel)]; exact ⟨rfl, rfl⟩))
    (fun os started H enc _ => lifted_FnExactWake os started H enc)
end HT
namespace Go.Proofs.YtdhoappjadnhcaaGreat
theorem wake_holds : Rows.FnExactWakeSaid := HT.over_FnExactWake
end Go.Proofs.YtdhoappjadnhcaaGreat
