import Derived.Test.YtjalahhkhcmjaaaGreatHMQA
import Derived.Test.YtjalahhkhcmjaaaGreatRows
import Derived.Test.YtjalahhkhcmjaaaGreatG3
/-
  My own texts (road H): HMQB.
-/
namespace HT
open Go Go.Proofs HK Go.RowKit
theorem own_FnExactWhyStuck : ownKnob Tryz.prog.godebug = none := by kernel_rfl
set_option maxRecDepth 100000 in
theorem lifted_FnExactWhyStuck (os : Os) (started : os.Started) (H : Type) (enc : TypeId × Value → H) :
    ReturnsInHanded {} Tryz.checked os 3 .any (YtjalahhkhcmjaaaGreat.Rows.fnExactWhyStuckSpec.pre6 enc Tryz.prog Tryz.f3 YtjalahhkhcmjaaaGreat.Rows.fnExactWhyStuckRow.domain false) (YtjalahhkhcmjaaaGreat.Rows.fnExactWhyStuckSpec.post enc Tryz.prog Tryz.f3 false true false false) := by
  refine law (C := Tryz.checked) (ts := [26, 31, 3]) own_FnExactWhyStuck started (by kernel_rfl) Tryz.func3
    (ChangeSpec.witness6 (enc := enc) (C := Tryz.checked) false ⟨#[], #[.agg #[.slice none 0 0, .int .i64 0, .slice none 0 0, .slice none 0 0], .agg #[.slice none 0 0, .slice none 0 0, .slice none 0 0], .int .i64 0], []⟩ 8 (by kernel_rfl) (by kernel_rfl) (by kernel_rfl) (by kernel_rfl))
    (by kernel_rfl) (AReads.cons (rdProg.aggV (by kernel_rfl)) (AReads.cons (rdEng.aggV (by kernel_rfl)) (AReads.cons (rdInt.oneV (by kernel_rfl)) AReads.nil))) rfl (by kernel_rfl) (by kernel_rfl) ?_ (by kernel_rfl) Tryz.underlying4 (fun a h => law_why a.1 a.2.1 a.2.2.1 h.1 h.2.1)
  intro H ds hl
  match ds, hl with
  | [d0, d1, d2], _ => rfl
theorem over_FnExactWhyStuck : YtjalahhkhcmjaaaGreat.Rows.fnExactWhyStuckRow.holds YtjalahhkhcmjaaaGreat.Tryz.pinned (OpenSpec.ofChange YtjalahhkhcmjaaaGreat.Rows.fnExactWhyStuckSpec) :=
  OpenClaim.holds_of_wide 3 Tryz.f3 rfl rfl rfl rfl rfl rfl rfl ⟨rfl, rfl, rfl, rfl, rfl⟩ rfl rfl rfl rfl rfl (by kernel_rfl) Tryz.func3 (by kernel_rfl)
    (of_decide_eq_true (by kernel_rfl)) (by unfold Func.isWrapper; first | (rw [if_pos (by decide +kernel)]; kernel_rfl) | (rw [if_neg (by decide +kernel)]; exact ⟨rfl, rfl⟩))
    (fun os started H enc _ => lifted_FnExactWhyStuck os started H enc)
end HT
namespace Go.Proofs.YtjalahhkhcmjaaaGreat
theorem whyStuck_holds : Rows.FnExactWhyStuckSaid := HT.over_FnExactWhyStuck
end Go.Proofs.YtjalahhkhcmjaaaGreat
