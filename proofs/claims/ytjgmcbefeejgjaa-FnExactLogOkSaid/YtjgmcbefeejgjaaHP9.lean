/-
  My own text (road H): HP9.
-/
import Derived.Test.YtjgmcbefeejgjaaHP8
import Derived.Test.YtjgmcbefeejgjaaRows
import Derived.Test.YtjgmcbefeejgjaaHB2
namespace HO
open Go Go.Proofs HK Go.RowKit
theorem own_FnExactLogOk : ownKnob Try.prog.godebug = none := by kernel_rfl
set_option maxRecDepth 100000 in
theorem lifted_FnExactLogOk (os : Os) (started : os.Started) (H : Type) (enc : TypeId × Value → H) :
    ReturnsInHanded {} Try.checked os 8 .any (Ytjgmcbefeejgjaa.Rows.fnExactLogOkSpec.pre6 enc Try.prog Try.f8 Ytjgmcbefeejgjaa.Rows.fnExactLogOkRow.domain false) (Ytjgmcbefeejgjaa.Rows.fnExactLogOkSpec.post enc Try.prog Try.f8 false true false false) := by
  refine law (C := Try.checked) (ts := [48]) own_FnExactLogOk started (by kernel_rfl) Try.func8
    (ChangeSpec.witness6 (enc := enc) (C := Try.checked) false ⟨#[], #[.agg #[.int .i64 0, .slice none 0 0]], []⟩ 8 (by kernel_rfl) (by kernel_rfl) (by kernel_rfl) (by kernel_rfl))
    (by kernel_rfl) (AReads.cons (rdLog.aggV (by kernel_rfl)) AReads.nil) rfl (by kernel_rfl) (by kernel_rfl) ?_ (by kernel_rfl) Try.underlying4 (fun a h => law_logOk a.1.1 a.1.2 h.1)
  intro H ds hl
  match ds, hl with
  | [d0], _ => rfl
theorem over_FnExactLogOk : Ytjgmcbefeejgjaa.Rows.fnExactLogOkRow.holds Ytjgmcbefeejgjaa.Try.pinned (OpenSpec.ofChange Ytjgmcbefeejgjaa.Rows.fnExactLogOkSpec) :=
  OpenClaim.holds_of_wide 8 Try.f8 rfl rfl rfl rfl rfl rfl rfl ⟨rfl, rfl, rfl, rfl, rfl⟩ rfl rfl rfl rfl rfl (by kernel_rfl) Try.func8 (by kernel_rfl)
    (of_decide_eq_true (by kernel_rfl)) (by unfold Func.isWrapper; first | (rw [if_pos (by decide +kernel)]; kernel_rfl) | (rw [if_neg (by decide +kernel)]; exact ⟨rfl, rfl⟩))
    (fun os started H enc _ => lifted_FnExactLogOk os started H enc)
#print axioms over_FnExactLogOk
end HO
namespace Go.Proofs.Ytjgmcbefeejgjaa
/-- The law, for every input. -/
theorem logOk_holds : Rows.FnExactLogOkSaid := HO.over_FnExactLogOk
end Go.Proofs.Ytjgmcbefeejgjaa
