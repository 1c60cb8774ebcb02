import Derived.Test.YteeefpifkepbpaaHSZ8
import Derived.Test.YteeefpifkepbpaaHSC
import Derived.Test.YteeefpifkepbpaaHS6
import Derived.Test.YteeefpifkepbpaaRows
import Derived.Test.YteeefpifkepbpaaG3
/-
  My own texts (road H): HSZ9.
-/
namespace HS
open Go Go.Proofs HK Go.RowKit
theorem own_FnExactLogBytes : ownKnob Try.prog.godebug = none := by kernel_rfl
set_option maxRecDepth 100000 in
theorem lifted_FnExactLogBytes (os : Os) (started : os.Started) (H : Type) (enc : TypeId × Value → H) :
    ReturnsInHanded {} Try.checked os 12 .any (Yteeefpifkepbpaa.Rows.fnExactLogBytesSpec.pre6 enc Try.prog Try.f12 Yteeefpifkepbpaa.Rows.fnExactLogBytesRow.domain false) (Yteeefpifkepbpaa.Rows.fnExactLogBytesSpec.post enc Try.prog Try.f12 false true false false) := by
  refine law (C := Try.checked) (ts := [42]) own_FnExactLogBytes started (by kernel_rfl) Try.func12
    (ChangeSpec.witness6 (enc := enc) (C := Try.checked) false ⟨#[], #[.agg #[.int .i64 0, .slice none 0 0]], []⟩ 8 (by kernel_rfl) (by kernel_rfl) (by kernel_rfl) (by kernel_rfl))
    (by kernel_rfl) (AReads.cons (rdLog.aggV (by kernel_rfl)) AReads.nil) rfl (by kernel_rfl) (by kernel_rfl) ?_ (by kernel_rfl) Try.underlying4 (fun a h => law_logBytes a.1.1 a.1.2 h.1)
  intro H ds hl
  match ds, hl with
  | [d0], _ => rfl
theorem over_FnExactLogBytes : Yteeefpifkepbpaa.Rows.fnExactLogBytesRow.holds Yteeefpifkepbpaa.Try.pinned (OpenSpec.ofChange Yteeefpifkepbpaa.Rows.fnExactLogBytesSpec) :=
  OpenClaim.holds_of_wide 12 Try.f12 rfl rfl rfl rfl rfl rfl rfl ⟨rfl, rfl, rfl, rfl, rfl⟩ rfl rfl rfl rfl rfl (by kernel_rfl) Try.func12 (by kernel_rfl)
    (of_decide_eq_true (by kernel_rfl)) (by unfold Func.isWrapper; first | (rw [if_pos (by decide +kernel)]; kernel_rfl) | (rw [if_neg (by decide +kernel)]; exact ⟨rfl, rfl⟩))
    (fun os started H enc _ => lifted_FnExactLogBytes os started H enc)
end HS
namespace Go.Proofs.Yteeefpifkepbpaa
theorem logBytes_holds : Rows.FnExactLogBytesSaid := HS.over_FnExactLogBytes
end Go.Proofs.Yteeefpifkepbpaa
