/-
  My own text (road H): HO2.
-/
import Derived.Test.YtjgmcbefeejgjaaHO1
import Derived.Test.YtjgmcbefeejgjaaRows
import Derived.Test.YtjgmcbefeejgjaaHB2
namespace HO
open Go Go.Proofs HK Go.RowKit
theorem rd3 : Reads Try.prog 3 (fun n : Int => [.int .i64 n]) (fun n => (Lit.int .i64 n).wf = true) := Reads.int (by kernel_rfl)
theorem rd23 : Reads Try.prog 23 (fun x : Int × Int × Int × Int => [.int .i64 x.1, .int .i64 x.2.1, .int .i64 x.2.2.1, .int .i64 x.2.2.2]) (fun _ => True) :=
  (Reads.struct (l := [(3, 0), (3, 1), (3, 2), (3, 3)]) (tot := 4) (by kernel_rfl) (ReadsF.cons 1 (by kernel_rfl) rd3 (ReadsF.cons 1 (by kernel_rfl) rd3 (ReadsF.cons 1 (by kernel_rfl) rd3 (ReadsF.cons 1 (by kernel_rfl) rd3 ReadsF.nil))))).map
    (fun x => (x.1, x.2.1, x.2.2.1, x.2.2.2.1)) (by intro _; rfl) (fun _ _ => trivial)
theorem own : ownKnob Try.prog.godebug = none := by kernel_rfl
set_option maxRecDepth 100000 in
theorem lifted (os : Os) (started : os.Started) (H : Type) (enc : TypeId × Value → H) :
    ReturnsInHanded {} Try.checked os 3 .any (Ytjgmcbefeejgjaa.Rows.fnExactObjOfSpec.pre6 enc Try.prog Try.f3 Ytjgmcbefeejgjaa.Rows.fnExactObjOfRow.domain false) (Ytjgmcbefeejgjaa.Rows.fnExactObjOfSpec.post enc Try.prog Try.f3 false true false false) := by
  refine law (C := Try.checked) (ts := [23]) own started (by kernel_rfl) Try.func3
    (ChangeSpec.witness6 (enc := enc) (C := Try.checked) false ⟨#[], #[.agg #[.int .i64 0, .int .i64 0, .int .i64 0, .int .i64 0]], []⟩ 8 (by kernel_rfl) (by kernel_rfl) (by kernel_rfl) (by kernel_rfl))
    (by kernel_rfl) (AReads.cons (rd23.aggV (by kernel_rfl)) AReads.nil) rfl (by kernel_rfl) (by kernel_rfl) ?_ (by kernel_rfl) Try.underlying4 (fun a _ => law_objOf a.1.1 a.1.2.1 a.1.2.2.1 a.1.2.2.2)
  intro H ds hl
  match ds, hl with
  | [d], _ => rfl
theorem over : Ytjgmcbefeejgjaa.Rows.fnExactObjOfRow.holds Ytjgmcbefeejgjaa.Try.pinned (OpenSpec.ofChange Ytjgmcbefeejgjaa.Rows.fnExactObjOfSpec) :=
  OpenClaim.holds_of_wide 3 Try.f3 rfl rfl rfl rfl rfl rfl rfl ⟨rfl, rfl, rfl, rfl, rfl⟩ rfl rfl rfl rfl rfl (by kernel_rfl) Try.func3 (by kernel_rfl)
    (of_decide_eq_true (by kernel_rfl)) (by unfold Func.isWrapper; first | (rw [if_pos (by decide +kernel)]; kernel_rfl) | (rw [if_neg (by decide +kernel)]; exact ⟨rfl, rfl⟩))
    (fun os started H enc _ => lifted os started H enc)
theorem proved : Ytjgmcbefeejgjaa.Rows.FnExactObjOfSaid := over
#print axioms proved
end HO
namespace Go.Proofs.Ytjgmcbefeejgjaa
/-- The law of ObjOf, for every input. -/
theorem objOf_holds : Rows.FnExactObjOfSaid := HO.proved
end Go.Proofs.Ytjgmcbefeejgjaa
