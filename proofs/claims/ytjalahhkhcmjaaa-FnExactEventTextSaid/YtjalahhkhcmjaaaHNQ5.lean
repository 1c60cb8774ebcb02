import Derived.Test.YtjalahhkhcmjaaaHNQ3
/-
  My own texts (road H): HNQ5.
-/
set_option linter.unusedSimpArgs false
set_option linter.unusedVariables false
namespace HT
open Go Go.Proofs HK
theorem rdInt : Reads Try.prog 3 (fun n : Int => [.int .i64 n]) (fun n => (Lit.int .i64 n).wf = true) := Reads.int (by kernel_rfl)
theorem rdDeed : Reads Try.prog 23 Deed.cl (fun _ => True) :=
  (Reads.struct (l := [(3, 0), (3, 1), (3, 2), (3, 3)]) (tot := 4) (by kernel_rfl) (ReadsF.cons 1 (by kernel_rfl) rdInt (ReadsF.cons 1 (by kernel_rfl) rdInt (ReadsF.cons 1 (by kernel_rfl) rdInt (ReadsF.cons 1 (by kernel_rfl) rdInt ReadsF.nil))))).map
    (fun x => ⟨x.1, x.2.1, x.2.2.1, x.2.2.2.1⟩) (by intro _; rfl) (fun _ _ => trivial)
set_option maxHeartbeats 1000000 in
theorem law_eventText (x : Deed) : Fn Try.prog 3 [.agg x.cl] (.bool true) := by
  refine Fn.intro Try.func3 (by decide) rfl (rs := [.tmp 2]) rfl Try.ntmps3 (by simp) ?_
  refine SW.regionK fun K hK => ?_
  simp -implicitDefEqProofs
  repeat refine ⟨by omega, ?_⟩
  refine hK _ ?_
  clear hK K
  refine SW.regionK fun K hK => ?_
  simp -implicitDefEqProofs
  first | refine ⟨by omega, by omega, ?_⟩ | refine ⟨by omega, ?_⟩ | skip
  first
    | refine CallQ.fzE (toDeed_ok x) (by simp) ?_
    | refine CallK.fzE (toDeed_ok x) (by simp) ?_
  simp -implicitDefEqProofs
  first | refine ⟨by omega, by omega, ?_⟩ | refine ⟨by omega, ?_⟩ | skip
  first
    | refine CallQ.fzE (evText_s x) (by simp) ?_
    | refine CallK.fzE (evText_s x) (by simp) ?_
  simp -implicitDefEqProofs
  repeat refine ⟨by omega, ?_⟩
  refine hK _ ?_
  clear hK K
  refine SW.regionK fun K hK => ?_
  simp -implicitDefEqProofs
  first | refine ⟨by omega, by omega, ?_⟩ | refine ⟨by omega, ?_⟩ | skip
  first
    | refine CallQ.fzE (toDeed_ok x) (by simp) ?_
    | refine CallK.fzE (toDeed_ok x) (by simp) ?_
  simp -implicitDefEqProofs
  first | refine ⟨by omega, by omega, ?_⟩ | refine ⟨by omega, ?_⟩ | skip
  first
    | refine CallQ.fzE (evText_i x) (by simp) ?_
    | refine CallK.fzE (evText_i x) (by simp) ?_
  simp -implicitDefEqProofs
  repeat refine ⟨by omega, ?_⟩
  refine hK _ ?_
  clear hK K
  refine SW.seqK fun K1 hK1 => ?_
  refine SW.regionK fun K hK => ?_
  simp -implicitDefEqProofs
  repeat refine ⟨by omega, ?_⟩
  refine hK _ ?_
  clear hK K
  refine SW.cond _ rfl (by simp) ?_ ?_
  case' refine_2 =>
   intro hb1
   first
   | (exfalso; simp at hb1; done)
   | (exfalso; simp at hb1; omega)
   | (
    refine SW.skip ?_
    refine hK1 _ ?_
    refine SW.regionK fun K hK => ?_
    simp -implicitDefEqProofs
    repeat refine ⟨by omega, ?_⟩
    refine hK _ ?_
    clear hK K
    refine SW.ret ?_
    simp [Ex.then, Ex.inBlock])
  rotate_right
  case' _ =>
   intro hb1
   first
   | (exfalso; simp at hb1; done)
   | (exfalso; simp at hb1; omega)
   | (
    refine SW.regionK fun K hK => ?_
    simp -implicitDefEqProofs
    repeat refine ⟨by omega, ?_⟩
    refine hK _ ?_
    clear hK K
    refine SW.ret ?_
    simp [Ex.then, Ex.inBlock])
end HT
