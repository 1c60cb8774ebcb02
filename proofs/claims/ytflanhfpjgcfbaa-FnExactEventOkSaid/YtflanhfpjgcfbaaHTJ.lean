import Derived.Test.YtflanhfpjgcfbaaG10
import Derived.Test.YtflanhfpjgcfbaaG5
/-
  My own texts (road H): HTJ.
-/
set_option linter.unusedSimpArgs false
namespace HT
open Go Go.Proofs HK
theorem rdDeed : Reads Try.prog 54 Deed.cl (fun _ => True) :=
  (Reads.struct (l := [(3, 0), (3, 1), (3, 2), (3, 3)]) (tot := 4) (by kernel_rfl) (ReadsF.cons 1 (by kernel_rfl) rdInt (ReadsF.cons 1 (by kernel_rfl) rdInt (ReadsF.cons 1 (by kernel_rfl) rdInt (ReadsF.cons 1 (by kernel_rfl) rdInt ReadsF.nil))))).map
    (fun x => ⟨x.1, x.2.1, x.2.2.1, x.2.2.2.1⟩) (by intro _; rfl) (fun _ _ => trivial)
set_option maxHeartbeats 1000000 in
theorem law_eventOk (a : Prog) (x : Deed) (fa : a.fit) : Fn Try.prog 6 [.agg a.fr, .agg x.cl] (.bool true) := by
  refine Fn.intro Try.func6 (by decide) rfl (rs := [.tmp 4]) rfl Try.ntmps6 (by simp) ?_
  have q1 := szR_cases a.sz 1048576
  refine SW.regionK fun K hK => ?_
  simp -implicitDefEqProofs
  first | refine hK _ ?_ | refine ⟨by omega, hK _ ?_⟩ | refine ⟨by omega, by omega, hK _ ?_⟩
  clear hK K
  refine SW.regionK fun K hK => ?_
  simp -implicitDefEqProofs
  first | refine hK _ ?_ | refine ⟨by omega, hK _ ?_⟩ | refine ⟨by omega, by omega, hK _ ?_⟩
  clear hK K
  refine SW.regionK fun K hK => ?_
  simp -implicitDefEqProofs
  first | refine ⟨by omega, by omega, ?_⟩ | refine ⟨by omega, ?_⟩ | skip
  refine CallK.fzE (szProg_ok a 1048576 fa (by omega) (by omega)) (by simp) ?_
  simp -implicitDefEqProofs
  first | refine hK _ ?_ | refine ⟨by omega, hK _ ?_⟩ | refine ⟨by omega, by omega, hK _ ?_⟩
  clear hK K
  refine SW.seqK fun K1 hK1 => ?_
  refine SW.regionK fun K hK => ?_
  simp -implicitDefEqProofs
  first | refine hK _ ?_ | refine ⟨by omega, hK _ ?_⟩ | refine ⟨by omega, by omega, hK _ ?_⟩
  clear hK K
  refine SW.cond _ rfl (by simp) ?_ ?_
  case' refine_2 =>
   intro hb1
   first
   | (exfalso; simp at hb1; done)
   | (exfalso; simp at hb1; omega)
   | (
    have n1 : 0 ≤ szR a.sz 1048576 := by simp at hb1; omega
    have ha : a.ok := Prog.sz_ok (by omega)
    refine SW.skip ?_
    refine hK1 _ ?_
    refine SW.drawK mixed [.q [(0, false), (1, false), (2, false), (3, false), (4, false), (5, false)]] (by kernel_rfl) rfl fun K hK => ?_
    simp -implicitDefEqProofs
    first | refine ⟨by omega, by omega, ?_⟩ | refine ⟨by omega, ?_⟩ | skip
    first
      | refine CallQ.fzE (toProg_ok a ha) (by simp) ?_
      | refine CallK.fzE (toProg_ok a ha) (by simp) ?_
    simp -implicitDefEqProofs
    first | refine ⟨by omega, by omega, ?_⟩ | refine ⟨by omega, ?_⟩ | skip
    first
      | refine CallQ.fzE (toDeed_ok x) (by simp) ?_
      | refine CallK.fzE (toDeed_ok x) (by simp) ?_
    simp -implicitDefEqProofs
    first | refine ⟨by omega, by omega, ?_⟩ | refine ⟨by omega, ?_⟩ | skip
    first
      | refine CallQ.fzE (evOk_s a x ha) (by simp) ?_
      | refine CallK.fzE (evOk_s a x ha) (by simp) ?_
    simp -implicitDefEqProofs
    first | refine hK _ ?_ | refine ⟨by omega, hK _ ?_⟩ | refine ⟨by omega, by omega, hK _ ?_⟩
    clear hK K
    refine SW.regionK fun K hK => ?_
    simp -implicitDefEqProofs
    first | refine ⟨by omega, by omega, ?_⟩ | refine ⟨by omega, ?_⟩ | skip
    refine CallK.imE (toProg_ok a ha) (by simp) (Prog_oI a) ?_
    simp -implicitDefEqProofs
    first | refine hK _ ?_ | refine ⟨by omega, hK _ ?_⟩ | refine ⟨by omega, by omega, hK _ ?_⟩
    clear hK K
    refine SW.drawK mixed [.q [(0, false), (1, false), (2, false), (3, false), (4, false)]] (by kernel_rfl) rfl fun K hK => ?_
    simp -implicitDefEqProofs
    first | refine ⟨by omega, by omega, ?_⟩ | refine ⟨by omega, ?_⟩ | skip
    first
      | refine CallQ.fzE (toDeed_ok x) (by simp) ?_
      | refine CallK.fzE (toDeed_ok x) (by simp) ?_
    simp -implicitDefEqProofs
    first | refine ⟨by omega, by omega, ?_⟩ | refine ⟨by omega, ?_⟩ | skip
    first
      | refine CallQ.fzE (evOk_i a x ha) (by simp) ?_
      | refine CallK.fzE (evOk_i a x ha) (by simp) ?_
    simp -implicitDefEqProofs
    first | refine hK _ ?_ | refine ⟨by omega, hK _ ?_⟩ | refine ⟨by omega, by omega, hK _ ?_⟩
    clear hK K
    refine SW.seqK fun K2 hK2 => ?_
    refine SW.regionK fun K hK => ?_
    simp -implicitDefEqProofs
    first | refine hK _ ?_ | refine ⟨by omega, hK _ ?_⟩ | refine ⟨by omega, by omega, hK _ ?_⟩
    clear hK K
    refine SW.cond _ rfl (by simp) ?_ ?_
    case' refine_2 =>
     intro hb2
     first
     | (exfalso; simp at hb2; done)
     | (exfalso; simp at hb2; omega)
     | (
      refine SW.skip ?_
      refine hK2 _ ?_
      refine SW.seqK fun K3 hK3 => ?_
      refine SW.drawK mixed [.q [(0, false), (1, false), (2, false), (3, false), (4, false)]] (by kernel_rfl) rfl fun K hK => ?_
      simp -implicitDefEqProofs
      first | refine ⟨by omega, by omega, ?_⟩ | refine ⟨by omega, ?_⟩ | skip
      first
        | refine CallQ.fzE (toProg_ok a ha) (by simp) ?_
        | refine CallK.fzE (toProg_ok a ha) (by simp) ?_
      simp -implicitDefEqProofs
      first | refine ⟨by omega, by omega, ?_⟩ | refine ⟨by omega, ?_⟩ | skip
      refine CallQ.fzE (eqProg_ok a ha) (by simp) ?_
      simp -implicitDefEqProofs
      first | refine hK _ ?_ | refine ⟨by omega, hK _ ?_⟩ | refine ⟨by omega, by omega, hK _ ?_⟩
      clear hK K
      refine SW.cond _ rfl (by simp) ?_ ?_
      case' refine_2 =>
       intro hb3
       first
       | (exfalso; simp at hb3; done)
       | (exfalso; simp at hb3; omega)
       | (
        refine SW.skip ?_
        refine hK3 _ ?_
        refine SW.regionK fun K hK => ?_
        simp -implicitDefEqProofs
        first | refine hK _ ?_ | refine ⟨by omega, hK _ ?_⟩ | refine ⟨by omega, by omega, hK _ ?_⟩
        clear hK K
        refine SW.ret ?_
        simp [Ex.then, Ex.inBlock])
      rotate_right
      case' _ =>
       intro hb3
       first
       | (exfalso; simp at hb3; done)
       | (exfalso; simp at hb3; omega)
       | (
        refine SW.regionK fun K hK => ?_
        simp -implicitDefEqProofs
        first | refine hK _ ?_ | refine ⟨by omega, hK _ ?_⟩ | refine ⟨by omega, by omega, hK _ ?_⟩
        clear hK K
        refine SW.ret ?_
        simp [Ex.then, Ex.inBlock]))
    rotate_right
    case' _ =>
     intro hb2
     first
     | (exfalso; simp at hb2; done)
     | (exfalso; simp at hb2; omega)
     | (
      refine SW.regionK fun K hK => ?_
      simp -implicitDefEqProofs
      first | refine hK _ ?_ | refine ⟨by omega, hK _ ?_⟩ | refine ⟨by omega, by omega, hK _ ?_⟩
      clear hK K
      refine SW.ret ?_
      simp [Ex.then, Ex.inBlock]))
  rotate_right
  case' _ =>
   intro hb1
   first
   | (exfalso; simp at hb1; done)
   | (exfalso; simp at hb1; omega)
   | (
    refine SW.regionK fun K hK => ?_
    simp -implicitDefEqProofs
    first | refine hK _ ?_ | refine ⟨by omega, hK _ ?_⟩ | refine ⟨by omega, by omega, hK _ ?_⟩
    clear hK K
    refine SW.ret ?_
    simp [Ex.then, Ex.inBlock])
end HT
