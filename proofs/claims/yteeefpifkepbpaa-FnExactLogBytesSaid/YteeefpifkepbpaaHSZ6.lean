import Derived.Test.YteeefpifkepbpaaHSZ5
import Derived.Test.YteeefpifkepbpaaHSC
/-
  My own texts (road H): HSZ6.
-/
set_option linter.unusedSimpArgs false
set_option linter.unusedVariables false
namespace HS
open Go Go.Proofs HK
theorem logB_len {p : Int} {l : List Deed} (h : logOk p l = true) : (logB p l).length ≤ 4015 * 752 := by
  simp only [logOk, fitL, Bool.and_eq_true, decide_eq_true_eq] at h; have h2 := strm_len (i := 0) (chs_ok h.1 h.2.1 (rndL l))
  have hr : rndL l ≤ 751 := by unfold rndL; omega
  unfold logB; simp at h2; omega
set_option maxHeartbeats 1000000 in
theorem logZ_s (p : Int) (l : List Deed) (hok : logOk p l = true) : Fn Try.prog 49 [LogC p l] (.int .i64 ((logB p l).length : Nat)) := by
  refine Fn.intro Try.func49 (by decide) rfl (rs := [.tmp 2]) rfl Try.ntmps49 (by simp) ?_; have hL := logB_len hok
  refine SW.rg fun K hK => ?_; simp -implicitDefEqProofs; repeat refine ⟨by omega, ?_⟩
  refine hK _ ?_; clear hK K; refine SW.rg fun K hK => ?_; simp -implicitDefEqProofs; iterate 2 (try refine ⟨by omega, ?_⟩)
  first
    | refine CallQ.fzE (logB_s p l hok) (by simp) ?_
    | refine CallK.fzE (logB_s p l hok) (by simp) ?_
  simp -implicitDefEqProofs; repeat refine ⟨by omega, ?_⟩
  refine hK _ ?_; clear hK K; refine SW.rg fun K hK => ?_; simp -implicitDefEqProofs; repeat refine ⟨by omega, ?_⟩
  refine hK _ ?_; clear hK K; refine SW.ret ?_; simp [Ex.then, Ex.ib]
  all_goals first
    | done
    | (simp; done)
    | fail
set_option maxHeartbeats 1000000 in
theorem logZ_sn (p : Int) (l : List Deed) (hl : l.length ≤ 1048576) (hok : logOk p l = false) : Fn Try.prog 49 [LogC p l] (.int .i64 0) := by
  refine Fn.intro Try.func49 (by decide) rfl (rs := [.tmp 2]) rfl Try.ntmps49 (by simp) ?_; refine SW.rg fun K hK => ?_; simp -implicitDefEqProofs; repeat refine ⟨by omega, ?_⟩
  refine hK _ ?_; clear hK K; refine SW.rg fun K hK => ?_; simp -implicitDefEqProofs; iterate 2 (try refine ⟨by omega, ?_⟩)
  first
    | refine CallQ.fzE (logB_sn p l hl hok) (by simp) ?_
    | refine CallK.fzE (logB_sn p l hl hok) (by simp) ?_
  simp -implicitDefEqProofs; repeat refine ⟨by omega, ?_⟩
  refine hK _ ?_; clear hK K; refine SW.rg fun K hK => ?_; simp -implicitDefEqProofs; repeat refine ⟨by omega, ?_⟩
  refine hK _ ?_; clear hK K; refine SW.ret ?_; simp [Ex.then, Ex.ib]
  all_goals first
    | done
    | (simp; done)
    | fail
set_option maxHeartbeats 1000000 in
theorem logZ_i (p : Int) (l : List Deed) (hok : logOk p l = true) : Fn Try.prog 50 [LogC p l] (.int .i64 ((logB p l).length : Nat)) := by
  refine Fn.intro Try.func50 (by decide) rfl (rs := [.tmp 2]) rfl Try.ntmps50 (by simp) ?_; have hL := logB_len hok
  refine SW.rg fun K hK => ?_; simp -implicitDefEqProofs; repeat refine ⟨by omega, ?_⟩
  refine hK _ ?_; clear hK K; refine SW.rg fun K hK => ?_; simp -implicitDefEqProofs; iterate 2 (try refine ⟨by omega, ?_⟩)
  first
    | refine CallQ.fzE (logB_i p l hok) (by simp) ?_
    | refine CallK.fzE (logB_i p l hok) (by simp) ?_
  simp -implicitDefEqProofs; repeat refine ⟨by omega, ?_⟩
  refine hK _ ?_; clear hK K; refine SW.rg fun K hK => ?_; simp -implicitDefEqProofs; repeat refine ⟨by omega, ?_⟩
  refine hK _ ?_; clear hK K; refine SW.ret ?_; simp [Ex.then, Ex.ib]
  all_goals first
    | done
    | (simp; done)
    | fail
set_option maxHeartbeats 1000000 in
theorem logZ_in (p : Int) (l : List Deed) (hl : l.length ≤ 1048576) (hok : logOk p l = false) : Fn Try.prog 50 [LogC p l] (.int .i64 0) := by
  refine Fn.intro Try.func50 (by decide) rfl (rs := [.tmp 2]) rfl Try.ntmps50 (by simp) ?_; refine SW.rg fun K hK => ?_; simp -implicitDefEqProofs; repeat refine ⟨by omega, ?_⟩
  refine hK _ ?_; clear hK K; refine SW.rg fun K hK => ?_; simp -implicitDefEqProofs; iterate 2 (try refine ⟨by omega, ?_⟩)
  first
    | refine CallQ.fzE (logB_in p l hl hok) (by simp) ?_
    | refine CallK.fzE (logB_in p l hl hok) (by simp) ?_
  simp -implicitDefEqProofs; repeat refine ⟨by omega, ?_⟩
  refine hK _ ?_; clear hK K; refine SW.rg fun K hK => ?_; simp -implicitDefEqProofs; repeat refine ⟨by omega, ?_⟩
  refine hK _ ?_; clear hK K; refine SW.ret ?_; simp [Ex.then, Ex.ib]
  all_goals first
    | done
    | (simp; done)
    | fail
set_option maxHeartbeats 1000000 in
theorem law_logSize_y (p : Int) (l : List Deed) (hm : l.length ≤ maxLen) (hok : logOk p l = true) : Fn Try.prog 11 [LogC p l] (.bool true) := by
  refine Fn.intro Try.func11 (by decide) rfl (rs := [.tmp 2]) rfl Try.ntmps11 (by simp) ?_; refine SW.rg fun K hK => ?_; simp -implicitDefEqProofs; repeat refine ⟨by omega, ?_⟩
  refine hK _ ?_; clear hK K; refine SW.rg fun K hK => ?_; simp -implicitDefEqProofs; repeat refine ⟨by omega, ?_⟩
  refine hK _ ?_; clear hK K; refine SW.rg fun K hK => ?_; simp -implicitDefEqProofs; iterate 2 (try refine ⟨by omega, ?_⟩)
  refine CallK.fz (sz_log _ _ _) ?_; simp -implicitDefEqProofs; repeat refine ⟨by omega, ?_⟩
  refine hK _ ?_; clear hK K; refine SW.seqK fun K1 hK1 => ?_; refine SW.rg fun K hK => ?_; simp -implicitDefEqProofs; repeat refine ⟨by omega, ?_⟩
  refine hK _ ?_; clear hK K; refine SW.cond _ rfl (by simp) ?_ ?_
  case' refine_2 =>
   intro hb1; simp at hb1; have hm2 : l.length ≤ 2 ^ 63 - 1 := hm
   have hl : l.length ≤ 1048576 := by rw [wrapI _ (by omega) (by omega)] at hb1; split at hb1 <;> omega
   first
   | (exfalso; simp at hb1; done)
   | (exfalso; simp at hb1; omega)
   | (
    refine SW.skip ?_; refine hK1 _ ?_; refine SW.rg fun K hK => ?_; simp -implicitDefEqProofs; iterate 2 (try refine ⟨by omega, ?_⟩)
    refine CallK.fzE (toLog_ok p l hl) (by simp) ?_; simp -implicitDefEqProofs; iterate 2 (try refine ⟨by omega, ?_⟩)
    first
      | refine CallQ.fzE (logZ_s p l hok) (by simp) ?_
      | refine CallK.fzE (logZ_s p l hok) (by simp) ?_
    simp -implicitDefEqProofs; repeat refine ⟨by omega, ?_⟩
    refine hK _ ?_; clear hK K; refine SW.rg fun K hK => ?_; simp -implicitDefEqProofs; iterate 2 (try refine ⟨by omega, ?_⟩)
    refine CallK.imE (toLog_ok p l hl) (by simp) (LogC_okI p l) ?_; simp -implicitDefEqProofs; repeat refine ⟨by omega, ?_⟩
    refine hK _ ?_; clear hK K; refine SW.rg fun K hK => ?_; simp -implicitDefEqProofs; iterate 2 (try refine ⟨by omega, ?_⟩)
    first
      | refine CallQ.fzE (logZ_i p l hok) (by simp) ?_
      | refine CallK.fzE (logZ_i p l hok) (by simp) ?_
    simp -implicitDefEqProofs; repeat refine ⟨by omega, ?_⟩
    refine hK _ ?_; clear hK K; refine SW.seqK fun K2 hK2 => ?_; refine SW.rg fun K hK => ?_; simp -implicitDefEqProofs; repeat refine ⟨by omega, ?_⟩
    refine hK _ ?_; clear hK K; refine SW.cond _ rfl (by simp) ?_ ?_
    case' refine_2 =>
     intro hb2
     first
     | (exfalso; simp at hb2; done)
     | (exfalso; simp at hb2; omega)
     | (
      refine SW.skip ?_; refine hK2 _ ?_; refine SW.seqK fun K3 hK3 => ?_; refine SW.drawK mixed [.q [(0, false), (1, false), (2, false), (3, false), (4, false)]] (by kernel_rfl) rfl fun K hK => ?_; simp -implicitDefEqProofs
      iterate 2 (try refine ⟨by omega, ?_⟩)
      first
        | refine CallQ.fzE (toLog_ok p l hl) (by simp) ?_
        | refine CallK.fzE (toLog_ok p l hl) (by simp) ?_
      simp -implicitDefEqProofs; iterate 2 (try refine ⟨by omega, ?_⟩)
      refine CallQ.fzE (eqLog_ok p l (by omega)) (by simp) ?_; simp -implicitDefEqProofs; repeat refine ⟨by omega, ?_⟩
      refine hK _ ?_; clear hK K; refine SW.cond _ rfl (by simp) ?_ ?_
      case' refine_2 =>
       intro hb3
       first
       | (exfalso; simp at hb3; done)
       | (exfalso; simp at hb3; omega)
       | (
        refine SW.skip ?_; refine hK3 _ ?_; refine SW.rg fun K hK => ?_; simp -implicitDefEqProofs; repeat refine ⟨by omega, ?_⟩
        refine hK _ ?_; clear hK K; refine SW.ret ?_
        simp [Ex.then, Ex.ib])
      rotate_right
      case' _ =>
       intro hb3
       first
       | (exfalso; simp at hb3; done)
       | (exfalso; simp at hb3; omega)
       | (
        refine SW.rg fun K hK => ?_; simp -implicitDefEqProofs; repeat refine ⟨by omega, ?_⟩
        refine hK _ ?_; clear hK K; refine SW.ret ?_
        simp [Ex.then, Ex.ib]))
    rotate_right
    case' _ =>
     intro hb2
     first
     | (exfalso; simp at hb2; done)
     | (exfalso; simp at hb2; omega)
     | (
      refine SW.rg fun K hK => ?_; simp -implicitDefEqProofs; repeat refine ⟨by omega, ?_⟩
      refine hK _ ?_; clear hK K; refine SW.ret ?_
      simp [Ex.then, Ex.ib]))
  rotate_right
  case' _ =>
   intro hb1
   first
   | (exfalso; simp at hb1; done)
   | (exfalso; simp at hb1; omega)
   | (
    refine SW.rg fun K hK => ?_; simp -implicitDefEqProofs; repeat refine ⟨by omega, ?_⟩
    refine hK _ ?_; clear hK K; refine SW.ret ?_
    simp [Ex.then, Ex.ib])
set_option maxHeartbeats 1000000 in
theorem law_logSize_n (p : Int) (l : List Deed) (hm : l.length ≤ maxLen) (hok : logOk p l = false) : Fn Try.prog 11 [LogC p l] (.bool true) := by
  refine Fn.intro Try.func11 (by decide) rfl (rs := [.tmp 2]) rfl Try.ntmps11 (by simp) ?_; refine SW.rg fun K hK => ?_; simp -implicitDefEqProofs; repeat refine ⟨by omega, ?_⟩
  refine hK _ ?_; clear hK K; refine SW.rg fun K hK => ?_; simp -implicitDefEqProofs; repeat refine ⟨by omega, ?_⟩
  refine hK _ ?_; clear hK K; refine SW.rg fun K hK => ?_; simp -implicitDefEqProofs; iterate 2 (try refine ⟨by omega, ?_⟩)
  refine CallK.fz (sz_log _ _ _) ?_; simp -implicitDefEqProofs; repeat refine ⟨by omega, ?_⟩
  refine hK _ ?_; clear hK K; refine SW.seqK fun K1 hK1 => ?_; refine SW.rg fun K hK => ?_; simp -implicitDefEqProofs; repeat refine ⟨by omega, ?_⟩
  refine hK _ ?_; clear hK K; refine SW.cond _ rfl (by simp) ?_ ?_
  case' refine_2 =>
   intro hb1; simp at hb1; have hm2 : l.length ≤ 2 ^ 63 - 1 := hm
   have hl : l.length ≤ 1048576 := by rw [wrapI _ (by omega) (by omega)] at hb1; split at hb1 <;> omega
   first
   | (exfalso; simp at hb1; done)
   | (exfalso; simp at hb1; omega)
   | (
    refine SW.skip ?_; refine hK1 _ ?_; refine SW.rg fun K hK => ?_; simp -implicitDefEqProofs; iterate 2 (try refine ⟨by omega, ?_⟩)
    refine CallK.fzE (toLog_ok p l hl) (by simp) ?_; simp -implicitDefEqProofs; iterate 2 (try refine ⟨by omega, ?_⟩)
    first
      | refine CallQ.fzE (logZ_sn p l hl hok) (by simp) ?_
      | refine CallK.fzE (logZ_sn p l hl hok) (by simp) ?_
    simp -implicitDefEqProofs; repeat refine ⟨by omega, ?_⟩
    refine hK _ ?_; clear hK K; refine SW.rg fun K hK => ?_; simp -implicitDefEqProofs; iterate 2 (try refine ⟨by omega, ?_⟩)
    refine CallK.imE (toLog_ok p l hl) (by simp) (LogC_okI p l) ?_; simp -implicitDefEqProofs; repeat refine ⟨by omega, ?_⟩
    refine hK _ ?_; clear hK K; refine SW.rg fun K hK => ?_; simp -implicitDefEqProofs; iterate 2 (try refine ⟨by omega, ?_⟩)
    first
      | refine CallQ.fzE (logZ_in p l hl hok) (by simp) ?_
      | refine CallK.fzE (logZ_in p l hl hok) (by simp) ?_
    simp -implicitDefEqProofs; repeat refine ⟨by omega, ?_⟩
    refine hK _ ?_; clear hK K; refine SW.seqK fun K2 hK2 => ?_; refine SW.rg fun K hK => ?_; simp -implicitDefEqProofs; repeat refine ⟨by omega, ?_⟩
    refine hK _ ?_; clear hK K; refine SW.cond _ rfl (by simp) ?_ ?_
    case' refine_2 =>
     intro hb2
     first
     | (exfalso; simp at hb2; done)
     | (exfalso; simp at hb2; omega)
     | (
      refine SW.skip ?_; refine hK2 _ ?_; refine SW.seqK fun K3 hK3 => ?_; refine SW.drawK mixed [.q [(0, false), (1, false), (2, false), (3, false), (4, false)]] (by kernel_rfl) rfl fun K hK => ?_; simp -implicitDefEqProofs
      iterate 2 (try refine ⟨by omega, ?_⟩)
      first
        | refine CallQ.fzE (toLog_ok p l hl) (by simp) ?_
        | refine CallK.fzE (toLog_ok p l hl) (by simp) ?_
      simp -implicitDefEqProofs; iterate 2 (try refine ⟨by omega, ?_⟩)
      refine CallQ.fzE (eqLog_ok p l (by omega)) (by simp) ?_; simp -implicitDefEqProofs; repeat refine ⟨by omega, ?_⟩
      refine hK _ ?_; clear hK K; refine SW.cond _ rfl (by simp) ?_ ?_
      case' refine_2 =>
       intro hb3
       first
       | (exfalso; simp at hb3; done)
       | (exfalso; simp at hb3; omega)
       | (
        refine SW.skip ?_; refine hK3 _ ?_; refine SW.rg fun K hK => ?_; simp -implicitDefEqProofs; repeat refine ⟨by omega, ?_⟩
        refine hK _ ?_; clear hK K; refine SW.ret ?_
        simp [Ex.then, Ex.ib])
      rotate_right
      case' _ =>
       intro hb3
       first
       | (exfalso; simp at hb3; done)
       | (exfalso; simp at hb3; omega)
       | (
        refine SW.rg fun K hK => ?_; simp -implicitDefEqProofs; repeat refine ⟨by omega, ?_⟩
        refine hK _ ?_; clear hK K; refine SW.ret ?_
        simp [Ex.then, Ex.ib]))
    rotate_right
    case' _ =>
     intro hb2
     first
     | (exfalso; simp at hb2; done)
     | (exfalso; simp at hb2; omega)
     | (
      refine SW.rg fun K hK => ?_; simp -implicitDefEqProofs; repeat refine ⟨by omega, ?_⟩
      refine hK _ ?_; clear hK K; refine SW.ret ?_
      simp [Ex.then, Ex.ib]))
  rotate_right
  case' _ =>
   intro hb1
   first
   | (exfalso; simp at hb1; done)
   | (exfalso; simp at hb1; omega)
   | (
    refine SW.rg fun K hK => ?_; simp -implicitDefEqProofs; repeat refine ⟨by omega, ?_⟩
    refine hK _ ?_; clear hK K; refine SW.ret ?_
    simp [Ex.then, Ex.ib])
theorem law_logSize (p : Int) (l : List Deed) (hm : l.length ≤ maxLen) : Fn Try.prog 11 [LogC p l] (.bool true) := by
  cases hok : logOk p l with
  | true => exact law_logSize_y p l hm hok
  | false => exact law_logSize_n p l hm hok
end HS
