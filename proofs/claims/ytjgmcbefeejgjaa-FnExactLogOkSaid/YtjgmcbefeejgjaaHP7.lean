/-
  My own text (road H): HP7.
-/
import Derived.Test.YtjgmcbefeejgjaaHP1
set_option linter.unusedSimpArgs false
namespace HO
open Go Go.Proofs HK
abbrev LogC (p : Int) (l : List Deed) : AV := .agg [.int .i64 p, .fz (DS l)]
theorem DS_okI (l : List Deed) : okI (.own 4 (DS l)) = true := by
  simp
def numOk (n : Int) : Bool := decide (0 ≤ n) && decide (n ≤ 4294967295)
def logOk (p : Int) (l : List Deed) : Bool := numOk p && fits l
set_option maxHeartbeats 1000000 in
theorem sz_log (p : Int) (l : List Deed) (m : Int) : Fn Try.prog 29 [LogC p l, .int .i64 m] (.int .i64 (if IntKind.wrap .i64 (m - l.length) < 0 then -1 else IntKind.wrap .i64 (m - l.length))) := by
  refine Fn.intro Try.func29 (by decide) rfl (rs := [.tmp 4]) rfl Try.ntmps29 (by simp) ?_
  refine SW.regionK fun K hK => ?_
  simp
  first | refine hK _ ?_ | refine ⟨by omega, hK _ ?_⟩ | refine ⟨by omega, by omega, hK _ ?_⟩
  clear hK K
  refine SW.regionK fun K hK => ?_
  simp
  first | refine ⟨by omega, by omega, ?_⟩ | refine ⟨by omega, ?_⟩ | skip
  refine CallK.fz (sz_deedS _ _) ?_
  simp
  first | refine hK _ ?_ | refine ⟨by omega, hK _ ?_⟩ | refine ⟨by omega, by omega, hK _ ?_⟩
  clear hK K
  refine SW.seqK fun K1 hK1 => ?_
  refine SW.regionK fun K hK => ?_
  simp
  first | refine hK _ ?_ | refine ⟨by omega, hK _ ?_⟩ | refine ⟨by omega, by omega, hK _ ?_⟩
  clear hK K
  refine SW.cond _ rfl (by simp) ?_ ?_
  case' refine_2 =>
    intro hb1
    refine SW.skip ?_
    refine hK1 _ ?_
    refine SW.regionK fun K hK => ?_
    simp
    first | refine hK _ ?_ | refine ⟨by omega, hK _ ?_⟩ | refine ⟨by omega, by omega, hK _ ?_⟩
    clear hK K
    refine SW.ret ?_
    simp [Ex.then, Ex.inBlock]
    all_goals simp at *
    all_goals (split at hb1 <;> simp_all <;> omega)
  rotate_right
  case' _ =>
    intro hb1
    refine SW.regionK fun K hK => ?_
    simp
    first | refine hK _ ?_ | refine ⟨by omega, hK _ ?_⟩ | refine ⟨by omega, by omega, hK _ ?_⟩
    clear hK K
    refine SW.ret ?_
    simp [Ex.then, Ex.inBlock]
    all_goals simp at *
    all_goals (split at hb1 <;> simp_all <;> omega)
set_option maxHeartbeats 1000000 in
theorem toLog_ok (p : Int) (l : List Deed) (hl : l.length ≤ 1048576) : Fn Try.prog 31 [LogC p l] (.agg [.int .i64 p, .own 4 (DS l)]) := by
  refine Fn.intro Try.func31 (by decide) rfl (rs := [.cell 2 52]) rfl Try.ntmps31 (by simp) ?_
  refine SW.regionK fun K hK => ?_
  simp
  first | refine hK _ ?_ | refine ⟨by omega, hK _ ?_⟩ | refine ⟨by omega, by omega, hK _ ?_⟩
  clear hK K
  refine SW.regionK fun K hK => ?_
  simp
  first | refine hK _ ?_ | refine ⟨by omega, hK _ ?_⟩ | refine ⟨by omega, by omega, hK _ ?_⟩
  clear hK K
  refine SW.regionK fun K hK => ?_
  simp
  first | refine hK _ ?_ | refine ⟨by omega, hK _ ?_⟩ | refine ⟨by omega, by omega, hK _ ?_⟩
  clear hK K
  refine SW.regionK fun K hK => ?_
  simp
  first | refine ⟨by omega, by omega, ?_⟩ | refine ⟨by omega, ?_⟩ | skip
  refine CallK.im (toDeedS_ok _ hl) (DS_okI l) ?_
  simp
  first | refine hK _ ?_ | refine ⟨by omega, hK _ ?_⟩ | refine ⟨by omega, by omega, hK _ ?_⟩
  clear hK K
  refine SW.regionK fun K hK => ?_
  simp
  first | refine hK _ ?_ | refine ⟨by omega, hK _ ?_⟩ | refine ⟨by omega, by omega, hK _ ?_⟩
  clear hK K
  refine SW.ret ?_
  simp [Ex.then, Ex.inBlock]
  intro x hx y hy
  obtain ⟨n, rfl⟩ := DS_int hx hy
  rfl
set_option maxHeartbeats 1000000 in
theorem num_s (a : Int) : Fn Try.prog 46 [.int .i64 a] (.bool (numOk a)) := by
  refine Fn.intro Try.func46 (by decide) rfl (rs := [.tmp 2]) rfl Try.ntmps46 (by simp) ?_
  refine SW.regionK fun K hK => ?_
  simp
  first | refine hK _ ?_ | refine ⟨by omega, hK _ ?_⟩ | refine ⟨by omega, by omega, hK _ ?_⟩
  clear hK K
  refine SW.regionK fun K hK => ?_
  simp
  first | refine hK _ ?_ | refine ⟨by omega, hK _ ?_⟩ | refine ⟨by omega, by omega, hK _ ?_⟩
  clear hK K
  refine SW.ret ?_
  simp [Ex.then, Ex.inBlock]
  all_goals simp [numOk]
set_option maxHeartbeats 1000000 in
theorem num_i (a : Int) : Fn Try.prog 47 [.int .i64 a] (.bool (numOk a)) := by
  refine Fn.intro Try.func47 (by decide) rfl (rs := [.tmp 2]) rfl Try.ntmps47 (by simp) ?_
  refine SW.regionK fun K hK => ?_
  simp
  first | refine hK _ ?_ | refine ⟨by omega, hK _ ?_⟩ | refine ⟨by omega, by omega, hK _ ?_⟩
  clear hK K
  refine SW.regionK fun K hK => ?_
  simp
  first | refine hK _ ?_ | refine ⟨by omega, hK _ ?_⟩ | refine ⟨by omega, by omega, hK _ ?_⟩
  clear hK K
  refine SW.ret ?_
  simp [Ex.then, Ex.inBlock]
  all_goals simp [numOk]
set_option maxHeartbeats 1000000 in
theorem logOk_spec (p : Int) (l : List Deed) (hl : l.length ≤ 1048576) : Fn Try.prog 30 [LogC p l] (.bool (logOk p l)) := by
  refine Fn.intro Try.func30 (by decide) rfl (rs := [.tmp 2]) rfl Try.ntmps30 (by simp) ?_
  refine SW.regionK fun K hK => ?_
  simp
  first | refine hK _ ?_ | refine ⟨by omega, hK _ ?_⟩ | refine ⟨by omega, by omega, hK _ ?_⟩
  clear hK K
  refine SW.regionK fun K hK => ?_
  simp
  first | refine ⟨by omega, by omega, ?_⟩ | refine ⟨by omega, ?_⟩ | skip
  refine CallK.fz (num_s _) ?_
  simp
  first | refine ⟨by omega, by omega, ?_⟩ | refine ⟨by omega, ?_⟩ | skip
  refine CallG.fz (by simp) (fun _ => fits_spec _ hl) ?_
  simp
  first | refine hK _ ?_ | refine ⟨by omega, hK _ ?_⟩ | refine ⟨by omega, by omega, hK _ ?_⟩
  clear hK K
  refine SW.ret ?_
  simp [Ex.then, Ex.inBlock]
  all_goals simp [logOk]
set_option maxHeartbeats 1000000 in
theorem logOk_impl (p : Int) (l : List Deed) (hl : l.length ≤ 1048576) : Fn Try.prog 32 [LogC p l] (.bool (logOk p l)) := by
  refine Fn.intro Try.func32 (by decide) rfl (rs := [.tmp 2]) rfl Try.ntmps32 (by simp) ?_
  refine SW.regionK fun K hK => ?_
  simp
  first | refine hK _ ?_ | refine ⟨by omega, hK _ ?_⟩ | refine ⟨by omega, by omega, hK _ ?_⟩
  clear hK K
  refine SW.regionK fun K hK => ?_
  simp
  first | refine ⟨by omega, by omega, ?_⟩ | refine ⟨by omega, ?_⟩ | skip
  refine CallK.fz (num_i _) ?_
  simp
  first | refine ⟨by omega, by omega, ?_⟩ | refine ⟨by omega, ?_⟩ | skip
  refine CallG.fz (by simp) (fun _ => fits_impl _ hl) ?_
  simp
  first | refine hK _ ?_ | refine ⟨by omega, hK _ ?_⟩ | refine ⟨by omega, by omega, hK _ ?_⟩
  clear hK K
  refine SW.ret ?_
  simp [Ex.then, Ex.inBlock]
  all_goals simp [logOk]
set_option maxHeartbeats 1000000 in
theorem eqLog_ok (p : Int) (l : List Deed) (hl : l.length ≤ 1048576) : Fn Try.prog 33 [LogC p l, LogC p l] (.bool true) := by
  refine Fn.intro Try.func33 (by decide) rfl (rs := [.tmp 4]) rfl Try.ntmps33 (by simp) ?_
  refine SW.regionK fun K hK => ?_
  simp
  first | refine hK _ ?_ | refine ⟨by omega, hK _ ?_⟩ | refine ⟨by omega, by omega, hK _ ?_⟩
  clear hK K
  refine SW.seqK fun K1 hK1 => ?_
  refine SW.regionK fun K hK => ?_
  simp
  first | refine hK _ ?_ | refine ⟨by omega, hK _ ?_⟩ | refine ⟨by omega, by omega, hK _ ?_⟩
  clear hK K
  refine SW.cond _ rfl (by simp) ?_ ?_
  case' refine_2 =>
    intro hb1
    first
    | (exfalso; simp at hb1; done)
    | (
      refine SW.skip ?_
      refine hK1 _ ?_
      refine SW.seqK fun K2 hK2 => ?_
      refine SW.regionK fun K hK => ?_
      simp
      first | refine ⟨by omega, by omega, ?_⟩ | refine ⟨by omega, ?_⟩ | skip
      refine CallK.fz (eqDeedS_ok _ hl) ?_
      simp
      first | refine hK _ ?_ | refine ⟨by omega, hK _ ?_⟩ | refine ⟨by omega, by omega, hK _ ?_⟩
      clear hK K
      refine SW.cond _ rfl (by simp) ?_ ?_
      case' refine_2 =>
        intro hb2
        first
        | (exfalso; simp at hb2; done)
        | (
          refine SW.skip ?_
          refine hK2 _ ?_
          refine SW.regionK fun K hK => ?_
          simp
          first | refine hK _ ?_ | refine ⟨by omega, hK _ ?_⟩ | refine ⟨by omega, by omega, hK _ ?_⟩
          clear hK K
          refine SW.ret ?_
          simp [Ex.then, Ex.inBlock])
      rotate_right
      case' _ =>
        intro hb2
        first
        | (exfalso; simp at hb2; done)
        | (
          refine SW.regionK fun K hK => ?_
          simp
          first | refine hK _ ?_ | refine ⟨by omega, hK _ ?_⟩ | refine ⟨by omega, by omega, hK _ ?_⟩
          clear hK K
          refine SW.ret ?_
          simp [Ex.then, Ex.inBlock]))
  rotate_right
  case' _ =>
    intro hb1
    first
    | (exfalso; simp at hb1; done)
    | (
      refine SW.regionK fun K hK => ?_
      simp
      first | refine hK _ ?_ | refine ⟨by omega, hK _ ?_⟩ | refine ⟨by omega, by omega, hK _ ?_⟩
      clear hK K
      refine SW.ret ?_
      simp [Ex.then, Ex.inBlock])
set_option maxHeartbeats 1000000 in
theorem law_logOk (p : Int) (l : List Deed) (hm : l.length ≤ maxLen) : Fn Try.prog 8 [LogC p l] (.bool true) := by
  refine Fn.intro Try.func8 (by decide) rfl (rs := [.tmp 2]) rfl Try.ntmps8 (by simp) ?_
  refine SW.regionK fun K hK => ?_
  simp
  first | refine hK _ ?_ | refine ⟨by omega, hK _ ?_⟩ | refine ⟨by omega, by omega, hK _ ?_⟩
  clear hK K
  refine SW.regionK fun K hK => ?_
  simp
  first | refine hK _ ?_ | refine ⟨by omega, hK _ ?_⟩ | refine ⟨by omega, by omega, hK _ ?_⟩
  clear hK K
  refine SW.regionK fun K hK => ?_
  simp
  first | refine ⟨by omega, by omega, ?_⟩ | refine ⟨by omega, ?_⟩ | skip
  refine CallK.fz (sz_log _ _ _) ?_
  simp
  first | refine hK _ ?_ | refine ⟨by omega, hK _ ?_⟩ | refine ⟨by omega, by omega, hK _ ?_⟩
  clear hK K
  refine SW.seqK fun K1 hK1 => ?_
  refine SW.regionK fun K hK => ?_
  simp
  first | refine hK _ ?_ | refine ⟨by omega, hK _ ?_⟩ | refine ⟨by omega, by omega, hK _ ?_⟩
  clear hK K
  refine SW.cond _ rfl (by simp) ?_ ?_
  case' refine_2 =>
    intro hb1
    simp at hb1
    have hm2 : l.length ≤ 2 ^ 63 - 1 := hm
    have hl : l.length ≤ 1048576 := by rw [wrapI _ (by omega) (by omega)] at hb1; split at hb1 <;> omega
    first
    | (exfalso; simp at hb1; done)
    | (
      refine SW.skip ?_
      refine hK1 _ ?_
      refine SW.regionK fun K hK => ?_
      simp
      first | refine ⟨by omega, by omega, ?_⟩ | refine ⟨by omega, ?_⟩ | skip
      refine CallK.fz (toLog_ok _ _ hl) ?_
      simp
      first | refine ⟨by omega, by omega, ?_⟩ | refine ⟨by omega, ?_⟩ | skip
      refine CallK.fz (logOk_spec _ _ hl) ?_
      simp
      first | refine hK _ ?_ | refine ⟨by omega, hK _ ?_⟩ | refine ⟨by omega, by omega, hK _ ?_⟩
      clear hK K
      refine SW.regionK fun K hK => ?_
      simp
      first | refine ⟨by omega, by omega, ?_⟩ | refine ⟨by omega, ?_⟩ | skip
      refine CallK.fz (toLog_ok _ _ hl) ?_
      simp
      first | refine hK _ ?_ | refine ⟨by omega, hK _ ?_⟩ | refine ⟨by omega, by omega, hK _ ?_⟩
      clear hK K
      refine SW.regionK fun K hK => ?_
      simp
      first | refine ⟨by omega, by omega, ?_⟩ | refine ⟨by omega, ?_⟩ | skip
      refine CallK.fz (logOk_impl _ _ hl) ?_
      simp
      first | refine hK _ ?_ | refine ⟨by omega, hK _ ?_⟩ | refine ⟨by omega, by omega, hK _ ?_⟩
      clear hK K
      refine SW.seqK fun K2 hK2 => ?_
      refine SW.regionK fun K hK => ?_
      simp
      first | refine hK _ ?_ | refine ⟨by omega, hK _ ?_⟩ | refine ⟨by omega, by omega, hK _ ?_⟩
      clear hK K
      refine SW.cond _ rfl (by simp) ?_ ?_
      case' refine_2 =>
        intro hb2
        first
        | (exfalso; simp at hb2; done)
        | (
          refine SW.skip ?_
          refine hK2 _ ?_
          refine SW.seqK fun K3 hK3 => ?_
          refine SW.drawK mixed [.q [(0, false), (1, false), (2, false), (3, false), (4, false)]] (by kernel_rfl) rfl fun K hK => ?_
          simp
          first | refine ⟨by omega, by omega, ?_⟩ | refine ⟨by omega, ?_⟩ | skip
          refine CallQ.fz (toLog_ok _ _ hl) ?_
          simp
          first | refine ⟨by omega, by omega, ?_⟩ | refine ⟨by omega, ?_⟩ | skip
          refine CallQ.fz (eqLog_ok _ _ hl) ?_
          simp
          first | refine hK _ ?_ | refine ⟨by omega, hK _ ?_⟩ | refine ⟨by omega, by omega, hK _ ?_⟩
          clear hK K
          refine SW.cond _ rfl (by simp) ?_ ?_
          case' refine_2 =>
            intro hb3
            first
            | (exfalso; simp at hb3; done)
            | (
              refine SW.skip ?_
              refine hK3 _ ?_
              refine SW.regionK fun K hK => ?_
              simp
              first | refine hK _ ?_ | refine ⟨by omega, hK _ ?_⟩ | refine ⟨by omega, by omega, hK _ ?_⟩
              clear hK K
              refine SW.ret ?_
              simp [Ex.then, Ex.inBlock])
          rotate_right
          case' _ =>
            intro hb3
            first
            | (exfalso; simp at hb3; done)
            | (
              refine SW.regionK fun K hK => ?_
              simp
              first | refine hK _ ?_ | refine ⟨by omega, hK _ ?_⟩ | refine ⟨by omega, by omega, hK _ ?_⟩
              clear hK K
              refine SW.ret ?_
              simp [Ex.then, Ex.inBlock]))
      rotate_right
      case' _ =>
        intro hb2
        first
        | (exfalso; simp at hb2; done)
        | (
          refine SW.regionK fun K hK => ?_
          simp
          first | refine hK _ ?_ | refine ⟨by omega, hK _ ?_⟩ | refine ⟨by omega, by omega, hK _ ?_⟩
          clear hK K
          refine SW.ret ?_
          simp [Ex.then, Ex.inBlock]))
  rotate_right
  case' _ =>
    intro hb1
    first
    | (exfalso; simp at hb1; done)
    | (
      refine SW.regionK fun K hK => ?_
      simp
      first | refine hK _ ?_ | refine ⟨by omega, hK _ ?_⟩ | refine ⟨by omega, by omega, hK _ ?_⟩
      clear hK K
      refine SW.ret ?_
      simp [Ex.then, Ex.inBlock])
end HO
