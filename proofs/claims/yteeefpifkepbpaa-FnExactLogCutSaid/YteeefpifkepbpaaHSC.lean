/-
  My own text (road H): HSC.
-/
import Derived.Test.YteeefpifkepbpaaHSB
set_option linter.unusedSimpArgs false
namespace HS
open Go Go.Proofs HK
theorem LogC_okI (p : Int) (l : List Deed) : okI (.agg [.int .i64 p, .own 4 (DS l)]) = true := by simp
set_option maxHeartbeats 1000000 in
theorem law_logCut (p : Int) (l : List Deed) (n : Int) (hm : l.length ≤ maxLen) : Fn Try.prog 5 [LogC p l, .int .i64 n] (.bool true) := by
  refine Fn.intro Try.func5 (by decide) rfl (rs := [.tmp 4]) rfl Try.ntmps5 (by simp) ?_
  refine SW.regionK fun K hK => ?_
  simp -implicitDefEqProofs
  first | refine hK _ ?_ | refine ⟨by omega, hK _ ?_⟩ | refine ⟨by omega, by omega, hK _ ?_⟩
  clear hK K
  refine SW.regionK fun K hK => ?_
  simp -implicitDefEqProofs
  first | refine hK _ ?_ | refine ⟨by omega, hK _ ?_⟩ | refine ⟨by omega, by omega, hK _ ?_⟩
  clear hK K
  refine SW.regionK fun K hK => ?_
  simp -implicitDefEqProofs
  first | refine ⟨by omega, by omega, ?_⟩ | refine ⟨by omega, ?_⟩ | skip
  refine CallK.fz (sz_log _ _ _) ?_
  simp -implicitDefEqProofs
  first | refine hK _ ?_ | refine ⟨by omega, hK _ ?_⟩ | refine ⟨by omega, by omega, hK _ ?_⟩
  clear hK K
  refine SW.seqK fun K1 hK1 => ?_
  refine SW.regionK fun K hK => ?_
  simp -implicitDefEqProofs
  first | refine hK _ ?_ | refine ⟨by omega, hK _ ?_⟩ | refine ⟨by omega, by omega, hK _ ?_⟩
  clear hK K
  refine SW.cond _ rfl (by simp) ?_ ?_
  case' refine_2 =>
    intro hb1
    simp at hb1
    have hm2 : l.length ≤ 2 ^ 63 - 1 := hm
    have hl : l.length ≤ 1048576 := by rw [wrapI _ (by omega) (by omega)] at hb1; split at hb1 <;> omega
    first
    | (exfalso; simp at hb1; done)
    | (exfalso; simp at hb1; omega)
    | (
      refine SW.skip ?_
      refine hK1 _ ?_
      refine SW.regionK fun K hK => ?_
      simp -implicitDefEqProofs
      first | refine ⟨by omega, by omega, ?_⟩ | refine ⟨by omega, ?_⟩ | skip
      refine CallK.fzE (toLog_ok p l hl) (by simp) ?_
      simp -implicitDefEqProofs
      first | refine ⟨by omega, by omega, ?_⟩ | refine ⟨by omega, ?_⟩ | skip
      refine CallK.fzE (logCut_spec p l n (by omega)) (by simp) ?_
      simp -implicitDefEqProofs
      first | refine hK _ ?_ | refine ⟨by omega, hK _ ?_⟩ | refine ⟨by omega, by omega, hK _ ?_⟩
      clear hK K
      refine SW.regionK fun K hK => ?_
      simp -implicitDefEqProofs
      first | refine ⟨by omega, by omega, ?_⟩ | refine ⟨by omega, ?_⟩ | skip
      refine CallK.imE (toLog_ok p l hl) (by simp) (LogC_okI p l) ?_
      simp -implicitDefEqProofs
      first | refine hK _ ?_ | refine ⟨by omega, hK _ ?_⟩ | refine ⟨by omega, by omega, hK _ ?_⟩
      clear hK K
      refine SW.regionK fun K hK => ?_
      simp -implicitDefEqProofs
      first | refine ⟨by omega, by omega, ?_⟩ | refine ⟨by omega, ?_⟩ | skip
      refine CallK.imE (logCut_impl p l n (by omega) (cutN_le n _)) (by simp) (LogC_okI p _) ?_
      simp -implicitDefEqProofs
      first | refine hK _ ?_ | refine ⟨by omega, hK _ ?_⟩ | refine ⟨by omega, by omega, hK _ ?_⟩
      clear hK K
      refine SW.seqK fun K2 hK2 => ?_
      refine SW.regionK fun K hK => ?_
      simp -implicitDefEqProofs
      first | refine ⟨by omega, by omega, ?_⟩ | refine ⟨by omega, ?_⟩ | skip
      refine CallK.fzE (eqLog_ok p (l.take (cutN n l.length)) (by simp; omega)) (by simp) ?_
      simp -implicitDefEqProofs
      first | refine hK _ ?_ | refine ⟨by omega, hK _ ?_⟩ | refine ⟨by omega, by omega, hK _ ?_⟩
      clear hK K
      refine SW.cond _ rfl (by simp) ?_ ?_
      case' refine_2 =>
        intro hb2
        first
        | (exfalso; simp at hb2; done)
        | (exfalso; simp at hb2; omega)
        | (
          refine SW.skip ?_
          refine hK2 _ ?_
          refine SW.seqK fun K3 hK3 => ?_
          refine SW.drawK mixed [.q [(0, false), (1, false), (2, false), (3, false), (4, false)]] (by kernel_rfl) rfl fun K hK => ?_
          simp -implicitDefEqProofs
          first | refine ⟨by omega, by omega, ?_⟩ | refine ⟨by omega, ?_⟩ | skip
          refine CallQ.fzE (toLog_ok p l hl) (by simp) ?_
          simp -implicitDefEqProofs
          first | refine ⟨by omega, by omega, ?_⟩ | refine ⟨by omega, ?_⟩ | skip
          refine CallQ.fzE (eqLog_ok p l (by omega)) (by simp) ?_
          simp -implicitDefEqProofs
          first | refine hK _ ?_ | refine ⟨by omega, hK _ ?_⟩ | refine ⟨by omega, by omega, hK _ ?_⟩
          clear hK K
          refine SW.cond _ rfl (by simp) ?_ ?_
          case' refine_2 =>
            intro hb3
            first
            | (exfalso; simp at hb3; done)
            | (exfalso; simp at hb3; omega)
            | (
              refine SW.skip ?_
              refine hK3 _ ?_
              refine SW.regionK fun K hK => ?_
              simp -implicitDefEqProofs
              first | refine hK _ ?_ | refine ⟨by omega, hK _ ?_⟩ | refine ⟨by omega, by omega, hK _ ?_⟩
              clear hK K
              refine SW.regionK fun K hK => ?_
              simp -implicitDefEqProofs
              first | refine ⟨by omega, by omega, ?_⟩ | refine ⟨by omega, ?_⟩ | skip
              refine CallS.mono (mark_log p l 1 _ 2 _ rfl (by simp) rfl (by omega) (by omega) (by omega)) ?_
              rintro o h' ⟨rfl, rfl⟩
              simp -implicitDefEqProofs
              first | refine hK _ ?_ | refine ⟨by omega, hK _ ?_⟩ | refine ⟨by omega, by omega, hK _ ?_⟩
              clear hK K
              refine SW.seqK fun K4 hK4 => ?_
              refine SW.regionK fun K hK => ?_
              simp -implicitDefEqProofs
              first | refine ⟨by omega, by omega, ?_⟩ | refine ⟨by omega, ?_⟩ | skip
              refine CallG.fzE (by simp) (fun _ => eqLog_ok p (l.take (cutN n l.length)) (by simp; omega)) (by simp) ?_
              simp -implicitDefEqProofs
              first | refine hK _ ?_ | refine ⟨by omega, hK _ ?_⟩ | refine ⟨by omega, by omega, hK _ ?_⟩
              clear hK K
              refine SW.cond _ rfl (by simp) ?_ ?_
              case' refine_2 =>
                intro hb4
                first
                | (exfalso; simp at hb4; done)
                | (exfalso; simp at hb4; omega)
                | (
                  refine SW.skip ?_
                  refine hK4 _ ?_
                  refine SW.regionK fun K hK => ?_
                  simp -implicitDefEqProofs
                  first | refine hK _ ?_ | refine ⟨by omega, hK _ ?_⟩ | refine ⟨by omega, by omega, hK _ ?_⟩
                  clear hK K
                  refine SW.regionK fun K hK => ?_
                  simp -implicitDefEqProofs
                  first | refine ⟨by omega, by omega, ?_⟩ | refine ⟨by omega, ?_⟩ | skip
                  refine CallS.mono (mark_log p (l.take (cutN n l.length)) 1 _ 4 _ (by simp) (by simp) rfl (by omega) (by omega) (by omega)) ?_
                  rintro o h' ⟨rfl, rfl⟩
                  simp -implicitDefEqProofs
                  first | refine hK _ ?_ | refine ⟨by omega, hK _ ?_⟩ | refine ⟨by omega, by omega, hK _ ?_⟩
                  clear hK K
                  refine SW.regionK fun K hK => ?_
                  simp -implicitDefEqProofs
                  first | refine hK _ ?_ | refine ⟨by omega, hK _ ?_⟩ | refine ⟨by omega, by omega, hK _ ?_⟩
                  clear hK K
                  refine SW.regionK fun K hK => ?_
                  simp -implicitDefEqProofs
                  first | refine ⟨by omega, by omega, ?_⟩ | refine ⟨by omega, ?_⟩ | skip
                  refine CallK.fzE (held_log p (min (cutN n l.length) l.length) 1 (by omega) (by omega) (by omega)) (by simp) ?_
                  simp -implicitDefEqProofs
                  first | refine hK _ ?_ | refine ⟨by omega, hK _ ?_⟩ | refine ⟨by omega, by omega, hK _ ?_⟩
                  clear hK K
                  refine SW.seqK fun K5 hK5 => ?_
                  refine SW.regionK fun K hK => ?_
                  simp -implicitDefEqProofs
                  first | refine hK _ ?_ | refine ⟨by omega, hK _ ?_⟩ | refine ⟨by omega, by omega, hK _ ?_⟩
                  clear hK K
                  refine SW.cond _ rfl (by simp) ?_ ?_
                  case' refine_2 =>
                    intro hb5
                    first
                    | (exfalso; simp at hb5; done)
                    | (exfalso; simp at hb5; omega)
                    | (
                      refine SW.skip ?_
                      refine hK5 _ ?_
                      refine SW.seqK fun K6 hK6 => ?_
                      refine SW.regionK fun K hK => ?_
                      simp -implicitDefEqProofs
                      first | refine hK _ ?_ | refine ⟨by omega, hK _ ?_⟩ | refine ⟨by omega, by omega, hK _ ?_⟩
                      clear hK K
                      refine SW.cond _ rfl (by simp) ?_ ?_
                      case' refine_2 =>
                        intro hb6
                        first
                        | (exfalso; simp at hb6; done)
                        | (exfalso; simp at hb6; omega)
                        | (
                          refine SW.skip ?_
                          refine hK6 _ ?_
                          refine SW.regionK fun K hK => ?_
                          simp -implicitDefEqProofs
                          first | refine ⟨by omega, by omega, ?_⟩ | refine ⟨by omega, ?_⟩ | skip
                          first
                            | refine CallQ.fzE (toLog_ok p l hl) (by simp) ?_
                            | refine CallK.fzE (toLog_ok p l hl) (by simp) ?_
                          simp -implicitDefEqProofs
                          first | refine ⟨by omega, by omega, ?_⟩ | refine ⟨by omega, ?_⟩ | skip
                          refine CallK.fzE (logCut_impl p l n (by omega) (cutN_le n _)) (by simp) ?_
                          simp -implicitDefEqProofs
                          first | refine hK _ ?_ | refine ⟨by omega, hK _ ?_⟩ | refine ⟨by omega, by omega, hK _ ?_⟩
                          clear hK K
                          refine SW.seqK fun K7 hK7 => ?_
                          refine SW.regionK fun K hK => ?_
                          simp -implicitDefEqProofs
                          first | refine ⟨by omega, by omega, ?_⟩ | refine ⟨by omega, ?_⟩ | skip
                          refine CallK.fzE (eqLog_ok p (l.take (cutN n l.length)) (by simp; omega)) (by simp) ?_
                          simp -implicitDefEqProofs
                          first | refine hK _ ?_ | refine ⟨by omega, hK _ ?_⟩ | refine ⟨by omega, by omega, hK _ ?_⟩
                          clear hK K
                          refine SW.cond _ rfl (by simp) ?_ ?_
                          case' refine_2 =>
                            intro hb7
                            first
                            | (exfalso; simp at hb7; done)
                            | (exfalso; simp at hb7; omega)
                            | (
                              refine SW.skip ?_
                              refine hK7 _ ?_
                              refine SW.regionK fun K hK => ?_
                              simp -implicitDefEqProofs
                              first | refine hK _ ?_ | refine ⟨by omega, hK _ ?_⟩ | refine ⟨by omega, by omega, hK _ ?_⟩
                              clear hK K
                              refine SW.regionK fun K hK => ?_
                              simp -implicitDefEqProofs
                              first | refine ⟨by omega, by omega, ?_⟩ | refine ⟨by omega, ?_⟩ | skip
                              refine CallK.fzE (held_log p (min (cutN n l.length) l.length) 1 (by omega) (by omega) (by omega)) (by simp) ?_
                              simp -implicitDefEqProofs
                              first | refine hK _ ?_ | refine ⟨by omega, hK _ ?_⟩ | refine ⟨by omega, by omega, hK _ ?_⟩
                              clear hK K
                              refine SW.seqK fun K8 hK8 => ?_
                              refine SW.regionK fun K hK => ?_
                              simp -implicitDefEqProofs
                              first | refine hK _ ?_ | refine ⟨by omega, hK _ ?_⟩ | refine ⟨by omega, by omega, hK _ ?_⟩
                              clear hK K
                              refine SW.cond _ rfl (by simp) ?_ ?_
                              case' refine_2 =>
                                intro hb8
                                first
                                | (exfalso; simp at hb8; done)
                                | (exfalso; simp at hb8; omega)
                                | (
                                  refine SW.skip ?_
                                  refine hK8 _ ?_
                                  refine SW.seqK fun K9 hK9 => ?_
                                  refine SW.regionK fun K hK => ?_
                                  simp -implicitDefEqProofs
                                  first | refine hK _ ?_ | refine ⟨by omega, hK _ ?_⟩ | refine ⟨by omega, by omega, hK _ ?_⟩
                                  clear hK K
                                  refine SW.cond _ rfl (by simp) ?_ ?_
                                  case' refine_2 =>
                                    intro hb9
                                    first
                                    | (exfalso; simp at hb9; done)
                                    | (exfalso; simp at hb9; omega)
                                    | (
                                      refine SW.skip ?_
                                      refine hK9 _ ?_
                                      refine SW.regionK fun K hK => ?_
                                      simp -implicitDefEqProofs
                                      first | refine hK _ ?_ | refine ⟨by omega, hK _ ?_⟩ | refine ⟨by omega, by omega, hK _ ?_⟩
                                      clear hK K
                                      refine SW.ret ?_
                                      simp [Ex.then, Ex.inBlock])
                                  rotate_right
                                  case' _ =>
                                    intro hb9
                                    first
                                    | (exfalso; simp at hb9; done)
                                    | (exfalso; simp at hb9; omega)
                                    | (
                                      refine SW.regionK fun K hK => ?_
                                      simp -implicitDefEqProofs
                                      first | refine hK _ ?_ | refine ⟨by omega, hK _ ?_⟩ | refine ⟨by omega, by omega, hK _ ?_⟩
                                      clear hK K
                                      refine SW.ret ?_
                                      simp [Ex.then, Ex.inBlock]))
                              rotate_right
                              case' _ =>
                                intro hb8
                                first
                                | (exfalso; simp at hb8; done)
                                | (exfalso; simp at hb8; omega)
                                | (
                                  refine SW.regionK fun K hK => ?_
                                  simp -implicitDefEqProofs
                                  first | refine hK _ ?_ | refine ⟨by omega, hK _ ?_⟩ | refine ⟨by omega, by omega, hK _ ?_⟩
                                  clear hK K
                                  refine SW.ret ?_
                                  simp [Ex.then, Ex.inBlock]))
                          rotate_right
                          case' _ =>
                            intro hb7
                            first
                            | (exfalso; simp at hb7; done)
                            | (exfalso; simp at hb7; omega)
                            | (
                              refine SW.regionK fun K hK => ?_
                              simp -implicitDefEqProofs
                              first | refine hK _ ?_ | refine ⟨by omega, hK _ ?_⟩ | refine ⟨by omega, by omega, hK _ ?_⟩
                              clear hK K
                              refine SW.ret ?_
                              simp [Ex.then, Ex.inBlock]))
                      rotate_right
                      case' _ =>
                        intro hb6
                        first
                        | (exfalso; simp at hb6; done)
                        | (exfalso; simp at hb6; omega)
                        | (
                          refine SW.regionK fun K hK => ?_
                          simp -implicitDefEqProofs
                          first | refine hK _ ?_ | refine ⟨by omega, hK _ ?_⟩ | refine ⟨by omega, by omega, hK _ ?_⟩
                          clear hK K
                          refine SW.ret ?_
                          simp [Ex.then, Ex.inBlock]))
                  rotate_right
                  case' _ =>
                    intro hb5
                    first
                    | (exfalso; simp at hb5; done)
                    | (exfalso; simp at hb5; omega)
                    | (
                      refine SW.regionK fun K hK => ?_
                      simp -implicitDefEqProofs
                      first | refine hK _ ?_ | refine ⟨by omega, hK _ ?_⟩ | refine ⟨by omega, by omega, hK _ ?_⟩
                      clear hK K
                      refine SW.ret ?_
                      simp [Ex.then, Ex.inBlock]))
              rotate_right
              case' _ =>
                intro hb4
                first
                | (exfalso; simp at hb4; done)
                | (exfalso; simp at hb4; omega)
                | (
                  refine SW.regionK fun K hK => ?_
                  simp -implicitDefEqProofs
                  first | refine hK _ ?_ | refine ⟨by omega, hK _ ?_⟩ | refine ⟨by omega, by omega, hK _ ?_⟩
                  clear hK K
                  refine SW.ret ?_
                  simp [Ex.then, Ex.inBlock]))
          rotate_right
          case' _ =>
            intro hb3
            first
            | (exfalso; simp at hb3; done)
            | (exfalso; simp at hb3; omega)
            | (
              refine SW.regionK fun K hK => ?_
              simp -implicitDefEqProofs
              first | refine hK _ ?_ | refine ⟨by omega, hK _ ?_⟩ | refine ⟨by omega, by omega, hK _ ?_⟩
              clear hK K
              refine SW.ret ?_
              simp [Ex.then, Ex.inBlock]))
      rotate_right
      case' _ =>
        intro hb2
        first
        | (exfalso; simp at hb2; done)
        | (exfalso; simp at hb2; omega)
        | (
          refine SW.regionK fun K hK => ?_
          simp -implicitDefEqProofs
          first | refine hK _ ?_ | refine ⟨by omega, hK _ ?_⟩ | refine ⟨by omega, by omega, hK _ ?_⟩
          clear hK K
          refine SW.ret ?_
          simp [Ex.then, Ex.inBlock]))
  rotate_right
  case' _ =>
    intro hb1
    first
    | (exfalso; simp at hb1; done)
    | (exfalso; simp at hb1; omega)
    | (
      refine SW.regionK fun K hK => ?_
      simp -implicitDefEqProofs
      first | refine hK _ ?_ | refine ⟨by omega, hK _ ?_⟩ | refine ⟨by omega, by omega, hK _ ?_⟩
      clear hK K
      refine SW.ret ?_
      simp [Ex.then, Ex.inBlock])
end HS
