/-
  My own text (road H): HSI.
-/
import Derived.Test.YteeefpifkepbpaaHSH
set_option linter.unusedSimpArgs false
namespace HS
open Go Go.Proofs HK
theorem evs_le (l : List Deed) : (evs l).length ≤ l.length := List.length_filter_le _ _
set_option maxHeartbeats 1000000 in
theorem law_events (l : List Deed) (hm : l.length ≤ maxLen) (he : (evs l).length ≤ l.length) : Fn Try.prog 4 [.fz (DS l)] (.bool true) := by
  refine Fn.intro Try.func4 (by decide) rfl (rs := [.tmp 2]) rfl Try.ntmps4 (by simp) ?_
  refine SW.regionK fun K hK => ?_
  simp -implicitDefEqProofs
  first | refine hK _ ?_ | refine ⟨by omega, hK _ ?_⟩ | refine ⟨by omega, by omega, hK _ ?_⟩
  clear hK K
  refine SW.regionK fun K hK => ?_
  simp -implicitDefEqProofs
  first | refine hK _ ?_ | refine ⟨by omega, hK _ ?_⟩ | refine ⟨by omega, by omega, hK _ ?_⟩
  clear hK K
  refine SW.regionK fun K hK => ?_
  simp -implicitDefEqProofs
  first | refine ⟨by omega, by omega, ?_⟩ | refine ⟨by omega, ?_⟩ | skip
  refine CallK.fz (sz_deedS _ _) ?_
  simp -implicitDefEqProofs
  first | refine hK _ ?_ | refine ⟨by omega, hK _ ?_⟩ | refine ⟨by omega, by omega, hK _ ?_⟩
  clear hK K
  refine SW.seqK fun K1 hK1 => ?_
  refine SW.regionK fun K hK => ?_
  simp -implicitDefEqProofs
  first | refine hK _ ?_ | refine ⟨by omega, hK _ ?_⟩ | refine ⟨by omega, by omega, hK _ ?_⟩
  clear hK K
  refine SW.cond _ rfl (by simp) ?_ ?_
  case' refine_2 =>
    intro hb1
    simp at hb1
    have hm2 : l.length ≤ 2 ^ 63 - 1 := hm
    have hl : l.length ≤ 1048576 := by rw [wrapI _ (by omega) (by omega)] at hb1; split at hb1 <;> omega
    first
    | (exfalso; simp at hb1; done)
    | (exfalso; simp at hb1; omega)
    | (
      refine SW.skip ?_
      refine hK1 _ ?_
      refine SW.regionK fun K hK => ?_
      simp -implicitDefEqProofs
      first | refine ⟨by omega, by omega, ?_⟩ | refine ⟨by omega, ?_⟩ | skip
      first
        | refine CallQ.fz (toDeedS_ok l hl) ?_
        | refine CallK.fz (toDeedS_ok l hl) ?_
      simp -implicitDefEqProofs
      first | refine ⟨by omega, by omega, ?_⟩ | refine ⟨by omega, ?_⟩ | skip
      refine CallK.fzE (events_spec l hl) (by simp) ?_
      simp -implicitDefEqProofs
      first | refine hK _ ?_ | refine ⟨by omega, hK _ ?_⟩ | refine ⟨by omega, by omega, hK _ ?_⟩
      clear hK K
      refine SW.regionK fun K hK => ?_
      simp -implicitDefEqProofs
      first | refine ⟨by omega, by omega, ?_⟩ | refine ⟨by omega, ?_⟩ | skip
      refine CallK.im (toDeedS_ok l hl) (DS_okI l) ?_
      simp -implicitDefEqProofs
      first | refine hK _ ?_ | refine ⟨by omega, hK _ ?_⟩ | refine ⟨by omega, by omega, hK _ ?_⟩
      clear hK K
      refine SW.regionK fun K hK => ?_
      simp -implicitDefEqProofs
      first | refine ⟨by omega, by omega, ?_⟩ | refine ⟨by omega, ?_⟩ | skip
      refine CallK.imE (events_impl l hl) (by simp) (DS_okI _) ?_
      simp -implicitDefEqProofs
      first | refine hK _ ?_ | refine ⟨by omega, hK _ ?_⟩ | refine ⟨by omega, by omega, hK _ ?_⟩
      clear hK K
      refine SW.seqK fun K2 hK2 => ?_
      refine SW.regionK fun K hK => ?_
      simp -implicitDefEqProofs
      first | refine ⟨by omega, by omega, ?_⟩ | refine ⟨by omega, ?_⟩ | skip
      refine CallK.fzE (eqDeedS_ok (evs l) (by omega)) (by simp) ?_
      simp -implicitDefEqProofs
      first | refine hK _ ?_ | refine ⟨by omega, hK _ ?_⟩ | refine ⟨by omega, by omega, hK _ ?_⟩
      clear hK K
      refine SW.cond _ rfl (by simp) ?_ ?_
      case' refine_2 =>
        intro hb2
        first
        | (exfalso; simp at hb2; done)
        | (exfalso; simp at hb2; omega)
        | (
          refine SW.skip ?_
          refine hK2 _ ?_
          refine SW.seqK fun K3 hK3 => ?_
          refine SW.regionK fun K hK => ?_
          simp -implicitDefEqProofs
          first | refine ⟨by omega, by omega, ?_⟩ | refine ⟨by omega, ?_⟩ | skip
          first
            | refine CallQ.fz (toDeedS_ok l hl) ?_
            | refine CallK.fz (toDeedS_ok l hl) ?_
          simp -implicitDefEqProofs
          first | refine ⟨by omega, by omega, ?_⟩ | refine ⟨by omega, ?_⟩ | skip
          refine CallK.fzE (eqDeedS_ok l (by omega)) (by simp) ?_
          simp -implicitDefEqProofs
          first | refine hK _ ?_ | refine ⟨by omega, hK _ ?_⟩ | refine ⟨by omega, by omega, hK _ ?_⟩
          clear hK K
          refine SW.cond _ rfl (by simp) ?_ ?_
          case' refine_2 =>
            intro hb3
            first
            | (exfalso; simp at hb3; done)
            | (exfalso; simp at hb3; omega)
            | (
              refine SW.skip ?_
              refine hK3 _ ?_
              refine SW.regionK fun K hK => ?_
              simp -implicitDefEqProofs
              first | refine hK _ ?_ | refine ⟨by omega, hK _ ?_⟩ | refine ⟨by omega, by omega, hK _ ?_⟩
              clear hK K
              refine SW.regionK fun K hK => ?_
              simp -implicitDefEqProofs
              first | refine ⟨by omega, by omega, ?_⟩ | refine ⟨by omega, ?_⟩ | skip
              refine CallS.mono (mark_deedS l 1 _ 0 _ rfl (by simp) rfl (by omega) (by omega) (by omega)) ?_
              rintro o h' ⟨rfl, rfl⟩
              simp -implicitDefEqProofs
              first | refine hK _ ?_ | refine ⟨by omega, hK _ ?_⟩ | refine ⟨by omega, by omega, hK _ ?_⟩
              clear hK K
              refine SW.seqK fun K4 hK4 => ?_
              refine SW.regionK fun K hK => ?_
              simp -implicitDefEqProofs
              first | refine ⟨by omega, by omega, ?_⟩ | refine ⟨by omega, ?_⟩ | skip
              refine CallG.fzE (by simp) (fun _ => eqDeedS_ok (evs l) (by omega)) (by simp) ?_
              simp -implicitDefEqProofs
              first | refine hK _ ?_ | refine ⟨by omega, hK _ ?_⟩ | refine ⟨by omega, by omega, hK _ ?_⟩
              clear hK K
              refine SW.cond _ rfl (by simp) ?_ ?_
              case' refine_2 =>
                intro hb4
                first
                | (exfalso; simp at hb4; done)
                | (exfalso; simp at hb4; omega)
                | (
                  refine SW.skip ?_
                  refine hK4 _ ?_
                  refine SW.regionK fun K hK => ?_
                  simp -implicitDefEqProofs
                  first | refine hK _ ?_ | refine ⟨by omega, hK _ ?_⟩ | refine ⟨by omega, by omega, hK _ ?_⟩
                  clear hK K
                  refine SW.regionK fun K hK => ?_
                  simp -implicitDefEqProofs
                  first | refine ⟨by omega, by omega, ?_⟩ | refine ⟨by omega, ?_⟩ | skip
                  refine CallS.mono (mark_deedS (evs l) 1 _ 1 _ rfl (by simp) rfl (by omega) (by omega) (by omega)) ?_
                  rintro o h' ⟨rfl, rfl⟩
                  simp -implicitDefEqProofs
                  first | refine hK _ ?_ | refine ⟨by omega, hK _ ?_⟩ | refine ⟨by omega, by omega, hK _ ?_⟩
                  clear hK K
                  refine SW.regionK fun K hK => ?_
                  simp -implicitDefEqProofs
                  first | refine hK _ ?_ | refine ⟨by omega, hK _ ?_⟩ | refine ⟨by omega, by omega, hK _ ?_⟩
                  clear hK K
                  refine SW.regionK fun K hK => ?_
                  simp -implicitDefEqProofs
                  first | refine ⟨by omega, by omega, ?_⟩ | refine ⟨by omega, ?_⟩ | skip
                  refine CallK.fzE (held_deedS (evs l).length 1 (by omega) (by omega) (by omega)) (by simp) ?_
                  simp -implicitDefEqProofs
                  first | refine hK _ ?_ | refine ⟨by omega, hK _ ?_⟩ | refine ⟨by omega, by omega, hK _ ?_⟩
                  clear hK K
                  refine SW.seqK fun K5 hK5 => ?_
                  refine SW.regionK fun K hK => ?_
                  simp -implicitDefEqProofs
                  first | refine hK _ ?_ | refine ⟨by omega, hK _ ?_⟩ | refine ⟨by omega, by omega, hK _ ?_⟩
                  clear hK K
                  refine SW.cond _ rfl (by simp) ?_ ?_
                  case' refine_2 =>
                    intro hb5
                    first
                    | (exfalso; simp at hb5; done)
                    | (exfalso; simp at hb5; omega)
                    | (
                      refine SW.skip ?_
                      refine hK5 _ ?_
                      refine SW.seqK fun K6 hK6 => ?_
                      refine SW.regionK fun K hK => ?_
                      simp -implicitDefEqProofs
                      first | refine hK _ ?_ | refine ⟨by omega, hK _ ?_⟩ | refine ⟨by omega, by omega, hK _ ?_⟩
                      clear hK K
                      refine SW.cond _ rfl (by simp) ?_ ?_
                      case' refine_2 =>
                        intro hb6
                        first
                        | (exfalso; simp at hb6; done)
                        | (exfalso; simp at hb6; omega)
                        | (
                          refine SW.skip ?_
                          refine hK6 _ ?_
                          refine SW.regionK fun K hK => ?_
                          simp -implicitDefEqProofs
                          first | refine ⟨by omega, by omega, ?_⟩ | refine ⟨by omega, ?_⟩ | skip
                          first
                            | refine CallQ.fz (toDeedS_ok l hl) ?_
                            | refine CallK.fz (toDeedS_ok l hl) ?_
                          simp -implicitDefEqProofs
                          first | refine ⟨by omega, by omega, ?_⟩ | refine ⟨by omega, ?_⟩ | skip
                          refine CallK.fzE (events_impl l hl) (by simp) ?_
                          simp -implicitDefEqProofs
                          first | refine hK _ ?_ | refine ⟨by omega, hK _ ?_⟩ | refine ⟨by omega, by omega, hK _ ?_⟩
                          clear hK K
                          refine SW.seqK fun K7 hK7 => ?_
                          refine SW.regionK fun K hK => ?_
                          simp -implicitDefEqProofs
                          first | refine ⟨by omega, by omega, ?_⟩ | refine ⟨by omega, ?_⟩ | skip
                          refine CallK.fzE (eqDeedS_ok (evs l) (by omega)) (by simp) ?_
                          simp -implicitDefEqProofs
                          first | refine hK _ ?_ | refine ⟨by omega, hK _ ?_⟩ | refine ⟨by omega, by omega, hK _ ?_⟩
                          clear hK K
                          refine SW.cond _ rfl (by simp) ?_ ?_
                          case' refine_2 =>
                            intro hb7
                            first
                            | (exfalso; simp at hb7; done)
                            | (exfalso; simp at hb7; omega)
                            | (
                              refine SW.skip ?_
                              refine hK7 _ ?_
                              refine SW.regionK fun K hK => ?_
                              simp -implicitDefEqProofs
                              first | refine hK _ ?_ | refine ⟨by omega, hK _ ?_⟩ | refine ⟨by omega, by omega, hK _ ?_⟩
                              clear hK K
                              refine SW.regionK fun K hK => ?_
                              simp -implicitDefEqProofs
                              first | refine ⟨by omega, by omega, ?_⟩ | refine ⟨by omega, ?_⟩ | skip
                              refine CallK.fzE (held_deedS (evs l).length 1 (by omega) (by omega) (by omega)) (by simp) ?_
                              simp -implicitDefEqProofs
                              first | refine hK _ ?_ | refine ⟨by omega, hK _ ?_⟩ | refine ⟨by omega, by omega, hK _ ?_⟩
                              clear hK K
                              refine SW.seqK fun K8 hK8 => ?_
                              refine SW.regionK fun K hK => ?_
                              simp -implicitDefEqProofs
                              first | refine hK _ ?_ | refine ⟨by omega, hK _ ?_⟩ | refine ⟨by omega, by omega, hK _ ?_⟩
                              clear hK K
                              refine SW.cond _ rfl (by simp) ?_ ?_
                              case' refine_2 =>
                                intro hb8
                                first
                                | (exfalso; simp at hb8; done)
                                | (exfalso; simp at hb8; omega)
                                | (
                                  refine SW.skip ?_
                                  refine hK8 _ ?_
                                  refine SW.seqK fun K9 hK9 => ?_
                                  refine SW.regionK fun K hK => ?_
                                  simp -implicitDefEqProofs
                                  first | refine hK _ ?_ | refine ⟨by omega, hK _ ?_⟩ | refine ⟨by omega, by omega, hK _ ?_⟩
                                  clear hK K
                                  refine SW.cond _ rfl (by simp) ?_ ?_
                                  case' refine_2 =>
                                    intro hb9
                                    first
                                    | (exfalso; simp at hb9; done)
                                    | (exfalso; simp at hb9; omega)
                                    | (
                                      refine SW.skip ?_
                                      refine hK9 _ ?_
                                      refine SW.regionK fun K hK => ?_
                                      simp -implicitDefEqProofs
                                      first | refine hK _ ?_ | refine ⟨by omega, hK _ ?_⟩ | refine ⟨by omega, by omega, hK _ ?_⟩
                                      clear hK K
                                      refine SW.ret ?_
                                      simp [Ex.then, Ex.inBlock])
                                  rotate_right
                                  case' _ =>
                                    intro hb9
                                    first
                                    | (exfalso; simp at hb9; done)
                                    | (exfalso; simp at hb9; omega)
                                    | (
                                      refine SW.regionK fun K hK => ?_
                                      simp -implicitDefEqProofs
                                      first | refine hK _ ?_ | refine ⟨by omega, hK _ ?_⟩ | refine ⟨by omega, by omega, hK _ ?_⟩
                                      clear hK K
                                      refine SW.ret ?_
                                      simp [Ex.then, Ex.inBlock]))
                              rotate_right
                              case' _ =>
                                intro hb8
                                first
                                | (exfalso; simp at hb8; done)
                                | (exfalso; simp at hb8; omega)
                                | (
                                  refine SW.regionK fun K hK => ?_
                                  simp -implicitDefEqProofs
                                  first | refine hK _ ?_ | refine ⟨by omega, hK _ ?_⟩ | refine ⟨by omega, by omega, hK _ ?_⟩
                                  clear hK K
                                  refine SW.ret ?_
                                  simp [Ex.then, Ex.inBlock]))
                          rotate_right
                          case' _ =>
                            intro hb7
                            first
                            | (exfalso; simp at hb7; done)
                            | (exfalso; simp at hb7; omega)
                            | (
                              refine SW.regionK fun K hK => ?_
                              simp -implicitDefEqProofs
                              first | refine hK _ ?_ | refine ⟨by omega, hK _ ?_⟩ | refine ⟨by omega, by omega, hK _ ?_⟩
                              clear hK K
                              refine SW.ret ?_
                              simp [Ex.then, Ex.inBlock]))
                      rotate_right
                      case' _ =>
                        intro hb6
                        first
                        | (exfalso; simp at hb6; done)
                        | (exfalso; simp at hb6; omega)
                        | (
                          refine SW.regionK fun K hK => ?_
                          simp -implicitDefEqProofs
                          first | refine hK _ ?_ | refine ⟨by omega, hK _ ?_⟩ | refine ⟨by omega, by omega, hK _ ?_⟩
                          clear hK K
                          refine SW.ret ?_
                          simp [Ex.then, Ex.inBlock]))
                  rotate_right
                  case' _ =>
                    intro hb5
                    first
                    | (exfalso; simp at hb5; done)
                    | (exfalso; simp at hb5; omega)
                    | (
                      refine SW.regionK fun K hK => ?_
                      simp -implicitDefEqProofs
                      first | refine hK _ ?_ | refine ⟨by omega, hK _ ?_⟩ | refine ⟨by omega, by omega, hK _ ?_⟩
                      clear hK K
                      refine SW.ret ?_
                      simp [Ex.then, Ex.inBlock]))
              rotate_right
              case' _ =>
                intro hb4
                first
                | (exfalso; simp at hb4; done)
                | (exfalso; simp at hb4; omega)
                | (
                  refine SW.regionK fun K hK => ?_
                  simp -implicitDefEqProofs
                  first | refine hK _ ?_ | refine ⟨by omega, hK _ ?_⟩ | refine ⟨by omega, by omega, hK _ ?_⟩
                  clear hK K
                  refine SW.ret ?_
                  simp [Ex.then, Ex.inBlock]))
          rotate_right
          case' _ =>
            intro hb3
            first
            | (exfalso; simp at hb3; done)
            | (exfalso; simp at hb3; omega)
            | (
              refine SW.regionK fun K hK => ?_
              simp -implicitDefEqProofs
              first | refine hK _ ?_ | refine ⟨by omega, hK _ ?_⟩ | refine ⟨by omega, by omega, hK _ ?_⟩
              clear hK K
              refine SW.ret ?_
              simp [Ex.then, Ex.inBlock]))
      rotate_right
      case' _ =>
        intro hb2
        first
        | (exfalso; simp at hb2; done)
        | (exfalso; simp at hb2; omega)
        | (
          refine SW.regionK fun K hK => ?_
          simp -implicitDefEqProofs
          first | refine hK _ ?_ | refine ⟨by omega, hK _ ?_⟩ | refine ⟨by omega, by omega, hK _ ?_⟩
          clear hK K
          refine SW.ret ?_
          simp [Ex.then, Ex.inBlock]))
  rotate_right
  case' _ =>
    intro hb1
    first
    | (exfalso; simp at hb1; done)
    | (exfalso; simp at hb1; omega)
    | (
      refine SW.regionK fun K hK => ?_
      simp -implicitDefEqProofs
      first | refine hK _ ?_ | refine ⟨by omega, hK _ ?_⟩ | refine ⟨by omega, by omega, hK _ ?_⟩
      clear hK K
      refine SW.ret ?_
      simp [Ex.then, Ex.inBlock])
end HS
