/-
  My own text (road H): HSR.
-/
import Derived.Test.YteeefpifkepbpaaHSQ
set_option linter.unusedSimpArgs false
namespace HS
open Go Go.Proofs HK
theorem readSome_sy {b : List Int} {r : List Deed} (hl : b.length ≤ 2 ^ 40) (hb : ∀ x ∈ b, isB x) (h : readL b 4 0 0 = some r) : Fn Try.prog 42 [.fz (YS b)] (.tup [.own 4 (DS r), .bool (decide (0 < r.length))]) := by
  have h9 := readSome_spec b hl hb; rw [h] at h9; exact h9
theorem readSome_iy {b : List Int} {r : List Deed} (hl : b.length ≤ 2 ^ 40) (hb : ∀ x ∈ b, isB x) (h : readL b 4 0 0 = some r) : Fn Try.prog 43 [.fz (YS b)] (.tup [.own 4 (DS r), .bool (decide (0 < r.length))]) := by
  have h9 := readSome_impl b hl hb; rw [h] at h9; exact h9
theorem readSome_sn {b : List Int} (hl : b.length ≤ 2 ^ 40) (hb : ∀ x ∈ b, isB x) (h : readL b 4 0 0 = none) : Fn Try.prog 42 [.fz (YS b)] (.tup [.nil, .bool false]) := by
  have h9 := readSome_spec b hl hb; rw [h] at h9; exact h9
theorem readSome_in {b : List Int} (hl : b.length ≤ 2 ^ 40) (hb : ∀ x ∈ b, isB x) (h : readL b 4 0 0 = none) : Fn Try.prog 43 [.fz (YS b)] (.tup [.nil, .bool false]) := by
  have h9 := readSome_impl b hl hb; rw [h] at h9; exact h9
theorem tupD_okI (l : List Deed) (q : Bool) : okI (.tup [.own 4 (DS l), .bool q]) = true := by simp
set_option maxHeartbeats 1000000 in
theorem law_readSome_yes (l : List Int) (r : List Deed) (hb : ∀ x ∈ l, isB x) (hr : readL l 4 0 0 = some r) (h4 : r.length ≤ 4) : Fn Try.prog 9 [.fz (YS l)] (.bool true) := by
  refine Fn.intro Try.func9 (by decide) rfl (rs := [.tmp 2]) rfl Try.ntmps9 (by simp) ?_
  refine SW.regionK fun K hK => ?_
  simp -implicitDefEqProofs
  first | refine hK _ ?_ | refine ⟨by omega, hK _ ?_⟩ | refine ⟨by omega, by omega, hK _ ?_⟩
  clear hK K
  refine SW.seqK fun K1 hK1 => ?_
  refine SW.regionK fun K hK => ?_
  simp -implicitDefEqProofs
  first | refine hK _ ?_ | refine ⟨by omega, hK _ ?_⟩ | refine ⟨by omega, by omega, hK _ ?_⟩
  clear hK K
  refine SW.cond _ rfl (by simp) ?_ ?_
  case' refine_2 =>
    intro hb1
    have hl : l.length ≤ 1048576 := by simp at hb1; omega
    first
    | (exfalso; simp at hb1; done)
    | (exfalso; simp at hb1; omega)
    | (
      refine SW.skip ?_
      refine hK1 _ ?_
      refine SW.regionK fun K hK => ?_
      simp -implicitDefEqProofs
      first | refine ⟨by omega, by omega, ?_⟩ | refine ⟨by omega, ?_⟩ | skip
      first
        | refine CallQ.fz (toByteS_ok l hl) ?_
        | refine CallK.fz (toByteS_ok l hl) ?_
      simp -implicitDefEqProofs
      first | refine ⟨by omega, by omega, ?_⟩ | refine ⟨by omega, ?_⟩ | skip
      refine CallK.fzE (readSome_sy (by omega) hb hr) (by simp) ?_
      simp -implicitDefEqProofs
      first | refine hK _ ?_ | refine ⟨by omega, hK _ ?_⟩ | refine ⟨by omega, by omega, hK _ ?_⟩
      clear hK K
      refine SW.regionK fun K hK => ?_
      simp -implicitDefEqProofs
      first | refine ⟨by omega, by omega, ?_⟩ | refine ⟨by omega, ?_⟩ | skip
      refine CallK.im (toByteS_ok l hl) (YS_okI _) ?_
      simp -implicitDefEqProofs
      first | refine hK _ ?_ | refine ⟨by omega, hK _ ?_⟩ | refine ⟨by omega, by omega, hK _ ?_⟩
      clear hK K
      refine SW.regionK fun K hK => ?_
      simp -implicitDefEqProofs
      first | refine ⟨by omega, by omega, ?_⟩ | refine ⟨by omega, ?_⟩ | skip
      refine CallK.imE (readSome_iy (by omega) hb hr) (by simp) (tupD_okI _ _) ?_
      simp -implicitDefEqProofs
      first | refine hK _ ?_ | refine ⟨by omega, hK _ ?_⟩ | refine ⟨by omega, by omega, hK _ ?_⟩
      clear hK K
      refine SW.seqK fun K2 hK2 => ?_
      refine SW.regionK fun K hK => ?_
      simp -implicitDefEqProofs
      first | refine ⟨by omega, by omega, ?_⟩ | refine ⟨by omega, ?_⟩ | skip
      refine CallK.fzE (eqDeedS_ok r (by omega)) (by simp) ?_
      simp -implicitDefEqProofs
      first | refine hK _ ?_ | refine ⟨by omega, hK _ ?_⟩ | refine ⟨by omega, by omega, hK _ ?_⟩
      clear hK K
      refine SW.cond _ rfl (by simp) ?_ ?_
      case' refine_2 =>
        intro hb2
        first
        | (exfalso; simp at hb2; done)
        | (exfalso; simp at hb2; omega)
        | (
          refine SW.skip ?_
          refine hK2 _ ?_
          refine SW.seqK fun K3 hK3 => ?_
          refine SW.regionK fun K hK => ?_
          simp -implicitDefEqProofs
          first | refine ⟨by omega, by omega, ?_⟩ | refine ⟨by omega, ?_⟩ | skip
          first
            | refine CallQ.fz (toByteS_ok l hl) ?_
            | refine CallK.fz (toByteS_ok l hl) ?_
          simp -implicitDefEqProofs
          first | refine ⟨by omega, by omega, ?_⟩ | refine ⟨by omega, ?_⟩ | skip
          refine CallK.fzE (eqByteS_ok l (by omega)) (by simp) ?_
          simp -implicitDefEqProofs
          first | refine hK _ ?_ | refine ⟨by omega, hK _ ?_⟩ | refine ⟨by omega, by omega, hK _ ?_⟩
          clear hK K
          refine SW.cond _ rfl (by simp) ?_ ?_
          case' refine_2 =>
            intro hb3
            first
            | (exfalso; simp at hb3; done)
            | (exfalso; simp at hb3; omega)
            | (
              refine SW.skip ?_
              refine hK3 _ ?_
              refine SW.regionK fun K hK => ?_
              simp -implicitDefEqProofs
              first | refine hK _ ?_ | refine ⟨by omega, hK _ ?_⟩ | refine ⟨by omega, by omega, hK _ ?_⟩
              clear hK K
              refine SW.regionK fun K hK => ?_
              simp -implicitDefEqProofs
              first | refine ⟨by omega, by omega, ?_⟩ | refine ⟨by omega, ?_⟩ | skip
              refine CallS.mono (mark_byteS' l 1 _ 0 _ rfl (by simp) rfl (by omega) (by omega) (by omega)) ?_
              rintro o h' ⟨rfl, rfl⟩
              simp -implicitDefEqProofs
              first | refine hK _ ?_ | refine ⟨by omega, hK _ ?_⟩ | refine ⟨by omega, by omega, hK _ ?_⟩
              clear hK K
              refine SW.seqK fun K4 hK4 => ?_
              refine SW.regionK fun K hK => ?_
              simp -implicitDefEqProofs
              first | refine ⟨by omega, by omega, ?_⟩ | refine ⟨by omega, ?_⟩ | skip
              refine CallG.fzE (by simp) (fun _ => eqDeedS_ok r (by omega)) (by simp) ?_
              simp -implicitDefEqProofs
              first | refine hK _ ?_ | refine ⟨by omega, hK _ ?_⟩ | refine ⟨by omega, by omega, hK _ ?_⟩
              clear hK K
              refine SW.cond _ rfl (by simp) ?_ ?_
              case' refine_2 =>
                intro hb4
                first
                | (exfalso; simp at hb4; done)
                | (exfalso; simp at hb4; omega)
                | (
                  refine SW.skip ?_
                  refine hK4 _ ?_
                  refine SW.regionK fun K hK => ?_
                  simp -implicitDefEqProofs
                  first | refine hK _ ?_ | refine ⟨by omega, hK _ ?_⟩ | refine ⟨by omega, by omega, hK _ ?_⟩
                  clear hK K
                  refine SW.regionK fun K hK => ?_
                  simp -implicitDefEqProofs
                  first | refine ⟨by omega, by omega, ?_⟩ | refine ⟨by omega, ?_⟩ | skip
                  refine CallS.mono (mark_deedS r 1 _ 1 _ rfl (by simp) rfl (by omega) (by omega) (by omega)) ?_
                  rintro o h' ⟨rfl, rfl⟩
                  simp -implicitDefEqProofs
                  first | refine hK _ ?_ | refine ⟨by omega, hK _ ?_⟩ | refine ⟨by omega, by omega, hK _ ?_⟩
                  clear hK K
                  refine SW.regionK fun K hK => ?_
                  simp -implicitDefEqProofs
                  first | refine hK _ ?_ | refine ⟨by omega, hK _ ?_⟩ | refine ⟨by omega, by omega, hK _ ?_⟩
                  clear hK K
                  refine SW.regionK fun K hK => ?_
                  simp -implicitDefEqProofs
                  first | refine ⟨by omega, by omega, ?_⟩ | refine ⟨by omega, ?_⟩ | skip
                  refine CallK.fzE (held_deedS r.length 1 (by omega) (by omega) (by omega)) (by simp) ?_
                  simp -implicitDefEqProofs
                  first | refine hK _ ?_ | refine ⟨by omega, hK _ ?_⟩ | refine ⟨by omega, by omega, hK _ ?_⟩
                  clear hK K
                  refine SW.seqK fun K5 hK5 => ?_
                  refine SW.regionK fun K hK => ?_
                  simp -implicitDefEqProofs
                  first | refine hK _ ?_ | refine ⟨by omega, hK _ ?_⟩ | refine ⟨by omega, by omega, hK _ ?_⟩
                  clear hK K
                  refine SW.cond _ rfl (by simp) ?_ ?_
                  case' refine_2 =>
                    intro hb5
                    first
                    | (exfalso; simp at hb5; done)
                    | (exfalso; simp at hb5; omega)
                    | (
                      refine SW.skip ?_
                      refine hK5 _ ?_
                      refine SW.seqK fun K6 hK6 => ?_
                      refine SW.regionK fun K hK => ?_
                      simp -implicitDefEqProofs
                      first | refine hK _ ?_ | refine ⟨by omega, hK _ ?_⟩ | refine ⟨by omega, by omega, hK _ ?_⟩
                      clear hK K
                      refine SW.cond _ rfl (by simp) ?_ ?_
                      case' refine_2 =>
                        intro hb6
                        first
                        | (exfalso; simp at hb6; done)
                        | (exfalso; simp at hb6; omega)
                        | (
                          refine SW.skip ?_
                          refine hK6 _ ?_
                          refine SW.regionK fun K hK => ?_
                          simp -implicitDefEqProofs
                          first | refine ⟨by omega, by omega, ?_⟩ | refine ⟨by omega, ?_⟩ | skip
                          first
                            | refine CallQ.fz (toByteS_ok l hl) ?_
                            | refine CallK.fz (toByteS_ok l hl) ?_
                          simp -implicitDefEqProofs
                          first | refine ⟨by omega, by omega, ?_⟩ | refine ⟨by omega, ?_⟩ | skip
                          refine CallK.fzE (readSome_iy (by omega) hb hr) (by simp) ?_
                          simp -implicitDefEqProofs
                          first | refine hK _ ?_ | refine ⟨by omega, hK _ ?_⟩ | refine ⟨by omega, by omega, hK _ ?_⟩
                          clear hK K
                          refine SW.seqK fun K7 hK7 => ?_
                          refine SW.regionK fun K hK => ?_
                          simp -implicitDefEqProofs
                          first | refine ⟨by omega, by omega, ?_⟩ | refine ⟨by omega, ?_⟩ | skip
                          refine CallK.fzE (eqDeedS_ok r (by omega)) (by simp) ?_
                          simp -implicitDefEqProofs
                          first | refine hK _ ?_ | refine ⟨by omega, hK _ ?_⟩ | refine ⟨by omega, by omega, hK _ ?_⟩
                          clear hK K
                          refine SW.cond _ rfl (by simp) ?_ ?_
                          case' refine_2 =>
                            intro hb7
                            first
                            | (exfalso; simp at hb7; done)
                            | (exfalso; simp at hb7; omega)
                            | (
                              refine SW.skip ?_
                              refine hK7 _ ?_
                              refine SW.regionK fun K hK => ?_
                              simp -implicitDefEqProofs
                              first | refine hK _ ?_ | refine ⟨by omega, hK _ ?_⟩ | refine ⟨by omega, by omega, hK _ ?_⟩
                              clear hK K
                              refine SW.regionK fun K hK => ?_
                              simp -implicitDefEqProofs
                              first | refine ⟨by omega, by omega, ?_⟩ | refine ⟨by omega, ?_⟩ | skip
                              refine CallK.fzE (held_deedS r.length 1 (by omega) (by omega) (by omega)) (by simp) ?_
                              simp -implicitDefEqProofs
                              first | refine hK _ ?_ | refine ⟨by omega, hK _ ?_⟩ | refine ⟨by omega, by omega, hK _ ?_⟩
                              clear hK K
                              refine SW.seqK fun K8 hK8 => ?_
                              refine SW.regionK fun K hK => ?_
                              simp -implicitDefEqProofs
                              first | refine hK _ ?_ | refine ⟨by omega, hK _ ?_⟩ | refine ⟨by omega, by omega, hK _ ?_⟩
                              clear hK K
                              refine SW.cond _ rfl (by simp) ?_ ?_
                              case' refine_2 =>
                                intro hb8
                                first
                                | (exfalso; simp at hb8; done)
                                | (exfalso; simp at hb8; omega)
                                | (
                                  refine SW.skip ?_
                                  refine hK8 _ ?_
                                  refine SW.seqK fun K9 hK9 => ?_
                                  refine SW.regionK fun K hK => ?_
                                  simp -implicitDefEqProofs
                                  first | refine hK _ ?_ | refine ⟨by omega, hK _ ?_⟩ | refine ⟨by omega, by omega, hK _ ?_⟩
                                  clear hK K
                                  refine SW.cond _ rfl (by simp) ?_ ?_
                                  case' refine_2 =>
                                    intro hb9
                                    first
                                    | (exfalso; simp at hb9; done)
                                    | (exfalso; simp at hb9; omega)
                                    | (
                                      refine SW.skip ?_
                                      refine hK9 _ ?_
                                      refine SW.regionK fun K hK => ?_
                                      simp -implicitDefEqProofs
                                      first | refine hK _ ?_ | refine ⟨by omega, hK _ ?_⟩ | refine ⟨by omega, by omega, hK _ ?_⟩
                                      clear hK K
                                      refine SW.ret ?_
                                      simp [Ex.then, Ex.inBlock]
                                      all_goals (try simp_all))
                                  rotate_right
                                  case' _ =>
                                    intro hb9
                                    first
                                    | (exfalso; simp at hb9; done)
                                    | (exfalso; simp at hb9; omega)
                                    | (
                                      refine SW.regionK fun K hK => ?_
                                      simp -implicitDefEqProofs
                                      first | refine hK _ ?_ | refine ⟨by omega, hK _ ?_⟩ | refine ⟨by omega, by omega, hK _ ?_⟩
                                      clear hK K
                                      refine SW.ret ?_
                                      simp [Ex.then, Ex.inBlock]
                                      all_goals (try simp_all)))
                              rotate_right
                              case' _ =>
                                intro hb8
                                first
                                | (exfalso; simp at hb8; done)
                                | (exfalso; simp at hb8; omega)
                                | (
                                  refine SW.regionK fun K hK => ?_
                                  simp -implicitDefEqProofs
                                  first | refine hK _ ?_ | refine ⟨by omega, hK _ ?_⟩ | refine ⟨by omega, by omega, hK _ ?_⟩
                                  clear hK K
                                  refine SW.ret ?_
                                  simp [Ex.then, Ex.inBlock]
                                  all_goals (try simp_all)))
                          rotate_right
                          case' _ =>
                            intro hb7
                            first
                            | (exfalso; simp at hb7; done)
                            | (exfalso; simp at hb7; omega)
                            | (
                              refine SW.regionK fun K hK => ?_
                              simp -implicitDefEqProofs
                              first | refine hK _ ?_ | refine ⟨by omega, hK _ ?_⟩ | refine ⟨by omega, by omega, hK _ ?_⟩
                              clear hK K
                              refine SW.ret ?_
                              simp [Ex.then, Ex.inBlock]
                              all_goals (try simp_all)))
                      rotate_right
                      case' _ =>
                        intro hb6
                        first
                        | (exfalso; simp at hb6; done)
                        | (exfalso; simp at hb6; omega)
                        | (
                          refine SW.regionK fun K hK => ?_
                          simp -implicitDefEqProofs
                          first | refine hK _ ?_ | refine ⟨by omega, hK _ ?_⟩ | refine ⟨by omega, by omega, hK _ ?_⟩
                          clear hK K
                          refine SW.ret ?_
                          simp [Ex.then, Ex.inBlock]
                          all_goals (try simp_all)))
                  rotate_right
                  case' _ =>
                    intro hb5
                    first
                    | (exfalso; simp at hb5; done)
                    | (exfalso; simp at hb5; omega)
                    | (
                      refine SW.regionK fun K hK => ?_
                      simp -implicitDefEqProofs
                      first | refine hK _ ?_ | refine ⟨by omega, hK _ ?_⟩ | refine ⟨by omega, by omega, hK _ ?_⟩
                      clear hK K
                      refine SW.ret ?_
                      simp [Ex.then, Ex.inBlock]
                      all_goals (try simp_all)))
              rotate_right
              case' _ =>
                intro hb4
                first
                | (exfalso; simp at hb4; done)
                | (exfalso; simp at hb4; omega)
                | (
                  refine SW.regionK fun K hK => ?_
                  simp -implicitDefEqProofs
                  first | refine hK _ ?_ | refine ⟨by omega, hK _ ?_⟩ | refine ⟨by omega, by omega, hK _ ?_⟩
                  clear hK K
                  refine SW.ret ?_
                  simp [Ex.then, Ex.inBlock]
                  all_goals (try simp_all)))
          rotate_right
          case' _ =>
            intro hb3
            first
            | (exfalso; simp at hb3; done)
            | (exfalso; simp at hb3; omega)
            | (
              refine SW.regionK fun K hK => ?_
              simp -implicitDefEqProofs
              first | refine hK _ ?_ | refine ⟨by omega, hK _ ?_⟩ | refine ⟨by omega, by omega, hK _ ?_⟩
              clear hK K
              refine SW.ret ?_
              simp [Ex.then, Ex.inBlock]
              all_goals (try simp_all)))
      rotate_right
      case' _ =>
        intro hb2
        first
        | (exfalso; simp at hb2; done)
        | (exfalso; simp at hb2; omega)
        | (
          refine SW.regionK fun K hK => ?_
          simp -implicitDefEqProofs
          first | refine hK _ ?_ | refine ⟨by omega, hK _ ?_⟩ | refine ⟨by omega, by omega, hK _ ?_⟩
          clear hK K
          refine SW.ret ?_
          simp [Ex.then, Ex.inBlock]
          all_goals (try simp_all)))
  rotate_right
  case' _ =>
    intro hb1
    first
    | (exfalso; simp at hb1; done)
    | (exfalso; simp at hb1; omega)
    | (
      refine SW.regionK fun K hK => ?_
      simp -implicitDefEqProofs
      first | refine hK _ ?_ | refine ⟨by omega, hK _ ?_⟩ | refine ⟨by omega, by omega, hK _ ?_⟩
      clear hK K
      refine SW.ret ?_
      simp [Ex.then, Ex.inBlock]
      all_goals (try simp_all))
set_option maxHeartbeats 1000000 in
theorem law_readSome_no (l : List Int) (hb : ∀ x ∈ l, isB x) (hr : readL l 4 0 0 = none) : Fn Try.prog 9 [.fz (YS l)] (.bool true) := by
  refine Fn.intro Try.func9 (by decide) rfl (rs := [.tmp 2]) rfl Try.ntmps9 (by simp) ?_
  refine SW.regionK fun K hK => ?_
  simp -implicitDefEqProofs
  first | refine hK _ ?_ | refine ⟨by omega, hK _ ?_⟩ | refine ⟨by omega, by omega, hK _ ?_⟩
  clear hK K
  refine SW.seqK fun K1 hK1 => ?_
  refine SW.regionK fun K hK => ?_
  simp -implicitDefEqProofs
  first | refine hK _ ?_ | refine ⟨by omega, hK _ ?_⟩ | refine ⟨by omega, by omega, hK _ ?_⟩
  clear hK K
  refine SW.cond _ rfl (by simp) ?_ ?_
  case' refine_2 =>
    intro hb1
    have hl : l.length ≤ 1048576 := by simp at hb1; omega
    first
    | (exfalso; simp at hb1; done)
    | (exfalso; simp at hb1; omega)
    | (
      refine SW.skip ?_
      refine hK1 _ ?_
      refine SW.regionK fun K hK => ?_
      simp -implicitDefEqProofs
      first | refine ⟨by omega, by omega, ?_⟩ | refine ⟨by omega, ?_⟩ | skip
      first
        | refine CallQ.fz (toByteS_ok l hl) ?_
        | refine CallK.fz (toByteS_ok l hl) ?_
      simp -implicitDefEqProofs
      first | refine ⟨by omega, by omega, ?_⟩ | refine ⟨by omega, ?_⟩ | skip
      refine CallK.fzE (readSome_sn (by omega) hb hr) (by simp) ?_
      simp -implicitDefEqProofs
      first | refine hK _ ?_ | refine ⟨by omega, hK _ ?_⟩ | refine ⟨by omega, by omega, hK _ ?_⟩
      clear hK K
      refine SW.regionK fun K hK => ?_
      simp -implicitDefEqProofs
      first | refine ⟨by omega, by omega, ?_⟩ | refine ⟨by omega, ?_⟩ | skip
      refine CallK.im (toByteS_ok l hl) (YS_okI _) ?_
      simp -implicitDefEqProofs
      first | refine hK _ ?_ | refine ⟨by omega, hK _ ?_⟩ | refine ⟨by omega, by omega, hK _ ?_⟩
      clear hK K
      refine SW.regionK fun K hK => ?_
      simp -implicitDefEqProofs
      first | refine ⟨by omega, by omega, ?_⟩ | refine ⟨by omega, ?_⟩ | skip
      refine CallK.fzE (readSome_in (by omega) hb hr) (by simp) ?_
      simp -implicitDefEqProofs
      first | refine hK _ ?_ | refine ⟨by omega, hK _ ?_⟩ | refine ⟨by omega, by omega, hK _ ?_⟩
      clear hK K
      refine SW.seqK fun K2 hK2 => ?_
      refine SW.regionK fun K hK => ?_
      simp -implicitDefEqProofs
      first | refine ⟨by omega, by omega, ?_⟩ | refine ⟨by omega, ?_⟩ | skip
      refine CallK.fzE (eqDeedS_nil) (by simp) ?_
      simp -implicitDefEqProofs
      first | refine hK _ ?_ | refine ⟨by omega, hK _ ?_⟩ | refine ⟨by omega, by omega, hK _ ?_⟩
      clear hK K
      refine SW.cond _ rfl (by simp) ?_ ?_
      case' refine_2 =>
        intro hb2
        first
        | (exfalso; simp at hb2; done)
        | (exfalso; simp at hb2; omega)
        | (
          refine SW.skip ?_
          refine hK2 _ ?_
          refine SW.seqK fun K3 hK3 => ?_
          refine SW.regionK fun K hK => ?_
          simp -implicitDefEqProofs
          first | refine ⟨by omega, by omega, ?_⟩ | refine ⟨by omega, ?_⟩ | skip
          first
            | refine CallQ.fz (toByteS_ok l hl) ?_
            | refine CallK.fz (toByteS_ok l hl) ?_
          simp -implicitDefEqProofs
          first | refine ⟨by omega, by omega, ?_⟩ | refine ⟨by omega, ?_⟩ | skip
          refine CallK.fzE (eqByteS_ok l (by omega)) (by simp) ?_
          simp -implicitDefEqProofs
          first | refine hK _ ?_ | refine ⟨by omega, hK _ ?_⟩ | refine ⟨by omega, by omega, hK _ ?_⟩
          clear hK K
          refine SW.cond _ rfl (by simp) ?_ ?_
          case' refine_2 =>
            intro hb3
            first
            | (exfalso; simp at hb3; done)
            | (exfalso; simp at hb3; omega)
            | (
              refine SW.skip ?_
              refine hK3 _ ?_
              refine SW.regionK fun K hK => ?_
              simp -implicitDefEqProofs
              first | refine hK _ ?_ | refine ⟨by omega, hK _ ?_⟩ | refine ⟨by omega, by omega, hK _ ?_⟩
              clear hK K
              refine SW.regionK fun K hK => ?_
              simp -implicitDefEqProofs
              first | refine ⟨by omega, by omega, ?_⟩ | refine ⟨by omega, ?_⟩ | skip
              refine CallS.mono (mark_byteS' l 1 _ 0 _ rfl (by simp) rfl (by omega) (by omega) (by omega)) ?_
              rintro o h' ⟨rfl, rfl⟩
              simp -implicitDefEqProofs
              first | refine hK _ ?_ | refine ⟨by omega, hK _ ?_⟩ | refine ⟨by omega, by omega, hK _ ?_⟩
              clear hK K
              refine SW.seqK fun K4 hK4 => ?_
              refine SW.regionK fun K hK => ?_
              simp -implicitDefEqProofs
              first | refine ⟨by omega, by omega, ?_⟩ | refine ⟨by omega, ?_⟩ | skip
              refine CallG.fzE (by simp) (fun _ => eqDeedS_nil) (by simp) ?_
              simp -implicitDefEqProofs
              first | refine hK _ ?_ | refine ⟨by omega, hK _ ?_⟩ | refine ⟨by omega, by omega, hK _ ?_⟩
              clear hK K
              refine SW.cond _ rfl (by simp) ?_ ?_
              case' refine_2 =>
                intro hb4
                first
                | (exfalso; simp at hb4; done)
                | (exfalso; simp at hb4; omega)
                | (
                  refine SW.skip ?_
                  refine hK4 _ ?_
                  refine SW.regionK fun K hK => ?_
                  simp -implicitDefEqProofs
                  first | refine hK _ ?_ | refine ⟨by omega, hK _ ?_⟩ | refine ⟨by omega, by omega, hK _ ?_⟩
                  clear hK K
                  refine SW.regionK fun K hK => ?_
                  simp -implicitDefEqProofs
                  first | refine ⟨by omega, by omega, ?_⟩ | refine ⟨by omega, ?_⟩ | skip
                  refine CallS.mono (mark_deedS_nil _ 1) ?_
                  rintro o h' ⟨rfl, rfl⟩
                  simp -implicitDefEqProofs
                  first | refine hK _ ?_ | refine ⟨by omega, hK _ ?_⟩ | refine ⟨by omega, by omega, hK _ ?_⟩
                  clear hK K
                  refine SW.regionK fun K hK => ?_
                  simp -implicitDefEqProofs
                  first | refine hK _ ?_ | refine ⟨by omega, hK _ ?_⟩ | refine ⟨by omega, by omega, hK _ ?_⟩
                  clear hK K
                  refine SW.regionK fun K hK => ?_
                  simp -implicitDefEqProofs
                  first | refine ⟨by omega, by omega, ?_⟩ | refine ⟨by omega, ?_⟩ | skip
                  refine CallK.fzE (held_deedS_nil) (by simp) ?_
                  simp -implicitDefEqProofs
                  first | refine hK _ ?_ | refine ⟨by omega, hK _ ?_⟩ | refine ⟨by omega, by omega, hK _ ?_⟩
                  clear hK K
                  refine SW.seqK fun K5 hK5 => ?_
                  refine SW.regionK fun K hK => ?_
                  simp -implicitDefEqProofs
                  first | refine hK _ ?_ | refine ⟨by omega, hK _ ?_⟩ | refine ⟨by omega, by omega, hK _ ?_⟩
                  clear hK K
                  refine SW.cond _ rfl (by simp) ?_ ?_
                  case' refine_2 =>
                    intro hb5
                    first
                    | (exfalso; simp at hb5; done)
                    | (exfalso; simp at hb5; omega)
                    | (
                      refine SW.skip ?_
                      refine hK5 _ ?_
                      refine SW.seqK fun K6 hK6 => ?_
                      refine SW.regionK fun K hK => ?_
                      simp -implicitDefEqProofs
                      first | refine hK _ ?_ | refine ⟨by omega, hK _ ?_⟩ | refine ⟨by omega, by omega, hK _ ?_⟩
                      clear hK K
                      refine SW.cond _ rfl (by simp) ?_ ?_
                      case' refine_2 =>
                        intro hb6
                        first
                        | (exfalso; simp at hb6; done)
                        | (exfalso; simp at hb6; omega)
                        | (
                          refine SW.skip ?_
                          refine hK6 _ ?_
                          refine SW.regionK fun K hK => ?_
                          simp -implicitDefEqProofs
                          first | refine ⟨by omega, by omega, ?_⟩ | refine ⟨by omega, ?_⟩ | skip
                          first
                            | refine CallQ.fz (toByteS_ok l hl) ?_
                            | refine CallK.fz (toByteS_ok l hl) ?_
                          simp -implicitDefEqProofs
                          first | refine ⟨by omega, by omega, ?_⟩ | refine ⟨by omega, ?_⟩ | skip
                          refine CallK.fzE (readSome_in (by omega) hb hr) (by simp) ?_
                          simp -implicitDefEqProofs
                          first | refine hK _ ?_ | refine ⟨by omega, hK _ ?_⟩ | refine ⟨by omega, by omega, hK _ ?_⟩
                          clear hK K
                          refine SW.seqK fun K7 hK7 => ?_
                          refine SW.regionK fun K hK => ?_
                          simp -implicitDefEqProofs
                          first | refine ⟨by omega, by omega, ?_⟩ | refine ⟨by omega, ?_⟩ | skip
                          refine CallK.fzE (eqDeedS_nil) (by simp) ?_
                          simp -implicitDefEqProofs
                          first | refine hK _ ?_ | refine ⟨by omega, hK _ ?_⟩ | refine ⟨by omega, by omega, hK _ ?_⟩
                          clear hK K
                          refine SW.cond _ rfl (by simp) ?_ ?_
                          case' refine_2 =>
                            intro hb7
                            first
                            | (exfalso; simp at hb7; done)
                            | (exfalso; simp at hb7; omega)
                            | (
                              refine SW.skip ?_
                              refine hK7 _ ?_
                              refine SW.regionK fun K hK => ?_
                              simp -implicitDefEqProofs
                              first | refine hK _ ?_ | refine ⟨by omega, hK _ ?_⟩ | refine ⟨by omega, by omega, hK _ ?_⟩
                              clear hK K
                              refine SW.regionK fun K hK => ?_
                              simp -implicitDefEqProofs
                              first | refine ⟨by omega, by omega, ?_⟩ | refine ⟨by omega, ?_⟩ | skip
                              refine CallK.fzE (held_deedS_nil) (by simp) ?_
                              simp -implicitDefEqProofs
                              first | refine hK _ ?_ | refine ⟨by omega, hK _ ?_⟩ | refine ⟨by omega, by omega, hK _ ?_⟩
                              clear hK K
                              refine SW.seqK fun K8 hK8 => ?_
                              refine SW.regionK fun K hK => ?_
                              simp -implicitDefEqProofs
                              first | refine hK _ ?_ | refine ⟨by omega, hK _ ?_⟩ | refine ⟨by omega, by omega, hK _ ?_⟩
                              clear hK K
                              refine SW.cond _ rfl (by simp) ?_ ?_
                              case' refine_2 =>
                                intro hb8
                                first
                                | (exfalso; simp at hb8; done)
                                | (exfalso; simp at hb8; omega)
                                | (
                                  refine SW.skip ?_
                                  refine hK8 _ ?_
                                  refine SW.seqK fun K9 hK9 => ?_
                                  refine SW.regionK fun K hK => ?_
                                  simp -implicitDefEqProofs
                                  first | refine hK _ ?_ | refine ⟨by omega, hK _ ?_⟩ | refine ⟨by omega, by omega, hK _ ?_⟩
                                  clear hK K
                                  refine SW.cond _ rfl (by simp) ?_ ?_
                                  case' refine_2 =>
                                    intro hb9
                                    first
                                    | (exfalso; simp at hb9; done)
                                    | (exfalso; simp at hb9; omega)
                                    | (
                                      refine SW.skip ?_
                                      refine hK9 _ ?_
                                      refine SW.regionK fun K hK => ?_
                                      simp -implicitDefEqProofs
                                      first | refine hK _ ?_ | refine ⟨by omega, hK _ ?_⟩ | refine ⟨by omega, by omega, hK _ ?_⟩
                                      clear hK K
                                      refine SW.ret ?_
                                      simp [Ex.then, Ex.inBlock]
                                      all_goals (try simp_all))
                                  rotate_right
                                  case' _ =>
                                    intro hb9
                                    first
                                    | (exfalso; simp at hb9; done)
                                    | (exfalso; simp at hb9; omega)
                                    | (
                                      refine SW.regionK fun K hK => ?_
                                      simp -implicitDefEqProofs
                                      first | refine hK _ ?_ | refine ⟨by omega, hK _ ?_⟩ | refine ⟨by omega, by omega, hK _ ?_⟩
                                      clear hK K
                                      refine SW.ret ?_
                                      simp [Ex.then, Ex.inBlock]
                                      all_goals (try simp_all)))
                              rotate_right
                              case' _ =>
                                intro hb8
                                first
                                | (exfalso; simp at hb8; done)
                                | (exfalso; simp at hb8; omega)
                                | (
                                  refine SW.regionK fun K hK => ?_
                                  simp -implicitDefEqProofs
                                  first | refine hK _ ?_ | refine ⟨by omega, hK _ ?_⟩ | refine ⟨by omega, by omega, hK _ ?_⟩
                                  clear hK K
                                  refine SW.ret ?_
                                  simp [Ex.then, Ex.inBlock]
                                  all_goals (try simp_all)))
                          rotate_right
                          case' _ =>
                            intro hb7
                            first
                            | (exfalso; simp at hb7; done)
                            | (exfalso; simp at hb7; omega)
                            | (
                              refine SW.regionK fun K hK => ?_
                              simp -implicitDefEqProofs
                              first | refine hK _ ?_ | refine ⟨by omega, hK _ ?_⟩ | refine ⟨by omega, by omega, hK _ ?_⟩
                              clear hK K
                              refine SW.ret ?_
                              simp [Ex.then, Ex.inBlock]
                              all_goals (try simp_all)))
                      rotate_right
                      case' _ =>
                        intro hb6
                        first
                        | (exfalso; simp at hb6; done)
                        | (exfalso; simp at hb6; omega)
                        | (
                          refine SW.regionK fun K hK => ?_
                          simp -implicitDefEqProofs
                          first | refine hK _ ?_ | refine ⟨by omega, hK _ ?_⟩ | refine ⟨by omega, by omega, hK _ ?_⟩
                          clear hK K
                          refine SW.ret ?_
                          simp [Ex.then, Ex.inBlock]
                          all_goals (try simp_all)))
                  rotate_right
                  case' _ =>
                    intro hb5
                    first
                    | (exfalso; simp at hb5; done)
                    | (exfalso; simp at hb5; omega)
                    | (
                      refine SW.regionK fun K hK => ?_
                      simp -implicitDefEqProofs
                      first | refine hK _ ?_ | refine ⟨by omega, hK _ ?_⟩ | refine ⟨by omega, by omega, hK _ ?_⟩
                      clear hK K
                      refine SW.ret ?_
                      simp [Ex.then, Ex.inBlock]
                      all_goals (try simp_all)))
              rotate_right
              case' _ =>
                intro hb4
                first
                | (exfalso; simp at hb4; done)
                | (exfalso; simp at hb4; omega)
                | (
                  refine SW.regionK fun K hK => ?_
                  simp -implicitDefEqProofs
                  first | refine hK _ ?_ | refine ⟨by omega, hK _ ?_⟩ | refine ⟨by omega, by omega, hK _ ?_⟩
                  clear hK K
                  refine SW.ret ?_
                  simp [Ex.then, Ex.inBlock]
                  all_goals (try simp_all)))
          rotate_right
          case' _ =>
            intro hb3
            first
            | (exfalso; simp at hb3; done)
            | (exfalso; simp at hb3; omega)
            | (
              refine SW.regionK fun K hK => ?_
              simp -implicitDefEqProofs
              first | refine hK _ ?_ | refine ⟨by omega, hK _ ?_⟩ | refine ⟨by omega, by omega, hK _ ?_⟩
              clear hK K
              refine SW.ret ?_
              simp [Ex.then, Ex.inBlock]
              all_goals (try simp_all)))
      rotate_right
      case' _ =>
        intro hb2
        first
        | (exfalso; simp at hb2; done)
        | (exfalso; simp at hb2; omega)
        | (
          refine SW.regionK fun K hK => ?_
          simp -implicitDefEqProofs
          first | refine hK _ ?_ | refine ⟨by omega, hK _ ?_⟩ | refine ⟨by omega, by omega, hK _ ?_⟩
          clear hK K
          refine SW.ret ?_
          simp [Ex.then, Ex.inBlock]
          all_goals (try simp_all)))
  rotate_right
  case' _ =>
    intro hb1
    first
    | (exfalso; simp at hb1; done)
    | (exfalso; simp at hb1; omega)
    | (
      refine SW.regionK fun K hK => ?_
      simp -implicitDefEqProofs
      first | refine hK _ ?_ | refine ⟨by omega, hK _ ?_⟩ | refine ⟨by omega, by omega, hK _ ?_⟩
      clear hK K
      refine SW.ret ?_
      simp [Ex.then, Ex.inBlock]
      all_goals (try simp_all))
theorem law_readSome (l : List Int) (hb : ∀ x ∈ l, isB x) : Fn Try.prog 9 [.fz (YS l)] (.bool true) := by
  cases hr : readL l 4 0 0 with
  | some r => exact law_readSome_yes l r hb hr (readL_len hr)
  | none => exact law_readSome_no l hb hr
end HS
