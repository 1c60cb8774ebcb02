/-
  My own text (road H): HS5.
-/
import Derived.Test.YteeefpifkepbpaaHS4
set_option linter.unusedSimpArgs false
namespace HS
open Go Go.Proofs HK
theorem mark_byteS' (l : List Int) (s : Int) (h : Heap) (id n : Nat) (hn : l.length = n) (hid : id < h.length) (hh : hb h id = some ⟨1, YS l⟩) (hl : n ≤ 2 ^ 40) (hs : 0 ≤ s) (hs2 : s ≤ 2 ^ 50) :
    CallS Try.prog 19 [.sl id 0 n, .int .i64 s] h (fun o h' => o = .int .i64 (s + (n : Int)) ∧ h' = h.set id (some ⟨1, YS (mkY s n)⟩)) := by
  subst hn; exact mark_byteS l s h id hid hh hl hs hs2
theorem packEv_yes {l : List Int} {last : Int} {d : Deed} (h : packOk last d = true) : packEv l last d = .tup [.own 1 (YS (l ++ packB last d)), .bool true] := by rw [packEv, if_pos h]
theorem packEv_no {l : List Int} {last : Int} {d : Deed} (h : packOk last d = false) : packEv l last d = .tup [.nil, .bool false] := by rw [packEv, if_neg (by simp [h])]
theorem packEvent_sy (l : List Int) (last : Int) (d : Deed) (hl : l.length ≤ 2 ^ 29) (h : packOk last d = true) : Fn Try.prog 14 [.fz (YS l), .int .i64 last, .agg d.c] (.tup [.own 1 (YS (l ++ packB last d)), .bool true]) := by rw [← packEv_yes h]; exact packEvent_spec l last d hl
theorem packEvent_iy (l : List Int) (last : Int) (d : Deed) (hl : l.length ≤ 2 ^ 29) (h : packOk last d = true) : Fn Try.prog 17 [.fz (YS l), .int .i64 last, .agg d.c] (.tup [.own 1 (YS (l ++ packB last d)), .bool true]) := by rw [← packEv_yes h]; exact packEvent_impl l last d hl
theorem packEvent_sn (l : List Int) (last : Int) (d : Deed) (hl : l.length ≤ 2 ^ 29) (h : packOk last d = false) : Fn Try.prog 14 [.fz (YS l), .int .i64 last, .agg d.c] (.tup [.nil, .bool false]) := by rw [← packEv_no (l := l) h]; exact packEvent_spec l last d hl
theorem packEvent_in (l : List Int) (last : Int) (d : Deed) (hl : l.length ≤ 2 ^ 29) (h : packOk last d = false) : Fn Try.prog 17 [.fz (YS l), .int .i64 last, .agg d.c] (.tup [.nil, .bool false]) := by rw [← packEv_no (l := l) h]; exact packEvent_impl l last d hl
theorem packB_len {last : Int} {d : Deed} (h : packOk last d = true) : (packB last d).length ≤ 20 := by
  simp [packOk] at h
  have hz : zigOk (d.g - last) = true := by have := h.1; simp [headOk] at this; exact this.1.2
  have h1 := packPre_len (l := []) hz 3 (by omega) (by rw [List.take_of_length_le (by simp)]; simpa using h.2)
  rw [packPre_all] at h1
  simpa using h1
set_option maxHeartbeats 1000000 in
theorem law_pack_yes (l : List Int) (last : Int) (d : Deed) (hp : packOk last d = true) (hq : (packB last d).length ≤ 20) : Fn Try.prog 3 [.fz (YS l), .int .i64 last, .agg d.c] (.bool true) := by
  refine Fn.intro Try.func3 (by decide) rfl (rs := [.tmp 6]) rfl Try.ntmps3 (by simp) ?_
  refine SW.regionK fun K hK => ?_
  simp -implicitDefEqProofs
  first | refine hK _ ?_ | refine ⟨by omega, hK _ ?_⟩ | refine ⟨by omega, by omega, hK _ ?_⟩
  clear hK K
  refine SW.seqK fun K1 hK1 => ?_
  refine SW.regionK fun K hK => ?_
  simp -implicitDefEqProofs
  first | refine hK _ ?_ | refine ⟨by omega, hK _ ?_⟩ | refine ⟨by omega, by omega, hK _ ?_⟩
  clear hK K
  refine SW.cond _ rfl (by simp) ?_ ?_
  case' refine_2 =>
    intro hb1
    have hl : l.length ≤ 1048576 := by simp at hb1; omega
    first
    | (exfalso; simp at hb1; done)
    | (exfalso; simp at hb1; omega)
    | (
      refine SW.skip ?_
      refine hK1 _ ?_
      refine SW.drawK mixed [.q [(0, false), (1, false), (2, false), (3, false), (4, false), (5, false), (6, false), (7, false), (8, false), (9, false), (10, false)]] (by kernel_rfl) rfl fun K hK => ?_
      simp -implicitDefEqProofs
      first | refine ⟨by omega, by omega, ?_⟩ | refine ⟨by omega, ?_⟩ | skip
      refine CallQ.fz (toByteS_ok l hl) ?_
      simp -implicitDefEqProofs
      first | refine ⟨by omega, by omega, ?_⟩ | refine ⟨by omega, ?_⟩ | skip
      refine CallQ.fz (toDeed_ok d) ?_
      simp -implicitDefEqProofs
      first | refine ⟨by omega, by omega, ?_⟩ | refine ⟨by omega, ?_⟩ | skip
      refine CallQ.fzE (packEvent_sy l last d (by omega) hp) (by simp) ?_
      simp -implicitDefEqProofs
      first | refine hK _ ?_ | refine ⟨by omega, hK _ ?_⟩ | refine ⟨by omega, by omega, hK _ ?_⟩
      clear hK K
      refine SW.regionK fun K hK => ?_
      simp -implicitDefEqProofs
      first | refine ⟨by omega, by omega, ?_⟩ | refine ⟨by omega, ?_⟩ | skip
      refine CallK.im (toByteS_ok l hl) (YS_okI _) ?_
      simp -implicitDefEqProofs
      first | refine hK _ ?_ | refine ⟨by omega, hK _ ?_⟩ | refine ⟨by omega, by omega, hK _ ?_⟩
      clear hK K
      refine SW.regionK fun K hK => ?_
      simp -implicitDefEqProofs
      first | refine ⟨by omega, by omega, ?_⟩ | refine ⟨by omega, ?_⟩ | skip
      refine CallK.fz (toDeed_ok d) ?_
      simp -implicitDefEqProofs
      first | refine ⟨by omega, by omega, ?_⟩ | refine ⟨by omega, ?_⟩ | skip
      refine CallK.imE (packEvent_iy l last d (by omega) hp) (by simp) (tupB_okI _) ?_
      simp -implicitDefEqProofs
      first | refine hK _ ?_ | refine ⟨by omega, hK _ ?_⟩ | refine ⟨by omega, by omega, hK _ ?_⟩
      clear hK K
      refine SW.seqK fun K2 hK2 => ?_
      refine SW.regionK fun K hK => ?_
      simp -implicitDefEqProofs
      first | refine ⟨by omega, by omega, ?_⟩ | refine ⟨by omega, ?_⟩ | skip
      refine CallK.fzE (eqByteS_ok (l ++ packB last d) (by simp; omega)) (by simp) ?_
      simp -implicitDefEqProofs
      first | refine hK _ ?_ | refine ⟨by omega, hK _ ?_⟩ | refine ⟨by omega, by omega, hK _ ?_⟩
      clear hK K
      refine SW.cond _ rfl (by simp) ?_ ?_
      case' refine_2 =>
        intro hb2
        first
        | (exfalso; simp at hb2; done)
        | (exfalso; simp at hb2; omega)
        | (
          refine SW.skip ?_
          refine hK2 _ ?_
          refine SW.seqK fun K3 hK3 => ?_
          refine SW.regionK fun K hK => ?_
          simp -implicitDefEqProofs
          first | refine ⟨by omega, by omega, ?_⟩ | refine ⟨by omega, ?_⟩ | skip
          refine CallK.fz (toByteS_ok l hl) ?_
          simp -implicitDefEqProofs
          first | refine ⟨by omega, by omega, ?_⟩ | refine ⟨by omega, ?_⟩ | skip
          refine CallK.fzE (eqByteS_ok l (by omega)) (by simp) ?_
          simp -implicitDefEqProofs
          first | refine hK _ ?_ | refine ⟨by omega, hK _ ?_⟩ | refine ⟨by omega, by omega, hK _ ?_⟩
          clear hK K
          refine SW.cond _ rfl (by simp) ?_ ?_
          case' refine_2 =>
            intro hb3
            first
            | (exfalso; simp at hb3; done)
            | (exfalso; simp at hb3; omega)
            | (
              refine SW.skip ?_
              refine hK3 _ ?_
              refine SW.regionK fun K hK => ?_
              simp -implicitDefEqProofs
              first | refine hK _ ?_ | refine ⟨by omega, hK _ ?_⟩ | refine ⟨by omega, by omega, hK _ ?_⟩
              clear hK K
              refine SW.regionK fun K hK => ?_
              simp -implicitDefEqProofs
              first | refine ⟨by omega, by omega, ?_⟩ | refine ⟨by omega, ?_⟩ | skip
              refine CallS.mono (mark_byteS' l 1 _ 1 _ rfl (by simp) rfl (by omega) (by omega) (by omega)) ?_
              rintro o h' ⟨rfl, rfl⟩
              simp -implicitDefEqProofs
              first | refine hK _ ?_ | refine ⟨by omega, hK _ ?_⟩ | refine ⟨by omega, by omega, hK _ ?_⟩
              clear hK K
              refine SW.seqK fun K4 hK4 => ?_
              refine SW.regionK fun K hK => ?_
              simp -implicitDefEqProofs
              first | refine ⟨by omega, by omega, ?_⟩ | refine ⟨by omega, ?_⟩ | skip
              refine CallG.fzE (by simp) (fun _ => eqByteS_ok (l ++ packB last d) (by simp; omega)) (by simp) ?_
              simp -implicitDefEqProofs
              first | refine hK _ ?_ | refine ⟨by omega, hK _ ?_⟩ | refine ⟨by omega, by omega, hK _ ?_⟩
              clear hK K
              refine SW.cond _ rfl (by simp) ?_ ?_
              case' refine_2 =>
                intro hb4
                first
                | (exfalso; simp at hb4; done)
                | (exfalso; simp at hb4; omega)
                | (
                  refine SW.skip ?_
                  refine hK4 _ ?_
                  refine SW.regionK fun K hK => ?_
                  simp -implicitDefEqProofs
                  first | refine hK _ ?_ | refine ⟨by omega, hK _ ?_⟩ | refine ⟨by omega, by omega, hK _ ?_⟩
                  clear hK K
                  refine SW.regionK fun K hK => ?_
                  simp -implicitDefEqProofs
                  first | refine ⟨by omega, by omega, ?_⟩ | refine ⟨by omega, ?_⟩ | skip
                  refine CallS.mono (mark_byteS' (l ++ packB last d) 1 _ 2 _ (by simp) (by simp) rfl (by omega) (by omega) (by omega)) ?_
                  rintro o h' ⟨rfl, rfl⟩
                  simp -implicitDefEqProofs
                  first | refine hK _ ?_ | refine ⟨by omega, hK _ ?_⟩ | refine ⟨by omega, by omega, hK _ ?_⟩
                  clear hK K
                  refine SW.regionK fun K hK => ?_
                  simp -implicitDefEqProofs
                  first | refine hK _ ?_ | refine ⟨by omega, hK _ ?_⟩ | refine ⟨by omega, by omega, hK _ ?_⟩
                  clear hK K
                  refine SW.regionK fun K hK => ?_
                  simp -implicitDefEqProofs
                  first | refine ⟨by omega, by omega, ?_⟩ | refine ⟨by omega, ?_⟩ | skip
                  refine CallK.fzE (held_byteS (l.length + (packB last d).length) 1 (by omega) (by omega) (by omega)) (by simp) ?_
                  simp -implicitDefEqProofs
                  first | refine hK _ ?_ | refine ⟨by omega, hK _ ?_⟩ | refine ⟨by omega, by omega, hK _ ?_⟩
                  clear hK K
                  refine SW.seqK fun K5 hK5 => ?_
                  refine SW.regionK fun K hK => ?_
                  simp -implicitDefEqProofs
                  first | refine hK _ ?_ | refine ⟨by omega, hK _ ?_⟩ | refine ⟨by omega, by omega, hK _ ?_⟩
                  clear hK K
                  refine SW.cond _ rfl (by simp) ?_ ?_
                  case' refine_2 =>
                    intro hb5
                    first
                    | (exfalso; simp at hb5; done)
                    | (exfalso; simp at hb5; omega)
                    | (
                      refine SW.skip ?_
                      refine hK5 _ ?_
                      refine SW.seqK fun K6 hK6 => ?_
                      refine SW.regionK fun K hK => ?_
                      simp -implicitDefEqProofs
                      first | refine hK _ ?_ | refine ⟨by omega, hK _ ?_⟩ | refine ⟨by omega, by omega, hK _ ?_⟩
                      clear hK K
                      refine SW.cond _ rfl (by simp) ?_ ?_
                      case' refine_2 =>
                        intro hb6
                        first
                        | (exfalso; simp at hb6; done)
                        | (exfalso; simp at hb6; omega)
                        | (
                          refine SW.skip ?_
                          refine hK6 _ ?_
                          refine SW.drawK mixed [.q [(0, false), (1, false), (2, false), (3, false), (4, false), (5, false), (6, false), (7, false), (8, false), (9, false), (10, false)]] (by kernel_rfl) rfl fun K hK => ?_
                          simp -implicitDefEqProofs
                          first | refine ⟨by omega, by omega, ?_⟩ | refine ⟨by omega, ?_⟩ | skip
                          refine CallQ.fz (toByteS_ok l hl) ?_
                          simp -implicitDefEqProofs
                          first | refine ⟨by omega, by omega, ?_⟩ | refine ⟨by omega, ?_⟩ | skip
                          refine CallQ.fz (toDeed_ok d) ?_
                          simp -implicitDefEqProofs
                          first | refine ⟨by omega, by omega, ?_⟩ | refine ⟨by omega, ?_⟩ | skip
                          refine CallQ.fzE (packEvent_iy l last d (by omega) hp) (by simp) ?_
                          simp -implicitDefEqProofs
                          first | refine hK _ ?_ | refine ⟨by omega, hK _ ?_⟩ | refine ⟨by omega, by omega, hK _ ?_⟩
                          clear hK K
                          refine SW.seqK fun K7 hK7 => ?_
                          refine SW.regionK fun K hK => ?_
                          simp -implicitDefEqProofs
                          first | refine ⟨by omega, by omega, ?_⟩ | refine ⟨by omega, ?_⟩ | skip
                          refine CallK.fzE (eqByteS_ok (l ++ packB last d) (by simp; omega)) (by simp) ?_
                          simp -implicitDefEqProofs
                          first | refine hK _ ?_ | refine ⟨by omega, hK _ ?_⟩ | refine ⟨by omega, by omega, hK _ ?_⟩
                          clear hK K
                          refine SW.cond _ rfl (by simp) ?_ ?_
                          case' refine_2 =>
                            intro hb7
                            first
                            | (exfalso; simp at hb7; done)
                            | (exfalso; simp at hb7; omega)
                            | (
                              refine SW.skip ?_
                              refine hK7 _ ?_
                              refine SW.regionK fun K hK => ?_
                              simp -implicitDefEqProofs
                              first | refine hK _ ?_ | refine ⟨by omega, hK _ ?_⟩ | refine ⟨by omega, by omega, hK _ ?_⟩
                              clear hK K
                              refine SW.regionK fun K hK => ?_
                              simp -implicitDefEqProofs
                              first | refine ⟨by omega, by omega, ?_⟩ | refine ⟨by omega, ?_⟩ | skip
                              refine CallK.fzE (held_byteS (l.length + (packB last d).length) 1 (by omega) (by omega) (by omega)) (by simp) ?_
                              simp -implicitDefEqProofs
                              first | refine hK _ ?_ | refine ⟨by omega, hK _ ?_⟩ | refine ⟨by omega, by omega, hK _ ?_⟩
                              clear hK K
                              refine SW.seqK fun K8 hK8 => ?_
                              refine SW.regionK fun K hK => ?_
                              simp -implicitDefEqProofs
                              first | refine hK _ ?_ | refine ⟨by omega, hK _ ?_⟩ | refine ⟨by omega, by omega, hK _ ?_⟩
                              clear hK K
                              refine SW.cond _ rfl (by simp) ?_ ?_
                              case' refine_2 =>
                                intro hb8
                                first
                                | (exfalso; simp at hb8; done)
                                | (exfalso; simp at hb8; omega)
                                | (
                                  refine SW.skip ?_
                                  refine hK8 _ ?_
                                  refine SW.seqK fun K9 hK9 => ?_
                                  refine SW.regionK fun K hK => ?_
                                  simp -implicitDefEqProofs
                                  first | refine hK _ ?_ | refine ⟨by omega, hK _ ?_⟩ | refine ⟨by omega, by omega, hK _ ?_⟩
                                  clear hK K
                                  refine SW.cond _ rfl (by simp) ?_ ?_
                                  case' refine_2 =>
                                    intro hb9
                                    first
                                    | (exfalso; simp at hb9; done)
                                    | (exfalso; simp at hb9; omega)
                                    | (
                                      refine SW.skip ?_
                                      refine hK9 _ ?_
                                      refine SW.regionK fun K hK => ?_
                                      simp -implicitDefEqProofs
                                      first | refine hK _ ?_ | refine ⟨by omega, hK _ ?_⟩ | refine ⟨by omega, by omega, hK _ ?_⟩
                                      clear hK K
                                      refine SW.ret ?_
                                      simp [Ex.then, Ex.inBlock])
                                  rotate_right
                                  case' _ =>
                                    intro hb9
                                    first
                                    | (exfalso; simp at hb9; done)
                                    | (exfalso; simp at hb9; omega)
                                    | (
                                      refine SW.regionK fun K hK => ?_
                                      simp -implicitDefEqProofs
                                      first | refine hK _ ?_ | refine ⟨by omega, hK _ ?_⟩ | refine ⟨by omega, by omega, hK _ ?_⟩
                                      clear hK K
                                      refine SW.ret ?_
                                      simp [Ex.then, Ex.inBlock]))
                              rotate_right
                              case' _ =>
                                intro hb8
                                first
                                | (exfalso; simp at hb8; done)
                                | (exfalso; simp at hb8; omega)
                                | (
                                  refine SW.regionK fun K hK => ?_
                                  simp -implicitDefEqProofs
                                  first | refine hK _ ?_ | refine ⟨by omega, hK _ ?_⟩ | refine ⟨by omega, by omega, hK _ ?_⟩
                                  clear hK K
                                  refine SW.ret ?_
                                  simp [Ex.then, Ex.inBlock]))
                          rotate_right
                          case' _ =>
                            intro hb7
                            first
                            | (exfalso; simp at hb7; done)
                            | (exfalso; simp at hb7; omega)
                            | (
                              refine SW.regionK fun K hK => ?_
                              simp -implicitDefEqProofs
                              first | refine hK _ ?_ | refine ⟨by omega, hK _ ?_⟩ | refine ⟨by omega, by omega, hK _ ?_⟩
                              clear hK K
                              refine SW.ret ?_
                              simp [Ex.then, Ex.inBlock]))
                      rotate_right
                      case' _ =>
                        intro hb6
                        first
                        | (exfalso; simp at hb6; done)
                        | (exfalso; simp at hb6; omega)
                        | (
                          refine SW.regionK fun K hK => ?_
                          simp -implicitDefEqProofs
                          first | refine hK _ ?_ | refine ⟨by omega, hK _ ?_⟩ | refine ⟨by omega, by omega, hK _ ?_⟩
                          clear hK K
                          refine SW.ret ?_
                          simp [Ex.then, Ex.inBlock]))
                  rotate_right
                  case' _ =>
                    intro hb5
                    first
                    | (exfalso; simp at hb5; done)
                    | (exfalso; simp at hb5; omega)
                    | (
                      refine SW.regionK fun K hK => ?_
                      simp -implicitDefEqProofs
                      first | refine hK _ ?_ | refine ⟨by omega, hK _ ?_⟩ | refine ⟨by omega, by omega, hK _ ?_⟩
                      clear hK K
                      refine SW.ret ?_
                      simp [Ex.then, Ex.inBlock]))
              rotate_right
              case' _ =>
                intro hb4
                first
                | (exfalso; simp at hb4; done)
                | (exfalso; simp at hb4; omega)
                | (
                  refine SW.regionK fun K hK => ?_
                  simp -implicitDefEqProofs
                  first | refine hK _ ?_ | refine ⟨by omega, hK _ ?_⟩ | refine ⟨by omega, by omega, hK _ ?_⟩
                  clear hK K
                  refine SW.ret ?_
                  simp [Ex.then, Ex.inBlock]))
          rotate_right
          case' _ =>
            intro hb3
            first
            | (exfalso; simp at hb3; done)
            | (exfalso; simp at hb3; omega)
            | (
              refine SW.regionK fun K hK => ?_
              simp -implicitDefEqProofs
              first | refine hK _ ?_ | refine ⟨by omega, hK _ ?_⟩ | refine ⟨by omega, by omega, hK _ ?_⟩
              clear hK K
              refine SW.ret ?_
              simp [Ex.then, Ex.inBlock]))
      rotate_right
      case' _ =>
        intro hb2
        first
        | (exfalso; simp at hb2; done)
        | (exfalso; simp at hb2; omega)
        | (
          refine SW.regionK fun K hK => ?_
          simp -implicitDefEqProofs
          first | refine hK _ ?_ | refine ⟨by omega, hK _ ?_⟩ | refine ⟨by omega, by omega, hK _ ?_⟩
          clear hK K
          refine SW.ret ?_
          simp [Ex.then, Ex.inBlock]))
  rotate_right
  case' _ =>
    intro hb1
    first
    | (exfalso; simp at hb1; done)
    | (exfalso; simp at hb1; omega)
    | (
      refine SW.regionK fun K hK => ?_
      simp -implicitDefEqProofs
      first | refine hK _ ?_ | refine ⟨by omega, hK _ ?_⟩ | refine ⟨by omega, by omega, hK _ ?_⟩
      clear hK K
      refine SW.ret ?_
      simp [Ex.then, Ex.inBlock])
set_option maxHeartbeats 1000000 in
theorem law_pack_no (l : List Int) (last : Int) (d : Deed) (hp : packOk last d = false) : Fn Try.prog 3 [.fz (YS l), .int .i64 last, .agg d.c] (.bool true) := by
  refine Fn.intro Try.func3 (by decide) rfl (rs := [.tmp 6]) rfl Try.ntmps3 (by simp) ?_
  refine SW.regionK fun K hK => ?_
  simp -implicitDefEqProofs
  first | refine hK _ ?_ | refine ⟨by omega, hK _ ?_⟩ | refine ⟨by omega, by omega, hK _ ?_⟩
  clear hK K
  refine SW.seqK fun K1 hK1 => ?_
  refine SW.regionK fun K hK => ?_
  simp -implicitDefEqProofs
  first | refine hK _ ?_ | refine ⟨by omega, hK _ ?_⟩ | refine ⟨by omega, by omega, hK _ ?_⟩
  clear hK K
  refine SW.cond _ rfl (by simp) ?_ ?_
  case' refine_2 =>
    intro hb1
    have hl : l.length ≤ 1048576 := by simp at hb1; omega
    first
    | (exfalso; simp at hb1; done)
    | (exfalso; simp at hb1; omega)
    | (
      refine SW.skip ?_
      refine hK1 _ ?_
      refine SW.drawK mixed [.q [(0, false), (1, false), (2, false), (3, false), (4, false), (5, false), (6, false), (7, false), (8, false), (9, false), (10, false)]] (by kernel_rfl) rfl fun K hK => ?_
      simp -implicitDefEqProofs
      first | refine ⟨by omega, by omega, ?_⟩ | refine ⟨by omega, ?_⟩ | skip
      refine CallQ.fz (toByteS_ok l hl) ?_
      simp -implicitDefEqProofs
      first | refine ⟨by omega, by omega, ?_⟩ | refine ⟨by omega, ?_⟩ | skip
      refine CallQ.fz (toDeed_ok d) ?_
      simp -implicitDefEqProofs
      first | refine ⟨by omega, by omega, ?_⟩ | refine ⟨by omega, ?_⟩ | skip
      refine CallQ.fzE (packEvent_sn l last d (by omega) hp) (by simp) ?_
      simp -implicitDefEqProofs
      first | refine hK _ ?_ | refine ⟨by omega, hK _ ?_⟩ | refine ⟨by omega, by omega, hK _ ?_⟩
      clear hK K
      refine SW.regionK fun K hK => ?_
      simp -implicitDefEqProofs
      first | refine ⟨by omega, by omega, ?_⟩ | refine ⟨by omega, ?_⟩ | skip
      refine CallK.im (toByteS_ok l hl) (YS_okI _) ?_
      simp -implicitDefEqProofs
      first | refine hK _ ?_ | refine ⟨by omega, hK _ ?_⟩ | refine ⟨by omega, by omega, hK _ ?_⟩
      clear hK K
      refine SW.regionK fun K hK => ?_
      simp -implicitDefEqProofs
      first | refine ⟨by omega, by omega, ?_⟩ | refine ⟨by omega, ?_⟩ | skip
      refine CallK.fz (toDeed_ok d) ?_
      simp -implicitDefEqProofs
      first | refine ⟨by omega, by omega, ?_⟩ | refine ⟨by omega, ?_⟩ | skip
      refine CallK.fzE (packEvent_in l last d (by omega) hp) (by simp) ?_
      simp -implicitDefEqProofs
      first | refine hK _ ?_ | refine ⟨by omega, hK _ ?_⟩ | refine ⟨by omega, by omega, hK _ ?_⟩
      clear hK K
      refine SW.seqK fun K2 hK2 => ?_
      refine SW.regionK fun K hK => ?_
      simp -implicitDefEqProofs
      first | refine ⟨by omega, by omega, ?_⟩ | refine ⟨by omega, ?_⟩ | skip
      refine CallK.fzE (eqByteS_nil) (by simp) ?_
      simp -implicitDefEqProofs
      first | refine hK _ ?_ | refine ⟨by omega, hK _ ?_⟩ | refine ⟨by omega, by omega, hK _ ?_⟩
      clear hK K
      refine SW.cond _ rfl (by simp) ?_ ?_
      case' refine_2 =>
        intro hb2
        first
        | (exfalso; simp at hb2; done)
        | (exfalso; simp at hb2; omega)
        | (
          refine SW.skip ?_
          refine hK2 _ ?_
          refine SW.seqK fun K3 hK3 => ?_
          refine SW.regionK fun K hK => ?_
          simp -implicitDefEqProofs
          first | refine ⟨by omega, by omega, ?_⟩ | refine ⟨by omega, ?_⟩ | skip
          refine CallK.fz (toByteS_ok l hl) ?_
          simp -implicitDefEqProofs
          first | refine ⟨by omega, by omega, ?_⟩ | refine ⟨by omega, ?_⟩ | skip
          refine CallK.fzE (eqByteS_ok l (by omega)) (by simp) ?_
          simp -implicitDefEqProofs
          first | refine hK _ ?_ | refine ⟨by omega, hK _ ?_⟩ | refine ⟨by omega, by omega, hK _ ?_⟩
          clear hK K
          refine SW.cond _ rfl (by simp) ?_ ?_
          case' refine_2 =>
            intro hb3
            first
            | (exfalso; simp at hb3; done)
            | (exfalso; simp at hb3; omega)
            | (
              refine SW.skip ?_
              refine hK3 _ ?_
              refine SW.regionK fun K hK => ?_
              simp -implicitDefEqProofs
              first | refine hK _ ?_ | refine ⟨by omega, hK _ ?_⟩ | refine ⟨by omega, by omega, hK _ ?_⟩
              clear hK K
              refine SW.regionK fun K hK => ?_
              simp -implicitDefEqProofs
              first | refine ⟨by omega, by omega, ?_⟩ | refine ⟨by omega, ?_⟩ | skip
              refine CallS.mono (mark_byteS' l 1 _ 1 _ rfl (by simp) rfl (by omega) (by omega) (by omega)) ?_
              rintro o h' ⟨rfl, rfl⟩
              simp -implicitDefEqProofs
              first | refine hK _ ?_ | refine ⟨by omega, hK _ ?_⟩ | refine ⟨by omega, by omega, hK _ ?_⟩
              clear hK K
              refine SW.seqK fun K4 hK4 => ?_
              refine SW.regionK fun K hK => ?_
              simp -implicitDefEqProofs
              first | refine ⟨by omega, by omega, ?_⟩ | refine ⟨by omega, ?_⟩ | skip
              refine CallG.fzE (by simp) (fun _ => eqByteS_nil) (by simp) ?_
              simp -implicitDefEqProofs
              first | refine hK _ ?_ | refine ⟨by omega, hK _ ?_⟩ | refine ⟨by omega, by omega, hK _ ?_⟩
              clear hK K
              refine SW.cond _ rfl (by simp) ?_ ?_
              case' refine_2 =>
                intro hb4
                first
                | (exfalso; simp at hb4; done)
                | (exfalso; simp at hb4; omega)
                | (
                  refine SW.skip ?_
                  refine hK4 _ ?_
                  refine SW.regionK fun K hK => ?_
                  simp -implicitDefEqProofs
                  first | refine hK _ ?_ | refine ⟨by omega, hK _ ?_⟩ | refine ⟨by omega, by omega, hK _ ?_⟩
                  clear hK K
                  refine SW.regionK fun K hK => ?_
                  simp -implicitDefEqProofs
                  first | refine ⟨by omega, by omega, ?_⟩ | refine ⟨by omega, ?_⟩ | skip
                  refine CallS.mono (mark_byteS_nil _ 1) ?_
                  rintro o h' ⟨rfl, rfl⟩
                  simp -implicitDefEqProofs
                  first | refine hK _ ?_ | refine ⟨by omega, hK _ ?_⟩ | refine ⟨by omega, by omega, hK _ ?_⟩
                  clear hK K
                  refine SW.regionK fun K hK => ?_
                  simp -implicitDefEqProofs
                  first | refine hK _ ?_ | refine ⟨by omega, hK _ ?_⟩ | refine ⟨by omega, by omega, hK _ ?_⟩
                  clear hK K
                  refine SW.regionK fun K hK => ?_
                  simp -implicitDefEqProofs
                  first | refine ⟨by omega, by omega, ?_⟩ | refine ⟨by omega, ?_⟩ | skip
                  refine CallK.fzE (held_byteS_nil) (by simp) ?_
                  simp -implicitDefEqProofs
                  first | refine hK _ ?_ | refine ⟨by omega, hK _ ?_⟩ | refine ⟨by omega, by omega, hK _ ?_⟩
                  clear hK K
                  refine SW.seqK fun K5 hK5 => ?_
                  refine SW.regionK fun K hK => ?_
                  simp -implicitDefEqProofs
                  first | refine hK _ ?_ | refine ⟨by omega, hK _ ?_⟩ | refine ⟨by omega, by omega, hK _ ?_⟩
                  clear hK K
                  refine SW.cond _ rfl (by simp) ?_ ?_
                  case' refine_2 =>
                    intro hb5
                    first
                    | (exfalso; simp at hb5; done)
                    | (exfalso; simp at hb5; omega)
                    | (
                      refine SW.skip ?_
                      refine hK5 _ ?_
                      refine SW.seqK fun K6 hK6 => ?_
                      refine SW.regionK fun K hK => ?_
                      simp -implicitDefEqProofs
                      first | refine hK _ ?_ | refine ⟨by omega, hK _ ?_⟩ | refine ⟨by omega, by omega, hK _ ?_⟩
                      clear hK K
                      refine SW.cond _ rfl (by simp) ?_ ?_
                      case' refine_2 =>
                        intro hb6
                        first
                        | (exfalso; simp at hb6; done)
                        | (exfalso; simp at hb6; omega)
                        | (
                          refine SW.skip ?_
                          refine hK6 _ ?_
                          refine SW.drawK mixed [.q [(0, false), (1, false), (2, false), (3, false), (4, false), (5, false), (6, false), (7, false), (8, false), (9, false), (10, false)]] (by kernel_rfl) rfl fun K hK => ?_
                          simp -implicitDefEqProofs
                          first | refine ⟨by omega, by omega, ?_⟩ | refine ⟨by omega, ?_⟩ | skip
                          refine CallQ.fz (toByteS_ok l hl) ?_
                          simp -implicitDefEqProofs
                          first | refine ⟨by omega, by omega, ?_⟩ | refine ⟨by omega, ?_⟩ | skip
                          refine CallQ.fz (toDeed_ok d) ?_
                          simp -implicitDefEqProofs
                          first | refine ⟨by omega, by omega, ?_⟩ | refine ⟨by omega, ?_⟩ | skip
                          refine CallQ.fzE (packEvent_in l last d (by omega) hp) (by simp) ?_
                          simp -implicitDefEqProofs
                          first | refine hK _ ?_ | refine ⟨by omega, hK _ ?_⟩ | refine ⟨by omega, by omega, hK _ ?_⟩
                          clear hK K
                          refine SW.seqK fun K7 hK7 => ?_
                          refine SW.regionK fun K hK => ?_
                          simp -implicitDefEqProofs
                          first | refine ⟨by omega, by omega, ?_⟩ | refine ⟨by omega, ?_⟩ | skip
                          refine CallK.fzE (eqByteS_nil) (by simp) ?_
                          simp -implicitDefEqProofs
                          first | refine hK _ ?_ | refine ⟨by omega, hK _ ?_⟩ | refine ⟨by omega, by omega, hK _ ?_⟩
                          clear hK K
                          refine SW.cond _ rfl (by simp) ?_ ?_
                          case' refine_2 =>
                            intro hb7
                            first
                            | (exfalso; simp at hb7; done)
                            | (exfalso; simp at hb7; omega)
                            | (
                              refine SW.skip ?_
                              refine hK7 _ ?_
                              refine SW.regionK fun K hK => ?_
                              simp -implicitDefEqProofs
                              first | refine hK _ ?_ | refine ⟨by omega, hK _ ?_⟩ | refine ⟨by omega, by omega, hK _ ?_⟩
                              clear hK K
                              refine SW.regionK fun K hK => ?_
                              simp -implicitDefEqProofs
                              first | refine ⟨by omega, by omega, ?_⟩ | refine ⟨by omega, ?_⟩ | skip
                              refine CallK.fzE (held_byteS_nil) (by simp) ?_
                              simp -implicitDefEqProofs
                              first | refine hK _ ?_ | refine ⟨by omega, hK _ ?_⟩ | refine ⟨by omega, by omega, hK _ ?_⟩
                              clear hK K
                              refine SW.seqK fun K8 hK8 => ?_
                              refine SW.regionK fun K hK => ?_
                              simp -implicitDefEqProofs
                              first | refine hK _ ?_ | refine ⟨by omega, hK _ ?_⟩ | refine ⟨by omega, by omega, hK _ ?_⟩
                              clear hK K
                              refine SW.cond _ rfl (by simp) ?_ ?_
                              case' refine_2 =>
                                intro hb8
                                first
                                | (exfalso; simp at hb8; done)
                                | (exfalso; simp at hb8; omega)
                                | (
                                  refine SW.skip ?_
                                  refine hK8 _ ?_
                                  refine SW.seqK fun K9 hK9 => ?_
                                  refine SW.regionK fun K hK => ?_
                                  simp -implicitDefEqProofs
                                  first | refine hK _ ?_ | refine ⟨by omega, hK _ ?_⟩ | refine ⟨by omega, by omega, hK _ ?_⟩
                                  clear hK K
                                  refine SW.cond _ rfl (by simp) ?_ ?_
                                  case' refine_2 =>
                                    intro hb9
                                    first
                                    | (exfalso; simp at hb9; done)
                                    | (exfalso; simp at hb9; omega)
                                    | (
                                      refine SW.skip ?_
                                      refine hK9 _ ?_
                                      refine SW.regionK fun K hK => ?_
                                      simp -implicitDefEqProofs
                                      first | refine hK _ ?_ | refine ⟨by omega, hK _ ?_⟩ | refine ⟨by omega, by omega, hK _ ?_⟩
                                      clear hK K
                                      refine SW.ret ?_
                                      simp [Ex.then, Ex.inBlock])
                                  rotate_right
                                  case' _ =>
                                    intro hb9
                                    first
                                    | (exfalso; simp at hb9; done)
                                    | (exfalso; simp at hb9; omega)
                                    | (
                                      refine SW.regionK fun K hK => ?_
                                      simp -implicitDefEqProofs
                                      first | refine hK _ ?_ | refine ⟨by omega, hK _ ?_⟩ | refine ⟨by omega, by omega, hK _ ?_⟩
                                      clear hK K
                                      refine SW.ret ?_
                                      simp [Ex.then, Ex.inBlock]))
                              rotate_right
                              case' _ =>
                                intro hb8
                                first
                                | (exfalso; simp at hb8; done)
                                | (exfalso; simp at hb8; omega)
                                | (
                                  refine SW.regionK fun K hK => ?_
                                  simp -implicitDefEqProofs
                                  first | refine hK _ ?_ | refine ⟨by omega, hK _ ?_⟩ | refine ⟨by omega, by omega, hK _ ?_⟩
                                  clear hK K
                                  refine SW.ret ?_
                                  simp [Ex.then, Ex.inBlock]))
                          rotate_right
                          case' _ =>
                            intro hb7
                            first
                            | (exfalso; simp at hb7; done)
                            | (exfalso; simp at hb7; omega)
                            | (
                              refine SW.regionK fun K hK => ?_
                              simp -implicitDefEqProofs
                              first | refine hK _ ?_ | refine ⟨by omega, hK _ ?_⟩ | refine ⟨by omega, by omega, hK _ ?_⟩
                              clear hK K
                              refine SW.ret ?_
                              simp [Ex.then, Ex.inBlock]))
                      rotate_right
                      case' _ =>
                        intro hb6
                        first
                        | (exfalso; simp at hb6; done)
                        | (exfalso; simp at hb6; omega)
                        | (
                          refine SW.regionK fun K hK => ?_
                          simp -implicitDefEqProofs
                          first | refine hK _ ?_ | refine ⟨by omega, hK _ ?_⟩ | refine ⟨by omega, by omega, hK _ ?_⟩
                          clear hK K
                          refine SW.ret ?_
                          simp [Ex.then, Ex.inBlock]))
                  rotate_right
                  case' _ =>
                    intro hb5
                    first
                    | (exfalso; simp at hb5; done)
                    | (exfalso; simp at hb5; omega)
                    | (
                      refine SW.regionK fun K hK => ?_
                      simp -implicitDefEqProofs
                      first | refine hK _ ?_ | refine ⟨by omega, hK _ ?_⟩ | refine ⟨by omega, by omega, hK _ ?_⟩
                      clear hK K
                      refine SW.ret ?_
                      simp [Ex.then, Ex.inBlock]))
              rotate_right
              case' _ =>
                intro hb4
                first
                | (exfalso; simp at hb4; done)
                | (exfalso; simp at hb4; omega)
                | (
                  refine SW.regionK fun K hK => ?_
                  simp -implicitDefEqProofs
                  first | refine hK _ ?_ | refine ⟨by omega, hK _ ?_⟩ | refine ⟨by omega, by omega, hK _ ?_⟩
                  clear hK K
                  refine SW.ret ?_
                  simp [Ex.then, Ex.inBlock]))
          rotate_right
          case' _ =>
            intro hb3
            first
            | (exfalso; simp at hb3; done)
            | (exfalso; simp at hb3; omega)
            | (
              refine SW.regionK fun K hK => ?_
              simp -implicitDefEqProofs
              first | refine hK _ ?_ | refine ⟨by omega, hK _ ?_⟩ | refine ⟨by omega, by omega, hK _ ?_⟩
              clear hK K
              refine SW.ret ?_
              simp [Ex.then, Ex.inBlock]))
      rotate_right
      case' _ =>
        intro hb2
        first
        | (exfalso; simp at hb2; done)
        | (exfalso; simp at hb2; omega)
        | (
          refine SW.regionK fun K hK => ?_
          simp -implicitDefEqProofs
          first | refine hK _ ?_ | refine ⟨by omega, hK _ ?_⟩ | refine ⟨by omega, by omega, hK _ ?_⟩
          clear hK K
          refine SW.ret ?_
          simp [Ex.then, Ex.inBlock]))
  rotate_right
  case' _ =>
    intro hb1
    first
    | (exfalso; simp at hb1; done)
    | (exfalso; simp at hb1; omega)
    | (
      refine SW.regionK fun K hK => ?_
      simp -implicitDefEqProofs
      first | refine hK _ ?_ | refine ⟨by omega, hK _ ?_⟩ | refine ⟨by omega, by omega, hK _ ?_⟩
      clear hK K
      refine SW.ret ?_
      simp [Ex.then, Ex.inBlock])
theorem law_pack (l : List Int) (last : Int) (d : Deed) : Fn Try.prog 3 [.fz (YS l), .int .i64 last, .agg d.c] (.bool true) := by
  cases hp : packOk last d with
  | true => exact law_pack_yes l last d hp (packB_len hp)
  | false => exact law_pack_no l last d hp
end HS
