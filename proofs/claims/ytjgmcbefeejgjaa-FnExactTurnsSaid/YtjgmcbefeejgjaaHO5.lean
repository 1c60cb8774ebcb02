/-
  My own text (road H): HO5.
-/
import Derived.Test.YtjgmcbefeejgjaaHO4
set_option linter.unusedSimpArgs false
namespace HO
open Go Go.Proofs HK
set_option maxHeartbeats 1000000 in
theorem eqDeed_ok (a : Deed) : Fn Try.prog 43 [.agg a.c, .agg a.c] (.bool true) := by
  refine Fn.intro Try.func43 (by decide) rfl (rs := [.tmp 4]) rfl Try.ntmps43 (by simp) ?_
  refine SW.regionK fun K hK => ?_
  simp
  first | refine hK _ ?_ | refine ⟨by omega, hK _ ?_⟩ | refine ⟨by omega, by omega, hK _ ?_⟩
  clear hK K
  refine SW.seqK fun K1 hK1 => ?_
  refine SW.regionK fun K hK => ?_
  simp
  first | refine hK _ ?_ | refine ⟨by omega, hK _ ?_⟩ | refine ⟨by omega, by omega, hK _ ?_⟩
  clear hK K
  refine SW.cond _ rfl (by simp) ?_ ?_
  case' refine_2 =>
    intro hb1
    first
    | (exfalso; simp at hb1; done)
    | (
      refine SW.skip ?_
      refine hK1 _ ?_
      refine SW.seqK fun K2 hK2 => ?_
      refine SW.regionK fun K hK => ?_
      simp
      first | refine hK _ ?_ | refine ⟨by omega, hK _ ?_⟩ | refine ⟨by omega, by omega, hK _ ?_⟩
      clear hK K
      refine SW.cond _ rfl (by simp) ?_ ?_
      case' refine_2 =>
        intro hb2
        first
        | (exfalso; simp at hb2; done)
        | (
          refine SW.skip ?_
          refine hK2 _ ?_
          refine SW.seqK fun K3 hK3 => ?_
          refine SW.regionK fun K hK => ?_
          simp
          first | refine hK _ ?_ | refine ⟨by omega, hK _ ?_⟩ | refine ⟨by omega, by omega, hK _ ?_⟩
          clear hK K
          refine SW.cond _ rfl (by simp) ?_ ?_
          case' refine_2 =>
            intro hb3
            first
            | (exfalso; simp at hb3; done)
            | (
              refine SW.skip ?_
              refine hK3 _ ?_
              refine SW.seqK fun K4 hK4 => ?_
              refine SW.regionK fun K hK => ?_
              simp
              first | refine hK _ ?_ | refine ⟨by omega, hK _ ?_⟩ | refine ⟨by omega, by omega, hK _ ?_⟩
              clear hK K
              refine SW.cond _ rfl (by simp) ?_ ?_
              case' refine_2 =>
                intro hb4
                first
                | (exfalso; simp at hb4; done)
                | (
                  refine SW.skip ?_
                  refine hK4 _ ?_
                  refine SW.regionK fun K hK => ?_
                  simp
                  first | refine hK _ ?_ | refine ⟨by omega, hK _ ?_⟩ | refine ⟨by omega, by omega, hK _ ?_⟩
                  clear hK K
                  refine SW.ret ?_
                  simp [Ex.then, Ex.inBlock]
                  all_goals simp_all)
              rotate_right
              case' _ =>
                intro hb4
                first
                | (exfalso; simp at hb4; done)
                | (
                  refine SW.regionK fun K hK => ?_
                  simp
                  first | refine hK _ ?_ | refine ⟨by omega, hK _ ?_⟩ | refine ⟨by omega, by omega, hK _ ?_⟩
                  clear hK K
                  refine SW.ret ?_
                  simp [Ex.then, Ex.inBlock]
                  all_goals simp_all))
          rotate_right
          case' _ =>
            intro hb3
            first
            | (exfalso; simp at hb3; done)
            | (
              refine SW.regionK fun K hK => ?_
              simp
              first | refine hK _ ?_ | refine ⟨by omega, hK _ ?_⟩ | refine ⟨by omega, by omega, hK _ ?_⟩
              clear hK K
              refine SW.ret ?_
              simp [Ex.then, Ex.inBlock]
              all_goals simp_all))
      rotate_right
      case' _ =>
        intro hb2
        first
        | (exfalso; simp at hb2; done)
        | (
          refine SW.regionK fun K hK => ?_
          simp
          first | refine hK _ ?_ | refine ⟨by omega, hK _ ?_⟩ | refine ⟨by omega, by omega, hK _ ?_⟩
          clear hK K
          refine SW.ret ?_
          simp [Ex.then, Ex.inBlock]
          all_goals simp_all))
  rotate_right
  case' _ =>
    intro hb1
    first
    | (exfalso; simp at hb1; done)
    | (
      refine SW.regionK fun K hK => ?_
      simp
      first | refine hK _ ?_ | refine ⟨by omega, hK _ ?_⟩ | refine ⟨by omega, by omega, hK _ ?_⟩
      clear hK K
      refine SW.ret ?_
      simp [Ex.then, Ex.inBlock]
      all_goals simp_all)
set_option maxHeartbeats 1000000 in
theorem eqDeedS_ok (l : List Deed) (hl : l.length ≤ 1048576) : Fn Try.prog 22 [.fz (DS l), .fz (DS l)] (.bool true) := by
  refine Fn.intro Try.func22 (by decide) rfl (rs := [.tmp 4]) rfl Try.ntmps22 (by simp) ?_
  refine SW.regionK fun K hK => ?_
  simp
  first | refine hK _ ?_ | refine ⟨by omega, hK _ ?_⟩ | refine ⟨by omega, by omega, hK _ ?_⟩
  clear hK K
  refine SW.seqK fun K1 hK1 => ?_
  refine SW.regionK fun K hK => ?_
  simp
  first | refine hK _ ?_ | refine ⟨by omega, hK _ ?_⟩ | refine ⟨by omega, by omega, hK _ ?_⟩
  clear hK K
  refine SW.cond _ rfl (by simp) ?_ ?_
  case' refine_2 =>
    intro hb1
    first
    | (exfalso; simp at hb1; done)
    | (
      refine SW.skip ?_
      refine hK1 _ ?_
      refine SW.seqK fun K2 hK2 => ?_
      refine SW.regionK fun K hK => ?_
      simp
      first | refine hK _ ?_ | refine ⟨by omega, hK _ ?_⟩ | refine ⟨by omega, by omega, hK _ ?_⟩
      clear hK K
      refine SW.block ?_
      refine SW.loop (α := Nat) (fun k => ⟨[(5, .int .i64 k), (0, .fz (DS l)), (1, .fz (DS l))], []⟩) (fun k => k ≤ l.length) (fun k => l.length - k) (0) ?p0 ?w0 (fun k hx => ?body)
      case' p0 =>
        simp
      case' w0 =>
        exact Wk.cut (by simp) (by simp [subE]) (by simp [cutH]) (by simp [lowE, lowN]) (by simp)
      case' body =>
        skip
        refine SW.seqK fun K3 hK3 => ?_
        refine SW.regionK fun K hK => ?_
        simp
        first | refine hK _ ?_ | refine ⟨by omega, hK _ ?_⟩ | refine ⟨by omega, by omega, hK _ ?_⟩
        clear hK K
        refine SW.cond _ rfl (by simp) ?_ ?_
        case' refine_2 =>
          intro hb2
          first
          | (exfalso; simp at hb2; done)
          | (
            refine SW.exit ?_
            simp only [Ex.then, Ex.inBlock]
            try simp only [if_true, if_false, reduceIte]
            refine hK2 _ ?_
            refine SW.regionK fun K hK => ?_
            simp
            first | refine hK _ ?_ | refine ⟨by omega, hK _ ?_⟩ | refine ⟨by omega, by omega, hK _ ?_⟩
            clear hK K
            refine SW.ret ?_
            simp [Ex.then, Ex.inBlock])
        rotate_right
        case' _ =>
          intro hb2
          have hlt : k < l.length := by simpa using hb2
          obtain ⟨x, hxk⟩ : ∃ x, l[k]? = some x := ⟨_, List.getElem?_eq_getElem hlt⟩
          first
          | (exfalso; simp at hb2; done)
          | (
            refine SW.skip ?_
            refine hK3 _ ?_
            refine SW.seqK fun K4 hK4 => ?_
            refine SW.block ?_
            refine SW.drawK mixed [.q [(0, false), (1, false), (2, false), (3, false), (4, false), (5, false), (6, false), (7, false), (8, false), (9, false)]] (by kernel_rfl) rfl fun K hK => ?_
            simp [hxk]
            first | refine ⟨by omega, by omega, ?_⟩ | refine ⟨by omega, ?_⟩ | skip
            refine CallQ.fz (eqDeed_ok _) ?_
            simp [hxk]
            first | refine hK _ ?_ | refine ⟨by omega, hK _ ?_⟩ | refine ⟨by omega, by omega, hK _ ?_⟩
            clear hK K
            refine SW.cond _ rfl (by simp) ?_ ?_
            case' refine_2 =>
              intro hb3
              first
              | (exfalso; simp at hb3; done)
              | (
                refine SW.skip ?_
                refine hK4 _ ?_
                refine SW.regionE fun K hK => ?_
                simp
                first | refine hK _ ?_ | refine ⟨by omega, hK _ ?_⟩ | refine ⟨by omega, by omega, hK _ ?_⟩
                clear hK K
                refine ⟨k + 1, by omega, by omega, ?_⟩
                exact Wk.cut (by simp) (by simp [subE, wrap1 k (by omega)]) (by simp [cutH]) (by simp [lowE, lowN]) (by simp))
            rotate_right
            case' _ =>
              intro hb3
              first
              | (exfalso; simp at hb3; done)
              | (
                refine SW.regionK fun K hK => ?_
                simp
                first | refine hK _ ?_ | refine ⟨by omega, hK _ ?_⟩ | refine ⟨by omega, by omega, hK _ ?_⟩
                clear hK K
                refine SW.ret ?_
                simp [Ex.then, Ex.inBlock])))
  rotate_right
  case' _ =>
    intro hb1
    first
    | (exfalso; simp at hb1; done)
    | (
      refine SW.regionK fun K hK => ?_
      simp
      first | refine hK _ ?_ | refine ⟨by omega, hK _ ?_⟩ | refine ⟨by omega, by omega, hK _ ?_⟩
      clear hK K
      refine SW.ret ?_
      simp [Ex.then, Ex.inBlock])
set_option maxHeartbeats 1000000 in
theorem law_busy (l : List Deed) (n : Int) (hm : l.length ≤ maxLen) : Fn Try.prog 5 [.fz (DS l), .int .i64 n] (.bool true) := by
  refine Fn.intro Try.func5 (by decide) rfl (rs := [.tmp 4]) rfl Try.ntmps5 (by simp) ?_
  refine SW.regionK fun K hK => ?_
  simp
  first | refine hK _ ?_ | refine ⟨by omega, hK _ ?_⟩ | refine ⟨by omega, by omega, hK _ ?_⟩
  clear hK K
  refine SW.regionK fun K hK => ?_
  simp
  first | refine hK _ ?_ | refine ⟨by omega, hK _ ?_⟩ | refine ⟨by omega, by omega, hK _ ?_⟩
  clear hK K
  refine SW.regionK fun K hK => ?_
  simp
  first | refine ⟨by omega, by omega, ?_⟩ | refine ⟨by omega, ?_⟩ | skip
  refine CallK.fz (sz_deedS _ _) ?_
  simp
  first | refine hK _ ?_ | refine ⟨by omega, hK _ ?_⟩ | refine ⟨by omega, by omega, hK _ ?_⟩
  clear hK K
  refine SW.seqK fun K1 hK1 => ?_
  refine SW.regionK fun K hK => ?_
  simp
  first | refine hK _ ?_ | refine ⟨by omega, hK _ ?_⟩ | refine ⟨by omega, by omega, hK _ ?_⟩
  clear hK K
  refine SW.cond _ rfl (by simp) ?_ ?_
  case' refine_2 =>
    intro hb1
    simp at hb1
    have hm2 : l.length ≤ 2 ^ 63 - 1 := hm
    have hl : l.length ≤ 1048576 := by rw [wrapI _ (by omega) (by omega)] at hb1; split at hb1 <;> omega
    first
    | (exfalso; simp at hb1; done)
    | (
      refine SW.skip ?_
      refine hK1 _ ?_
      refine SW.regionK fun K hK => ?_
      simp
      first | refine ⟨by omega, by omega, ?_⟩ | refine ⟨by omega, ?_⟩ | skip
      refine CallK.fz (toDeedS_ok _ (by omega)) ?_
      simp
      first | refine ⟨by omega, by omega, ?_⟩ | refine ⟨by omega, ?_⟩ | skip
      refine CallK.fz (busy_spec _ _ (by omega)) ?_
      simp
      first | refine hK _ ?_ | refine ⟨by omega, hK _ ?_⟩ | refine ⟨by omega, by omega, hK _ ?_⟩
      clear hK K
      refine SW.regionK fun K hK => ?_
      simp
      first | refine ⟨by omega, by omega, ?_⟩ | refine ⟨by omega, ?_⟩ | skip
      refine CallK.fz (toDeedS_ok _ (by omega)) ?_
      simp
      first | refine hK _ ?_ | refine ⟨by omega, hK _ ?_⟩ | refine ⟨by omega, by omega, hK _ ?_⟩
      clear hK K
      refine SW.regionK fun K hK => ?_
      simp
      first | refine ⟨by omega, by omega, ?_⟩ | refine ⟨by omega, ?_⟩ | skip
      refine CallK.fz (busy_impl _ _ (by omega)) ?_
      simp
      first | refine hK _ ?_ | refine ⟨by omega, hK _ ?_⟩ | refine ⟨by omega, by omega, hK _ ?_⟩
      clear hK K
      refine SW.seqK fun K2 hK2 => ?_
      refine SW.regionK fun K hK => ?_
      simp
      first | refine hK _ ?_ | refine ⟨by omega, hK _ ?_⟩ | refine ⟨by omega, by omega, hK _ ?_⟩
      clear hK K
      refine SW.cond _ rfl (by simp) ?_ ?_
      case' refine_2 =>
        intro hb2
        first
        | (exfalso; simp at hb2; done)
        | (
          refine SW.skip ?_
          refine hK2 _ ?_
          refine SW.seqK fun K3 hK3 => ?_
          refine SW.regionK fun K hK => ?_
          simp
          first | refine ⟨by omega, by omega, ?_⟩ | refine ⟨by omega, ?_⟩ | skip
          refine CallK.fz (toDeedS_ok _ (by omega)) ?_
          simp
          first | refine ⟨by omega, by omega, ?_⟩ | refine ⟨by omega, ?_⟩ | skip
          refine CallK.fz (eqDeedS_ok _ (by omega)) ?_
          simp
          first | refine hK _ ?_ | refine ⟨by omega, hK _ ?_⟩ | refine ⟨by omega, by omega, hK _ ?_⟩
          clear hK K
          refine SW.cond _ rfl (by simp) ?_ ?_
          case' refine_2 =>
            intro hb3
            first
            | (exfalso; simp at hb3; done)
            | (
              refine SW.skip ?_
              refine hK3 _ ?_
              refine SW.regionK fun K hK => ?_
              simp
              first | refine hK _ ?_ | refine ⟨by omega, hK _ ?_⟩ | refine ⟨by omega, by omega, hK _ ?_⟩
              clear hK K
              refine SW.ret ?_
              simp [Ex.then, Ex.inBlock])
          rotate_right
          case' _ =>
            intro hb3
            first
            | (exfalso; simp at hb3; done)
            | (
              refine SW.regionK fun K hK => ?_
              simp
              first | refine hK _ ?_ | refine ⟨by omega, hK _ ?_⟩ | refine ⟨by omega, by omega, hK _ ?_⟩
              clear hK K
              refine SW.ret ?_
              simp [Ex.then, Ex.inBlock]))
      rotate_right
      case' _ =>
        intro hb2
        first
        | (exfalso; simp at hb2; done)
        | (
          refine SW.regionK fun K hK => ?_
          simp
          first | refine hK _ ?_ | refine ⟨by omega, hK _ ?_⟩ | refine ⟨by omega, by omega, hK _ ?_⟩
          clear hK K
          refine SW.ret ?_
          simp [Ex.then, Ex.inBlock]))
  rotate_right
  case' _ =>
    intro hb1
    first
    | (exfalso; simp at hb1; done)
    | (
      refine SW.regionK fun K hK => ?_
      simp
      first | refine hK _ ?_ | refine ⟨by omega, hK _ ?_⟩ | refine ⟨by omega, by omega, hK _ ?_⟩
      clear hK K
      refine SW.ret ?_
      simp [Ex.then, Ex.inBlock])
end HO
