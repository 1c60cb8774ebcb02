/-
  My own text (road H): HQ3.
-/
import Derived.Test.YtjgmcbefeejgjaaHQ2
set_option linter.unusedSimpArgs false
namespace HO
open Go Go.Proofs HK
@[simp] theorem mks_take (k : Nat) : List.take k (PS (mks k)) = PS (mks k) := by
  have := List.take_length (l := PS (mks k))
  rwa [PS_length, mks_length] at this
theorem mark_turns (n : Int) : CallS Try.prog 16 [.sl 0 0 (tn n), .int .i64 1] [some ⟨2, PS (tns (tn n))⟩] (fun o h' => o = .int .i64 (1 + 2 * (tn n : Int)) ∧ h' = [some ⟨2, PS (mks (tn n))⟩]) := by
  have h0 := tn_le n
  have h5 := mark_pickS (tns (tn n)) (by simp; omega)
  simpa using h5
theorem tns_okI (k : Nat) : okI (.own 2 (PS (tns k))) = true := by simp
set_option maxHeartbeats 1000000 in
theorem held_pickS (n : Nat) (hn : n ≤ 1048576) : Fn Try.prog 17 [.fz (PS (mks n)), .int .i64 1] (.int .i64 (1 + 2 * (n : Int))) := by
  refine Fn.intro Try.func17 (by decide) rfl (rs := [.tmp 4]) rfl Try.ntmps17 (by simp) ?_
  refine SW.regionK fun K hK => ?_
  simp
  first | refine hK _ ?_ | refine ⟨by omega, hK _ ?_⟩ | refine ⟨by omega, by omega, hK _ ?_⟩
  clear hK K
  refine SW.seqK fun K1 hK1 => ?_
  refine SW.regionK fun K hK => ?_
  simp
  first | refine hK _ ?_ | refine ⟨by omega, hK _ ?_⟩ | refine ⟨by omega, by omega, hK _ ?_⟩
  clear hK K
  refine SW.block ?_
  refine SW.loop (α := Nat) (fun k => ⟨[(5, .int .i64 k), (1, .int .i64 (1 + 2 * (k : Int))), (0, .fz (PS (mks n)))], []⟩) (fun k => k ≤ n) (fun k => n - k) (0) ?_ ?_ (fun k hx => ?_)
  case' refine_1 =>
    simp
  case' refine_2 =>
    exact Wk.cut (by simp) (by simp [subE]) (by simp [cutH]) (by simp [lowE, lowN]) (by simp)
  case' refine_3 =>
    skip
    refine SW.seqK fun K2 hK2 => ?_
    refine SW.regionK fun K hK => ?_
    simp
    first | refine hK _ ?_ | refine ⟨by omega, hK _ ?_⟩ | refine ⟨by omega, by omega, hK _ ?_⟩
    clear hK K
    refine SW.cond _ rfl (by simp) ?_ ?_
    case' refine_2 =>
      intro hb1
      have hk : k = n := by simp at hb1; omega
      first
      | (exfalso; simp at hb1; done)
      | (exfalso; simp at hb1; omega)
      | (
        refine SW.exit ?_
        simp only [Ex.then, Ex.inBlock]
        try simp only [if_true, if_false, reduceIte]
        refine hK1 _ ?_
        refine SW.regionK fun K hK => ?_
        simp
        first | refine hK _ ?_ | refine ⟨by omega, hK _ ?_⟩ | refine ⟨by omega, by omega, hK _ ?_⟩
        clear hK K
        refine SW.ret ?_
        simp [Ex.then, Ex.inBlock]
        all_goals (try (subst hk; simp)))
    rotate_right
    case' _ =>
      intro hb1
      have hlt : k < n := by simpa using hb1
      have hxk := mks_get hlt
      have hw1 := wrapI (1 + 2 * (k : Int) + 1) (by omega) (by omega)
      have hw2 := wrapI (1 + 2 * (k : Int) + 1 + 1) (by omega) (by omega)
      first
      | (exfalso; simp at hb1; done)
      | (exfalso; simp at hb1; omega)
      | (
        refine SW.skip ?_
        refine hK2 _ ?_
        refine SW.seqK fun K3 hK3 => ?_
        refine SW.block ?_
        refine SW.seqK fun K4 hK4 => ?_
        refine SW.regionK fun K hK => ?_
        simp [hxk]
        first | refine hK _ ?_ | refine ⟨by omega, hK _ ?_⟩ | refine ⟨by omega, by omega, hK _ ?_⟩
        clear hK K
        refine SW.cond _ rfl (by simp) ?_ ?_
        case' refine_2 =>
          intro hb2
          first
          | (exfalso; simp at hb2; done)
          | (exfalso; simp at hb2; omega)
          | (
            refine SW.skip ?_
            refine hK4 _ ?_
            refine SW.regionK fun K hK => ?_
            simp [hw1]
            first | refine hK _ ?_ | refine ⟨by omega, hK _ ?_⟩ | refine ⟨by omega, by omega, hK _ ?_⟩
            clear hK K
            refine SW.seqK fun K5 hK5 => ?_
            refine SW.regionK fun K hK => ?_
            simp [hxk]
            first | refine hK _ ?_ | refine ⟨by omega, hK _ ?_⟩ | refine ⟨by omega, by omega, hK _ ?_⟩
            clear hK K
            refine SW.cond _ rfl (by simp) ?_ ?_
            case' refine_2 =>
              intro hb3
              first
              | (exfalso; simp at hb3; done)
              | (exfalso; simp at hb3; omega)
              | (
                refine SW.skip ?_
                refine hK5 _ ?_
                refine SW.regionE fun K hK => ?_
                simp [hw2]
                first | refine hK _ ?_ | refine ⟨by omega, hK _ ?_⟩ | refine ⟨by omega, by omega, hK _ ?_⟩
                clear hK K
                refine hK3 _ ?_
                refine SW.regionE fun K hK => ?_
                simp
                first | refine hK _ ?_ | refine ⟨by omega, hK _ ?_⟩ | refine ⟨by omega, by omega, hK _ ?_⟩
                clear hK K
                refine ⟨k + 1, by omega, by omega, ?_⟩
                exact Wk.cut (by simp) (by simp [subE, wrap1 k (by omega)]; try omega) (by simp [cutH]) (by simp [lowE, lowN]) (by simp))
            rotate_right
            case' _ =>
              intro hb3
              first
              | (exfalso; simp at hb3; done)
              | (exfalso; simp at hb3; omega)
              | (
                refine SW.regionK fun K hK => ?_
                simp
                first | refine hK _ ?_ | refine ⟨by omega, hK _ ?_⟩ | refine ⟨by omega, by omega, hK _ ?_⟩
                clear hK K
                refine SW.ret ?_
                simp [Ex.then, Ex.inBlock]
                all_goals (try (subst hk; simp))))
        rotate_right
        case' _ =>
          intro hb2
          first
          | (exfalso; simp at hb2; done)
          | (exfalso; simp at hb2; omega)
          | (
            refine SW.regionK fun K hK => ?_
            simp
            first | refine hK _ ?_ | refine ⟨by omega, hK _ ?_⟩ | refine ⟨by omega, by omega, hK _ ?_⟩
            clear hK K
            refine SW.ret ?_
            simp [Ex.then, Ex.inBlock]
            all_goals (try (subst hk; simp))))
set_option maxHeartbeats 1000000 in
theorem eqPick_ok (a b : Int) : Fn Try.prog 42 [.agg [.int .i64 a, .int .i64 b], .agg [.int .i64 a, .int .i64 b]] (.bool true) := by
  refine Fn.intro Try.func42 (by decide) rfl (rs := [.tmp 4]) rfl Try.ntmps42 (by simp) ?_
  refine SW.regionK fun K hK => ?_
  simp
  first | refine hK _ ?_ | refine ⟨by omega, hK _ ?_⟩ | refine ⟨by omega, by omega, hK _ ?_⟩
  clear hK K
  refine SW.seqK fun K1 hK1 => ?_
  refine SW.regionK fun K hK => ?_
  simp
  first | refine hK _ ?_ | refine ⟨by omega, hK _ ?_⟩ | refine ⟨by omega, by omega, hK _ ?_⟩
  clear hK K
  refine SW.cond _ rfl (by simp) ?_ ?_
  case' refine_2 =>
    intro hb1
    first
    | (exfalso; simp at hb1; done)
    | (exfalso; simp at hb1; omega)
    | (
      refine SW.skip ?_
      refine hK1 _ ?_
      refine SW.seqK fun K2 hK2 => ?_
      refine SW.regionK fun K hK => ?_
      simp
      first | refine hK _ ?_ | refine ⟨by omega, hK _ ?_⟩ | refine ⟨by omega, by omega, hK _ ?_⟩
      clear hK K
      refine SW.cond _ rfl (by simp) ?_ ?_
      case' refine_2 =>
        intro hb2
        first
        | (exfalso; simp at hb2; done)
        | (exfalso; simp at hb2; omega)
        | (
          refine SW.skip ?_
          refine hK2 _ ?_
          refine SW.regionK fun K hK => ?_
          simp
          first | refine hK _ ?_ | refine ⟨by omega, hK _ ?_⟩ | refine ⟨by omega, by omega, hK _ ?_⟩
          clear hK K
          refine SW.ret ?_
          simp [Ex.then, Ex.inBlock]
          all_goals simp_all)
      rotate_right
      case' _ =>
        intro hb2
        first
        | (exfalso; simp at hb2; done)
        | (exfalso; simp at hb2; omega)
        | (
          refine SW.regionK fun K hK => ?_
          simp
          first | refine hK _ ?_ | refine ⟨by omega, hK _ ?_⟩ | refine ⟨by omega, by omega, hK _ ?_⟩
          clear hK K
          refine SW.ret ?_
          simp [Ex.then, Ex.inBlock]
          all_goals simp_all))
  rotate_right
  case' _ =>
    intro hb1
    first
    | (exfalso; simp at hb1; done)
    | (exfalso; simp at hb1; omega)
    | (
      refine SW.regionK fun K hK => ?_
      simp
      first | refine hK _ ?_ | refine ⟨by omega, hK _ ?_⟩ | refine ⟨by omega, by omega, hK _ ?_⟩
      clear hK K
      refine SW.ret ?_
      simp [Ex.then, Ex.inBlock]
      all_goals simp_all)
set_option maxHeartbeats 1000000 in
theorem eqPickS_ok (l : List (Int × Int)) (hl : l.length ≤ 1048576) : Fn Try.prog 15 [.fz (PS l), .fz (PS l)] (.bool true) := by
  refine Fn.intro Try.func15 (by decide) rfl (rs := [.tmp 4]) rfl Try.ntmps15 (by simp) ?_
  refine SW.regionK fun K hK => ?_
  simp
  first | refine hK _ ?_ | refine ⟨by omega, hK _ ?_⟩ | refine ⟨by omega, by omega, hK _ ?_⟩
  clear hK K
  refine SW.seqK fun K1 hK1 => ?_
  refine SW.regionK fun K hK => ?_
  simp
  first | refine hK _ ?_ | refine ⟨by omega, hK _ ?_⟩ | refine ⟨by omega, by omega, hK _ ?_⟩
  clear hK K
  refine SW.cond _ rfl (by simp) ?_ ?_
  case' refine_2 =>
    intro hb1
    first
    | (exfalso; simp at hb1; done)
    | (exfalso; simp at hb1; omega)
    | (
      refine SW.skip ?_
      refine hK1 _ ?_
      refine SW.seqK fun K2 hK2 => ?_
      refine SW.regionK fun K hK => ?_
      simp
      first | refine hK _ ?_ | refine ⟨by omega, hK _ ?_⟩ | refine ⟨by omega, by omega, hK _ ?_⟩
      clear hK K
      refine SW.block ?_
      refine SW.loop (α := Nat) (fun k => ⟨[(5, .int .i64 k), (0, .fz (PS l)), (1, .fz (PS l))], []⟩) (fun k => k ≤ l.length) (fun k => l.length - k) (0) ?_ ?_ (fun k hx => ?_)
      case' refine_1 =>
        simp
      case' refine_2 =>
        exact Wk.cut (by simp) (by simp [subE]) (by simp [cutH]) (by simp [lowE, lowN]) (by simp)
      case' refine_3 =>
        skip
        refine SW.seqK fun K3 hK3 => ?_
        refine SW.regionK fun K hK => ?_
        simp
        first | refine hK _ ?_ | refine ⟨by omega, hK _ ?_⟩ | refine ⟨by omega, by omega, hK _ ?_⟩
        clear hK K
        refine SW.cond _ rfl (by simp) ?_ ?_
        case' refine_2 =>
          intro hb2
          first
          | (exfalso; simp at hb2; done)
          | (exfalso; simp at hb2; omega)
          | (
            refine SW.exit ?_
            simp only [Ex.then, Ex.inBlock]
            try simp only [if_true, if_false, reduceIte]
            refine hK2 _ ?_
            refine SW.regionK fun K hK => ?_
            simp
            first | refine hK _ ?_ | refine ⟨by omega, hK _ ?_⟩ | refine ⟨by omega, by omega, hK _ ?_⟩
            clear hK K
            refine SW.ret ?_
            simp [Ex.then, Ex.inBlock])
        rotate_right
        case' _ =>
          intro hb2
          have hlt : k < l.length := by simpa using hb2
          obtain ⟨x, hxk⟩ : ∃ x, l[k]? = some x := ⟨_, List.getElem?_eq_getElem hlt⟩
          first
          | (exfalso; simp at hb2; done)
          | (exfalso; simp at hb2; omega)
          | (
            refine SW.skip ?_
            refine hK3 _ ?_
            refine SW.seqK fun K4 hK4 => ?_
            refine SW.block ?_
            refine SW.drawK mixed [.q [(0, false), (1, false), (2, false), (3, false), (4, false), (5, false), (6, false), (7, false), (8, false), (9, false)]] (by kernel_rfl) rfl fun K hK => ?_
            simp [hxk]
            first | refine ⟨by omega, by omega, ?_⟩ | refine ⟨by omega, ?_⟩ | skip
            refine CallQ.fz (eqPick_ok _ _) ?_
            simp [hxk]
            first | refine hK _ ?_ | refine ⟨by omega, hK _ ?_⟩ | refine ⟨by omega, by omega, hK _ ?_⟩
            clear hK K
            refine SW.cond _ rfl (by simp) ?_ ?_
            case' refine_2 =>
              intro hb3
              first
              | (exfalso; simp at hb3; done)
              | (exfalso; simp at hb3; omega)
              | (
                refine SW.skip ?_
                refine hK4 _ ?_
                refine SW.regionE fun K hK => ?_
                simp
                first | refine hK _ ?_ | refine ⟨by omega, hK _ ?_⟩ | refine ⟨by omega, by omega, hK _ ?_⟩
                clear hK K
                refine ⟨k + 1, by omega, by omega, ?_⟩
                exact Wk.cut (by simp) (by simp [subE, wrap1 k (by omega)]) (by simp [cutH]) (by simp [lowE, lowN]) (by simp))
            rotate_right
            case' _ =>
              intro hb3
              first
              | (exfalso; simp at hb3; done)
              | (exfalso; simp at hb3; omega)
              | (
                refine SW.regionK fun K hK => ?_
                simp
                first | refine hK _ ?_ | refine ⟨by omega, hK _ ?_⟩ | refine ⟨by omega, by omega, hK _ ?_⟩
                clear hK K
                refine SW.ret ?_
                simp [Ex.then, Ex.inBlock])))
  rotate_right
  case' _ =>
    intro hb1
    first
    | (exfalso; simp at hb1; done)
    | (exfalso; simp at hb1; omega)
    | (
      refine SW.regionK fun K hK => ?_
      simp
      first | refine hK _ ?_ | refine ⟨by omega, hK _ ?_⟩ | refine ⟨by omega, by omega, hK _ ?_⟩
      clear hK K
      refine SW.ret ?_
      simp [Ex.then, Ex.inBlock])
set_option maxHeartbeats 1000000 in
theorem law_turns (n : Int) (ht : tn n ≤ 2000) : Fn Try.prog 4 [.int .i64 n] (.bool true) := by
  refine Fn.intro Try.func4 (by decide) rfl (rs := [.tmp 2]) rfl Try.ntmps4 (by simp) ?_
  refine SW.regionK fun K hK => ?_
  simp
  first | refine hK _ ?_ | refine ⟨by omega, hK _ ?_⟩ | refine ⟨by omega, by omega, hK _ ?_⟩
  clear hK K
  refine SW.regionK fun K hK => ?_
  simp
  first | refine ⟨by omega, by omega, ?_⟩ | refine ⟨by omega, ?_⟩ | skip
  refine CallK.fz (turns_spec _) ?_
  simp
  first | refine hK _ ?_ | refine ⟨by omega, hK _ ?_⟩ | refine ⟨by omega, by omega, hK _ ?_⟩
  clear hK K
  refine SW.regionK fun K hK => ?_
  simp
  first | refine ⟨by omega, by omega, ?_⟩ | refine ⟨by omega, ?_⟩ | skip
  refine CallK.im (turns_impl _) (tns_okI _) ?_
  simp
  first | refine hK _ ?_ | refine ⟨by omega, hK _ ?_⟩ | refine ⟨by omega, by omega, hK _ ?_⟩
  clear hK K
  refine SW.seqK fun K1 hK1 => ?_
  refine SW.regionK fun K hK => ?_
  simp
  first | refine ⟨by omega, by omega, ?_⟩ | refine ⟨by omega, ?_⟩ | skip
  refine CallK.fzE (eqPickS_ok (tns (tn n)) (by simp; omega)) (by simp) ?_
  simp
  first | refine hK _ ?_ | refine ⟨by omega, hK _ ?_⟩ | refine ⟨by omega, by omega, hK _ ?_⟩
  clear hK K
  refine SW.cond _ rfl (by simp) ?_ ?_
  case' refine_2 =>
    intro hb1
    first
    | (exfalso; simp at hb1; done)
    | (exfalso; simp at hb1; omega)
    | (
      refine SW.skip ?_
      refine hK1 _ ?_
      refine SW.regionK fun K hK => ?_
      simp
      first | refine hK _ ?_ | refine ⟨by omega, hK _ ?_⟩ | refine ⟨by omega, by omega, hK _ ?_⟩
      clear hK K
      refine SW.regionK fun K hK => ?_
      simp
      first | refine ⟨by omega, by omega, ?_⟩ | refine ⟨by omega, ?_⟩ | skip
      refine CallS.mono (mark_turns n) ?_
      rintro o h' ⟨rfl, rfl⟩
      simp
      first | refine hK _ ?_ | refine ⟨by omega, hK _ ?_⟩ | refine ⟨by omega, by omega, hK _ ?_⟩
      clear hK K
      refine SW.regionK fun K hK => ?_
      simp
      first | refine hK _ ?_ | refine ⟨by omega, hK _ ?_⟩ | refine ⟨by omega, by omega, hK _ ?_⟩
      clear hK K
      refine SW.regionK fun K hK => ?_
      simp
      first | refine ⟨by omega, by omega, ?_⟩ | refine ⟨by omega, ?_⟩ | skip
      refine CallK.fzE (held_pickS (tn n) (by omega)) (by simp) ?_
      simp
      first | refine hK _ ?_ | refine ⟨by omega, hK _ ?_⟩ | refine ⟨by omega, by omega, hK _ ?_⟩
      clear hK K
      refine SW.seqK fun K2 hK2 => ?_
      refine SW.regionK fun K hK => ?_
      simp
      first | refine hK _ ?_ | refine ⟨by omega, hK _ ?_⟩ | refine ⟨by omega, by omega, hK _ ?_⟩
      clear hK K
      refine SW.cond _ rfl (by simp) ?_ ?_
      case' refine_2 =>
        intro hb2
        first
        | (exfalso; simp at hb2; done)
        | (exfalso; simp at hb2; omega)
        | (
          refine SW.skip ?_
          refine hK2 _ ?_
          refine SW.seqK fun K3 hK3 => ?_
          refine SW.regionK fun K hK => ?_
          simp
          first | refine hK _ ?_ | refine ⟨by omega, hK _ ?_⟩ | refine ⟨by omega, by omega, hK _ ?_⟩
          clear hK K
          refine SW.cond _ rfl (by simp) ?_ ?_
          case' refine_2 =>
            intro hb3
            first
            | (exfalso; simp at hb3; done)
            | (exfalso; simp at hb3; omega)
            | (
              refine SW.skip ?_
              refine hK3 _ ?_
              refine SW.regionK fun K hK => ?_
              simp
              first | refine ⟨by omega, by omega, ?_⟩ | refine ⟨by omega, ?_⟩ | skip
              refine CallK.fz (turns_impl _) ?_
              simp
              first | refine hK _ ?_ | refine ⟨by omega, hK _ ?_⟩ | refine ⟨by omega, by omega, hK _ ?_⟩
              clear hK K
              refine SW.seqK fun K4 hK4 => ?_
              refine SW.regionK fun K hK => ?_
              simp
              first | refine ⟨by omega, by omega, ?_⟩ | refine ⟨by omega, ?_⟩ | skip
              refine CallK.fzE (eqPickS_ok (tns (tn n)) (by simp; omega)) (by simp) ?_
              simp
              first | refine hK _ ?_ | refine ⟨by omega, hK _ ?_⟩ | refine ⟨by omega, by omega, hK _ ?_⟩
              clear hK K
              refine SW.cond _ rfl (by simp) ?_ ?_
              case' refine_2 =>
                intro hb4
                first
                | (exfalso; simp at hb4; done)
                | (exfalso; simp at hb4; omega)
                | (
                  refine SW.skip ?_
                  refine hK4 _ ?_
                  refine SW.regionK fun K hK => ?_
                  simp
                  first | refine hK _ ?_ | refine ⟨by omega, hK _ ?_⟩ | refine ⟨by omega, by omega, hK _ ?_⟩
                  clear hK K
                  refine SW.regionK fun K hK => ?_
                  simp
                  first | refine ⟨by omega, by omega, ?_⟩ | refine ⟨by omega, ?_⟩ | skip
                  refine CallK.fzE (held_pickS (tn n) (by omega)) (by simp) ?_
                  simp
                  first | refine hK _ ?_ | refine ⟨by omega, hK _ ?_⟩ | refine ⟨by omega, by omega, hK _ ?_⟩
                  clear hK K
                  refine SW.seqK fun K5 hK5 => ?_
                  refine SW.regionK fun K hK => ?_
                  simp
                  first | refine hK _ ?_ | refine ⟨by omega, hK _ ?_⟩ | refine ⟨by omega, by omega, hK _ ?_⟩
                  clear hK K
                  refine SW.cond _ rfl (by simp) ?_ ?_
                  case' refine_2 =>
                    intro hb5
                    first
                    | (exfalso; simp at hb5; done)
                    | (exfalso; simp at hb5; omega)
                    | (
                      refine SW.skip ?_
                      refine hK5 _ ?_
                      refine SW.seqK fun K6 hK6 => ?_
                      refine SW.regionK fun K hK => ?_
                      simp
                      first | refine hK _ ?_ | refine ⟨by omega, hK _ ?_⟩ | refine ⟨by omega, by omega, hK _ ?_⟩
                      clear hK K
                      refine SW.cond _ rfl (by simp) ?_ ?_
                      case' refine_2 =>
                        intro hb6
                        first
                        | (exfalso; simp at hb6; done)
                        | (exfalso; simp at hb6; omega)
                        | (
                          refine SW.skip ?_
                          refine hK6 _ ?_
                          refine SW.regionK fun K hK => ?_
                          simp
                          first | refine hK _ ?_ | refine ⟨by omega, hK _ ?_⟩ | refine ⟨by omega, by omega, hK _ ?_⟩
                          clear hK K
                          refine SW.ret ?_
                          simp [Ex.then, Ex.inBlock])
                      rotate_right
                      case' _ =>
                        intro hb6
                        first
                        | (exfalso; simp at hb6; done)
                        | (exfalso; simp at hb6; omega)
                        | (
                          refine SW.regionK fun K hK => ?_
                          simp
                          first | refine hK _ ?_ | refine ⟨by omega, hK _ ?_⟩ | refine ⟨by omega, by omega, hK _ ?_⟩
                          clear hK K
                          refine SW.ret ?_
                          simp [Ex.then, Ex.inBlock]))
                  rotate_right
                  case' _ =>
                    intro hb5
                    first
                    | (exfalso; simp at hb5; done)
                    | (exfalso; simp at hb5; omega)
                    | (
                      refine SW.regionK fun K hK => ?_
                      simp
                      first | refine hK _ ?_ | refine ⟨by omega, hK _ ?_⟩ | refine ⟨by omega, by omega, hK _ ?_⟩
                      clear hK K
                      refine SW.ret ?_
                      simp [Ex.then, Ex.inBlock]))
              rotate_right
              case' _ =>
                intro hb4
                first
                | (exfalso; simp at hb4; done)
                | (exfalso; simp at hb4; omega)
                | (
                  refine SW.regionK fun K hK => ?_
                  simp
                  first | refine hK _ ?_ | refine ⟨by omega, hK _ ?_⟩ | refine ⟨by omega, by omega, hK _ ?_⟩
                  clear hK K
                  refine SW.ret ?_
                  simp [Ex.then, Ex.inBlock]))
          rotate_right
          case' _ =>
            intro hb3
            first
            | (exfalso; simp at hb3; done)
            | (exfalso; simp at hb3; omega)
            | (
              refine SW.regionK fun K hK => ?_
              simp
              first | refine hK _ ?_ | refine ⟨by omega, hK _ ?_⟩ | refine ⟨by omega, by omega, hK _ ?_⟩
              clear hK K
              refine SW.ret ?_
              simp [Ex.then, Ex.inBlock]))
      rotate_right
      case' _ =>
        intro hb2
        first
        | (exfalso; simp at hb2; done)
        | (exfalso; simp at hb2; omega)
        | (
          refine SW.regionK fun K hK => ?_
          simp
          first | refine hK _ ?_ | refine ⟨by omega, hK _ ?_⟩ | refine ⟨by omega, by omega, hK _ ?_⟩
          clear hK K
          refine SW.ret ?_
          simp [Ex.then, Ex.inBlock]))
  rotate_right
  case' _ =>
    intro hb1
    first
    | (exfalso; simp at hb1; done)
    | (exfalso; simp at hb1; omega)
    | (
      refine SW.regionK fun K hK => ?_
      simp
      first | refine hK _ ?_ | refine ⟨by omega, hK _ ?_⟩ | refine ⟨by omega, by omega, hK _ ?_⟩
      clear hK K
      refine SW.ret ?_
      simp [Ex.then, Ex.inBlock])
end HO
