/-
  My own text (road H): HP4.
-/
import Derived.Test.YtjgmcbefeejgjaaHP3
set_option linter.unusedSimpArgs false
namespace HO
open Go Go.Proofs HK
theorem get_cases {α : Type} (l : List α) (k : Nat) : (l[k]? = none ∧ l.length ≤ k) ∨ ∃ b, l[k]? = some b ∧ ¬ l.length ≤ k := by
  cases h : l[k]? with
  | none => exact .inl ⟨rfl, by simpa using h⟩
  | some b => exact .inr ⟨b, rfl, Nat.not_le.2 (List.getElem?_eq_some_iff.1 h).1⟩
set_option maxHeartbeats 1000000 in
theorem nextOf_spec (l : List Deed) (done : List Bool) (n : Int) (hl : l.length ≤ 1048576) : Fn Try.prog 25 [.fz (DS l), .fz (BS done), .int .i64 n] (.int .i64 (nextOf done n 0 l)) := by
  refine Fn.intro Try.func25 (by decide) rfl (rs := [.tmp 6]) rfl Try.ntmps25 (by simp) ?_
  refine SW.regionK fun K hK => ?_
  simp
  first | refine hK _ ?_ | refine ⟨by omega, hK _ ?_⟩ | refine ⟨by omega, by omega, hK _ ?_⟩
  clear hK K
  refine SW.seqK fun K1 hK1 => ?_
  refine SW.regionK fun K hK => ?_
  simp
  first | refine hK _ ?_ | refine ⟨by omega, hK _ ?_⟩ | refine ⟨by omega, by omega, hK _ ?_⟩
  clear hK K
  refine SW.block ?_
  refine SW.loop (α := Nat) (fun k => ⟨[(11, .int .i64 k), (10, .int .i64 l.length), (9, .fz (DS l)), (2, .int .i64 n), (1, .fz (BS done)), (0, .fz (DS l))], []⟩) (fun k => k ≤ l.length ∧ nextOf done n 0 l = nextOf done n k (l.drop k)) (fun k => l.length - k) (0) ?p0 ?w0 (fun k hx => ?body)
  case' p0 =>
    simp
  case' w0 =>
    exact Wk.cut (by simp) (by simp [subE]) (by simp [cutH]) (by simp [lowE, lowN]) (by simp)
  case' body =>
    skip
    refine SW.regionK fun K hK => ?_
    simp
    first | refine hK _ ?_ | refine ⟨by omega, hK _ ?_⟩ | refine ⟨by omega, by omega, hK _ ?_⟩
    clear hK K
    refine SW.seqK fun K2 hK2 => ?_
    refine SW.cond _ rfl (by simp) ?_ ?_
    case' refine_2 =>
      intro hb1
      have hk : k = l.length := by simp at hb1; omega
      subst hk
      have hal := hx.2
      rw [List.drop_length] at hal
      refine SW.exit ?_
      simp only [Ex.then, Ex.inBlock]
      try simp only [if_true, if_false, reduceIte]
      refine hK1 _ ?_
      refine SW.regionK fun K hK => ?_
      simp
      first | refine hK _ ?_ | refine ⟨by omega, hK _ ?_⟩ | refine ⟨by omega, by omega, hK _ ?_⟩
      clear hK K
      refine SW.ret ?_
      simp [Ex.then, Ex.inBlock]
      all_goals first | done | (rw [hx.2, hst]; done) | simp [hal, nextOf]
    rotate_right
    case' _ =>
      intro hb1
      have hlt : k < l.length := by simpa using hb1
      obtain ⟨x, hxk⟩ : ∃ x, l[k]? = some x := ⟨_, List.getElem?_eq_getElem hlt⟩
      have hst := nextOf_step (done := done) (n := n) (i := 0) hxk
      simp only [Nat.zero_add] at hst
      refine SW.skip ?_
      refine hK2 _ ?_
      refine SW.seqK fun K3 hK3 => ?_
      refine SW.block ?_
      refine SW.regionK fun K hK => ?_
      simp [hxk]
      first | refine hK _ ?_ | refine ⟨by omega, hK _ ?_⟩ | refine ⟨by omega, by omega, hK _ ?_⟩
      clear hK K
      obtain ⟨hdk, hkd⟩ | ⟨b, hdk, hkd⟩ := get_cases done k
      all_goals (
        refine SW.regionK fun K hK => ?_
        simp +contextual [hdk, hkd]
        first | refine hK _ ?_ | refine ⟨by omega, hK _ ?_⟩ | refine ⟨by omega, by omega, hK _ ?_⟩
        clear hK K
        refine SW.cond _ rfl (by simp) ?_ ?_
        case' refine_2 =>
          intro hb2
          have hf : nextD done n x k = false := by simp [nextD, hdk]; simpa using hb2
          rw [if_neg (by simp [hf])] at hst
          refine SW.skip ?_
          refine hK3 _ ?_
          refine SW.regionE fun K hK => ?_
          simp
          first | refine hK _ ?_ | refine ⟨by omega, hK _ ?_⟩ | refine ⟨by omega, by omega, hK _ ?_⟩
          clear hK K
          refine ⟨k + 1, ⟨by omega, hx.2.trans hst⟩, by omega, ?_⟩
          exact Wk.cut (by simp) (by simp [subE, wrap1 k (by omega)]) (by simp [cutH]) (by simp [lowE, lowN]) (by simp)
        rotate_right
        case' _ =>
          intro hb2
          trace_state
          have hf : nextD done n x k = true := by simp [nextD, hdk]; simpa using hb2
          rw [if_pos hf] at hst
          refine SW.regionK fun K hK => ?_
          simp
          first | refine hK _ ?_ | refine ⟨by omega, hK _ ?_⟩ | refine ⟨by omega, by omega, hK _ ?_⟩
          clear hK K
          refine SW.ret ?_
          simp [Ex.then, Ex.inBlock]
          all_goals first | done | (rw [hx.2, hst]; done) | simp [hal, nextOf])
set_option maxHeartbeats 1000000 in
theorem nextOf_impl (l : List Deed) (done : List Bool) (n : Int) (hl : l.length ≤ 1048576) : Fn Try.prog 27 [.fz (DS l), .fz (BS done), .int .i64 n] (.int .i64 (nextOf done n 0 l)) := by
  refine Fn.intro Try.func27 (by decide) rfl (rs := [.tmp 6]) rfl Try.ntmps27 (by simp) ?_
  refine SW.regionK fun K hK => ?_
  simp
  first | refine hK _ ?_ | refine ⟨by omega, hK _ ?_⟩ | refine ⟨by omega, by omega, hK _ ?_⟩
  clear hK K
  refine SW.seqK fun K1 hK1 => ?_
  refine SW.regionK fun K hK => ?_
  simp
  first | refine hK _ ?_ | refine ⟨by omega, hK _ ?_⟩ | refine ⟨by omega, by omega, hK _ ?_⟩
  clear hK K
  refine SW.block ?_
  refine SW.loop (α := Nat) (fun k => ⟨[(11, .int .i64 k), (10, .int .i64 l.length), (9, .fz (DS l)), (2, .int .i64 n), (1, .fz (BS done)), (0, .fz (DS l))], []⟩) (fun k => k ≤ l.length ∧ nextOf done n 0 l = nextOf done n k (l.drop k)) (fun k => l.length - k) (0) ?p0 ?w0 (fun k hx => ?body)
  case' p0 =>
    simp
  case' w0 =>
    exact Wk.cut (by simp) (by simp [subE]) (by simp [cutH]) (by simp [lowE, lowN]) (by simp)
  case' body =>
    skip
    refine SW.regionK fun K hK => ?_
    simp
    first | refine hK _ ?_ | refine ⟨by omega, hK _ ?_⟩ | refine ⟨by omega, by omega, hK _ ?_⟩
    clear hK K
    refine SW.seqK fun K2 hK2 => ?_
    refine SW.cond _ rfl (by simp) ?_ ?_
    case' refine_2 =>
      intro hb1
      have hk : k = l.length := by simp at hb1; omega
      subst hk
      have hal := hx.2
      rw [List.drop_length] at hal
      refine SW.exit ?_
      simp only [Ex.then, Ex.inBlock]
      try simp only [if_true, if_false, reduceIte]
      refine hK1 _ ?_
      refine SW.regionK fun K hK => ?_
      simp
      first | refine hK _ ?_ | refine ⟨by omega, hK _ ?_⟩ | refine ⟨by omega, by omega, hK _ ?_⟩
      clear hK K
      refine SW.ret ?_
      simp [Ex.then, Ex.inBlock]
      all_goals first | done | (rw [hx.2, hst]; done) | simp [hal, nextOf]
    rotate_right
    case' _ =>
      intro hb1
      have hlt : k < l.length := by simpa using hb1
      obtain ⟨x, hxk⟩ : ∃ x, l[k]? = some x := ⟨_, List.getElem?_eq_getElem hlt⟩
      have hst := nextOf_step (done := done) (n := n) (i := 0) hxk
      simp only [Nat.zero_add] at hst
      refine SW.skip ?_
      refine hK2 _ ?_
      refine SW.seqK fun K3 hK3 => ?_
      refine SW.block ?_
      refine SW.regionK fun K hK => ?_
      simp [hxk]
      first | refine hK _ ?_ | refine ⟨by omega, hK _ ?_⟩ | refine ⟨by omega, by omega, hK _ ?_⟩
      clear hK K
      obtain ⟨hdk, hkd⟩ | ⟨b, hdk, hkd⟩ := get_cases done k
      all_goals (
        refine SW.regionK fun K hK => ?_
        simp +contextual [hdk, hkd]
        first | refine hK _ ?_ | refine ⟨by omega, hK _ ?_⟩ | refine ⟨by omega, by omega, hK _ ?_⟩
        clear hK K
        refine SW.cond _ rfl (by simp) ?_ ?_
        case' refine_2 =>
          intro hb2
          have hf : nextD done n x k = false := by simp [nextD, hdk]; simpa using hb2
          rw [if_neg (by simp [hf])] at hst
          refine SW.skip ?_
          refine hK3 _ ?_
          refine SW.regionE fun K hK => ?_
          simp
          first | refine hK _ ?_ | refine ⟨by omega, hK _ ?_⟩ | refine ⟨by omega, by omega, hK _ ?_⟩
          clear hK K
          refine ⟨k + 1, ⟨by omega, hx.2.trans hst⟩, by omega, ?_⟩
          exact Wk.cut (by simp) (by simp [subE, wrap1 k (by omega)]) (by simp [cutH]) (by simp [lowE, lowN]) (by simp)
        rotate_right
        case' _ =>
          intro hb2
          trace_state
          have hf : nextD done n x k = true := by simp [nextD, hdk]; simpa using hb2
          rw [if_pos hf] at hst
          refine SW.regionK fun K hK => ?_
          simp
          first | refine hK _ ?_ | refine ⟨by omega, hK _ ?_⟩ | refine ⟨by omega, by omega, hK _ ?_⟩
          clear hK K
          refine SW.ret ?_
          simp [Ex.then, Ex.inBlock]
          all_goals first | done | (rw [hx.2, hst]; done) | simp [hal, nextOf])
set_option maxHeartbeats 1000000 in
theorem law_nextOf (l : List Deed) (done : List Bool) (n : Int) (hm : l.length ≤ maxLen) : Fn Try.prog 7 [.fz (DS l), .fz (BS done), .int .i64 n] (.bool true) := by
  refine Fn.intro Try.func7 (by decide) rfl (rs := [.tmp 6]) rfl Try.ntmps7 (by simp) ?_
  refine SW.regionK fun K hK => ?_
  simp
  first | refine hK _ ?_ | refine ⟨by omega, hK _ ?_⟩ | refine ⟨by omega, by omega, hK _ ?_⟩
  clear hK K
  refine SW.seqK fun K1 hK1 => ?_
  refine SW.regionK fun K hK => ?_
  simp
  first | refine hK _ ?_ | refine ⟨by omega, hK _ ?_⟩ | refine ⟨by omega, by omega, hK _ ?_⟩
  clear hK K
  refine SW.cond _ rfl (by simp) ?_ ?_
  case' refine_2 =>
    intro hb1
    simp at hb1
    have hd : done.length ≤ 1048576 := by omega
    first
    | (exfalso; simp at hb1; done)
    | (
      refine SW.skip ?_
      refine hK1 _ ?_
      refine SW.regionK fun K hK => ?_
      simp
      first | refine hK _ ?_ | refine ⟨by omega, hK _ ?_⟩ | refine ⟨by omega, by omega, hK _ ?_⟩
      clear hK K
      refine SW.regionK fun K hK => ?_
      simp
      first | refine ⟨by omega, by omega, ?_⟩ | refine ⟨by omega, ?_⟩ | skip
      refine CallK.fz (sz_deedS _ _) ?_
      simp
      first | refine hK _ ?_ | refine ⟨by omega, hK _ ?_⟩ | refine ⟨by omega, by omega, hK _ ?_⟩
      clear hK K
      refine SW.seqK fun K2 hK2 => ?_
      refine SW.regionK fun K hK => ?_
      simp
      first | refine hK _ ?_ | refine ⟨by omega, hK _ ?_⟩ | refine ⟨by omega, by omega, hK _ ?_⟩
      clear hK K
      refine SW.cond _ rfl (by simp) ?_ ?_
      case' refine_2 =>
        intro hb2
        simp at hb2
        have hm2 : l.length ≤ 2 ^ 63 - 1 := hm
        have hl : l.length ≤ 1048576 := by rw [wrapI _ (by omega) (by omega)] at hb2; split at hb2 <;> omega
        first
        | (exfalso; simp at hb2; done)
        | (
          refine SW.skip ?_
          refine hK2 _ ?_
          refine SW.regionK fun K hK => ?_
          simp
          first | refine ⟨by omega, by omega, ?_⟩ | refine ⟨by omega, ?_⟩ | skip
          refine CallK.fz (toDeedS_ok _ (by omega)) ?_
          simp
          first | refine ⟨by omega, by omega, ?_⟩ | refine ⟨by omega, ?_⟩ | skip
          refine CallK.fz (toBoolS_ok _ (by omega)) ?_
          simp
          first | refine ⟨by omega, by omega, ?_⟩ | refine ⟨by omega, ?_⟩ | skip
          refine CallK.fz (nextOf_spec _ _ _ (by omega)) ?_
          simp
          first | refine hK _ ?_ | refine ⟨by omega, hK _ ?_⟩ | refine ⟨by omega, by omega, hK _ ?_⟩
          clear hK K
          refine SW.regionK fun K hK => ?_
          simp
          first | refine ⟨by omega, by omega, ?_⟩ | refine ⟨by omega, ?_⟩ | skip
          refine CallK.fz (toDeedS_ok _ (by omega)) ?_
          simp
          first | refine hK _ ?_ | refine ⟨by omega, hK _ ?_⟩ | refine ⟨by omega, by omega, hK _ ?_⟩
          clear hK K
          refine SW.regionK fun K hK => ?_
          simp
          first | refine ⟨by omega, by omega, ?_⟩ | refine ⟨by omega, ?_⟩ | skip
          refine CallK.fz (toBoolS_ok _ (by omega)) ?_
          simp
          first | refine hK _ ?_ | refine ⟨by omega, hK _ ?_⟩ | refine ⟨by omega, by omega, hK _ ?_⟩
          clear hK K
          refine SW.regionK fun K hK => ?_
          simp
          first | refine ⟨by omega, by omega, ?_⟩ | refine ⟨by omega, ?_⟩ | skip
          refine CallK.fz (nextOf_impl _ _ _ (by omega)) ?_
          simp
          first | refine hK _ ?_ | refine ⟨by omega, hK _ ?_⟩ | refine ⟨by omega, by omega, hK _ ?_⟩
          clear hK K
          refine SW.seqK fun K3 hK3 => ?_
          refine SW.regionK fun K hK => ?_
          simp
          first | refine hK _ ?_ | refine ⟨by omega, hK _ ?_⟩ | refine ⟨by omega, by omega, hK _ ?_⟩
          clear hK K
          refine SW.cond _ rfl (by simp) ?_ ?_
          case' refine_2 =>
            intro hb3
            first
            | (exfalso; simp at hb3; done)
            | (
              refine SW.skip ?_
              refine hK3 _ ?_
              refine SW.seqK fun K4 hK4 => ?_
              refine SW.regionK fun K hK => ?_
              simp
              first | refine ⟨by omega, by omega, ?_⟩ | refine ⟨by omega, ?_⟩ | skip
              refine CallK.fz (toDeedS_ok _ (by omega)) ?_
              simp
              first | refine ⟨by omega, by omega, ?_⟩ | refine ⟨by omega, ?_⟩ | skip
              refine CallK.fz (eqDeedS_ok _ (by omega)) ?_
              simp
              first | refine hK _ ?_ | refine ⟨by omega, hK _ ?_⟩ | refine ⟨by omega, by omega, hK _ ?_⟩
              clear hK K
              refine SW.cond _ rfl (by simp) ?_ ?_
              case' refine_2 =>
                intro hb4
                first
                | (exfalso; simp at hb4; done)
                | (
                  refine SW.skip ?_
                  refine hK4 _ ?_
                  refine SW.seqK fun K5 hK5 => ?_
                  refine SW.regionK fun K hK => ?_
                  simp
                  first | refine ⟨by omega, by omega, ?_⟩ | refine ⟨by omega, ?_⟩ | skip
                  refine CallK.fz (toBoolS_ok _ (by omega)) ?_
                  simp
                  first | refine ⟨by omega, by omega, ?_⟩ | refine ⟨by omega, ?_⟩ | skip
                  refine CallK.fz (eqBoolS_ok _ (by omega)) ?_
                  simp
                  first | refine hK _ ?_ | refine ⟨by omega, hK _ ?_⟩ | refine ⟨by omega, by omega, hK _ ?_⟩
                  clear hK K
                  refine SW.cond _ rfl (by simp) ?_ ?_
                  case' refine_2 =>
                    intro hb5
                    first
                    | (exfalso; simp at hb5; done)
                    | (
                      refine SW.skip ?_
                      refine hK5 _ ?_
                      refine SW.regionK fun K hK => ?_
                      simp
                      first | refine hK _ ?_ | refine ⟨by omega, hK _ ?_⟩ | refine ⟨by omega, by omega, hK _ ?_⟩
                      clear hK K
                      refine SW.ret ?_
                      simp [Ex.then, Ex.inBlock])
                  rotate_right
                  case' _ =>
                    intro hb5
                    first
                    | (exfalso; simp at hb5; done)
                    | (
                      refine SW.regionK fun K hK => ?_
                      simp
                      first | refine hK _ ?_ | refine ⟨by omega, hK _ ?_⟩ | refine ⟨by omega, by omega, hK _ ?_⟩
                      clear hK K
                      refine SW.ret ?_
                      simp [Ex.then, Ex.inBlock]))
              rotate_right
              case' _ =>
                intro hb4
                first
                | (exfalso; simp at hb4; done)
                | (
                  refine SW.regionK fun K hK => ?_
                  simp
                  first | refine hK _ ?_ | refine ⟨by omega, hK _ ?_⟩ | refine ⟨by omega, by omega, hK _ ?_⟩
                  clear hK K
                  refine SW.ret ?_
                  simp [Ex.then, Ex.inBlock]))
          rotate_right
          case' _ =>
            intro hb3
            first
            | (exfalso; simp at hb3; done)
            | (
              refine SW.regionK fun K hK => ?_
              simp
              first | refine hK _ ?_ | refine ⟨by omega, hK _ ?_⟩ | refine ⟨by omega, by omega, hK _ ?_⟩
              clear hK K
              refine SW.ret ?_
              simp [Ex.then, Ex.inBlock]))
      rotate_right
      case' _ =>
        intro hb2
        first
        | (exfalso; simp at hb2; done)
        | (
          refine SW.regionK fun K hK => ?_
          simp
          first | refine hK _ ?_ | refine ⟨by omega, hK _ ?_⟩ | refine ⟨by omega, by omega, hK _ ?_⟩
          clear hK K
          refine SW.ret ?_
          simp [Ex.then, Ex.inBlock]))
  rotate_right
  case' _ =>
    intro hb1
    first
    | (exfalso; simp at hb1; done)
    | (
      refine SW.regionK fun K hK => ?_
      simp
      first | refine hK _ ?_ | refine ⟨by omega, hK _ ?_⟩ | refine ⟨by omega, by omega, hK _ ?_⟩
      clear hK K
      refine SW.ret ?_
      simp [Ex.then, Ex.inBlock])
end HO
