/-
  My own text (road H): HP1.
-/
import Derived.Test.YtjgmcbefeejgjaaHO7
set_option linter.unusedSimpArgs false
namespace HO
open Go Go.Proofs HK
def fitD (d : Deed) : Bool := decide (0 ≤ d.g) && decide (d.g < 10) && (decide (8 ≤ d.op) && decide (d.op ≤ 15)) && decide (-1 ≤ d.obj) && decide (d.obj < 100) && decide (-3 ≤ d.cas) && decide (d.cas < 100)
def fits (l : List Deed) : Bool := l.all fitD && decide (l.length ≤ 3000)
theorem fits_false {l : List Deed} {k : Nat} {x : Deed} (h : l[k]? = some x) (hx : fitD x = false) : fits l = false := by
  have hm := List.mem_of_getElem? h
  have : l.all fitD = false := by
    rw [List.all_eq_false]
    exact ⟨x, hm, by simp [hx]⟩
  simp [fits, this]
theorem fits_step {l : List Deed} {k : Nat} {x : Deed} (h : l[k]? = some x) (ha : (l.take k).all fitD = true) (hx : fitD x = true) : (l.take (k + 1)).all fitD = true := by
  rw [List.take_add_one, h, List.all_append, ha]
  simp [hx]
set_option maxHeartbeats 1000000 in
theorem shared_s (a : Int) : Fn Try.prog 41 [.int .i64 a] (.bool (decide (8 ≤ a) && decide (a ≤ 15))) := by
  refine Fn.intro Try.func41 (by decide) rfl (rs := [.tmp 2]) rfl Try.ntmps41 (by simp) ?_
  refine SW.regionK fun K hK => ?_
  simp
  first | refine hK _ ?_ | refine ⟨by omega, hK _ ?_⟩ | refine ⟨by omega, by omega, hK _ ?_⟩
  clear hK K
  refine SW.regionK fun K hK => ?_
  simp
  first | refine hK _ ?_ | refine ⟨by omega, hK _ ?_⟩ | refine ⟨by omega, by omega, hK _ ?_⟩
  clear hK K
  refine SW.ret ?_
  simp [Ex.then, Ex.inBlock]
set_option maxHeartbeats 1000000 in
theorem shared_i (a : Int) : Fn Try.prog 45 [.int .i64 a] (.bool (decide (8 ≤ a) && decide (a ≤ 15))) := by
  refine Fn.intro Try.func45 (by decide) rfl (rs := [.tmp 2]) rfl Try.ntmps45 (by simp) ?_
  refine SW.regionK fun K hK => ?_
  simp
  first | refine hK _ ?_ | refine ⟨by omega, hK _ ?_⟩ | refine ⟨by omega, by omega, hK _ ?_⟩
  clear hK K
  refine SW.regionK fun K hK => ?_
  simp
  first | refine hK _ ?_ | refine ⟨by omega, hK _ ?_⟩ | refine ⟨by omega, by omega, hK _ ?_⟩
  clear hK K
  refine SW.ret ?_
  simp [Ex.then, Ex.inBlock]
set_option maxHeartbeats 1000000 in
theorem within_ok (a b c : Int) : Fn Try.prog 44 [.int .i64 a, .int .i64 b, .int .i64 c] (.bool (decide (b ≤ a) && decide (a < c))) := by
  refine Fn.intro Try.func44 (by decide) rfl (rs := [.tmp 6]) rfl Try.ntmps44 (by simp) ?_
  refine SW.regionK fun K hK => ?_
  simp
  first | refine hK _ ?_ | refine ⟨by omega, hK _ ?_⟩ | refine ⟨by omega, by omega, hK _ ?_⟩
  clear hK K
  refine SW.regionK fun K hK => ?_
  simp
  first | refine hK _ ?_ | refine ⟨by omega, hK _ ?_⟩ | refine ⟨by omega, by omega, hK _ ?_⟩
  clear hK K
  refine SW.ret ?_
  simp [Ex.then, Ex.inBlock]
set_option maxHeartbeats 1000000 in
theorem fits_spec (l : List Deed) (hl : l.length ≤ 1048576) : Fn Try.prog 23 [.fz (DS l)] (.bool (fits l)) := by
  refine Fn.intro Try.func23 (by decide) rfl (rs := [.tmp 2]) rfl Try.ntmps23 (by simp) ?_
  refine SW.regionK fun K hK => ?_
  simp
  first | refine hK _ ?_ | refine ⟨by omega, hK _ ?_⟩ | refine ⟨by omega, by omega, hK _ ?_⟩
  clear hK K
  refine SW.seqK fun K1 hK1 => ?_
  refine SW.regionK fun K hK => ?_
  simp
  first | refine hK _ ?_ | refine ⟨by omega, hK _ ?_⟩ | refine ⟨by omega, by omega, hK _ ?_⟩
  clear hK K
  refine SW.block ?_
  refine SW.loop (α := Nat) (fun k => ⟨[(7, .int .i64 k), (6, .int .i64 l.length), (5, .fz (DS l)), (0, .fz (DS l))], []⟩) (fun k => k ≤ l.length ∧ (l.take k).all fitD = true) (fun k => l.length - k) (0) ?p0 ?w0 (fun k hx => ?body)
  case' p0 =>
    simp
  case' w0 =>
    exact Wk.cut (by simp) (by simp [subE]) (by simp [cutH]) (by simp [lowE, lowN]) (by simp)
  case' body =>
    skip
    refine SW.regionK fun K hK => ?_
    simp
    first | refine hK _ ?_ | refine ⟨by omega, hK _ ?_⟩ | refine ⟨by omega, by omega, hK _ ?_⟩
    clear hK K
    refine SW.seqK fun K2 hK2 => ?_
    refine SW.cond _ rfl (by simp) ?_ ?_
    case' refine_2 =>
      intro hb1
      have hk : k = l.length := by simp at hb1; omega
      subst hk
      have hal := hx.2
      rw [List.take_length] at hal
      refine SW.exit ?_
      simp only [Ex.then, Ex.inBlock]
      try simp only [if_true, if_false, reduceIte]
      refine hK1 _ ?_
      refine SW.regionK fun K hK => ?_
      simp
      first | refine hK _ ?_ | refine ⟨by omega, hK _ ?_⟩ | refine ⟨by omega, by omega, hK _ ?_⟩
      clear hK K
      refine SW.ret ?_
      simp [Ex.then, Ex.inBlock]
      all_goals first | done | simp [hff] | (simp [fits, hal] <;> omega)
    rotate_right
    case' _ =>
      intro hb1
      have hlt : k < l.length := by simpa using hb1
      obtain ⟨x, hxk⟩ : ∃ x, l[k]? = some x := ⟨_, List.getElem?_eq_getElem hlt⟩
      refine SW.skip ?_
      refine hK2 _ ?_
      refine SW.seqK fun K3 hK3 => ?_
      refine SW.block ?_
      refine SW.regionK fun K hK => ?_
      simp [hxk]
      first | refine hK _ ?_ | refine ⟨by omega, hK _ ?_⟩ | refine ⟨by omega, by omega, hK _ ?_⟩
      clear hK K
      refine SW.regionK fun K hK => ?_
      simp
      first | refine ⟨by omega, by omega, ?_⟩ | refine ⟨by omega, ?_⟩ | skip
      refine CallG.fz (by simp) (fun _ => shared_s _) ?_
      simp
      first | refine hK _ ?_ | refine ⟨by omega, hK _ ?_⟩ | refine ⟨by omega, by omega, hK _ ?_⟩
      clear hK K
      refine SW.cond _ rfl (by simp) ?_ ?_
      case' refine_2 =>
        intro hb2
        have hf : fitD x = true := by simp [fitD]; simp at hb2; omega
        refine SW.skip ?_
        refine hK3 _ ?_
        refine SW.regionE fun K hK => ?_
        simp
        first | refine hK _ ?_ | refine ⟨by omega, hK _ ?_⟩ | refine ⟨by omega, by omega, hK _ ?_⟩
        clear hK K
        refine ⟨k + 1, ⟨by omega, fits_step hxk hx.2 hf⟩, by omega, ?_⟩
        exact Wk.cut (by simp) (by simp [subE, wrap1 k (by omega)]) (by simp [cutH]) (by simp [lowE, lowN]) (by simp)
      rotate_right
      case' _ =>
        intro hb2
        have hf : fitD x = false := by
          cases h : fitD x with
          | false => rfl
          | true => exfalso; simp [fitD] at h hb2; omega
        have hff := fits_false hxk hf
        refine SW.regionK fun K hK => ?_
        simp
        first | refine hK _ ?_ | refine ⟨by omega, hK _ ?_⟩ | refine ⟨by omega, by omega, hK _ ?_⟩
        clear hK K
        refine SW.ret ?_
        simp [Ex.then, Ex.inBlock]
        all_goals first | done | simp [hff] | (simp [fits, hal] <;> omega)
set_option maxHeartbeats 1000000 in
theorem fits_impl (l : List Deed) (hl : l.length ≤ 1048576) : Fn Try.prog 24 [.fz (DS l)] (.bool (fits l)) := by
  refine Fn.intro Try.func24 (by decide) rfl (rs := [.tmp 2]) rfl Try.ntmps24 (by simp) ?_
  refine SW.regionK fun K hK => ?_
  simp
  first | refine hK _ ?_ | refine ⟨by omega, hK _ ?_⟩ | refine ⟨by omega, by omega, hK _ ?_⟩
  clear hK K
  refine SW.seqK fun K1 hK1 => ?_
  refine SW.regionK fun K hK => ?_
  simp
  first | refine hK _ ?_ | refine ⟨by omega, hK _ ?_⟩ | refine ⟨by omega, by omega, hK _ ?_⟩
  clear hK K
  refine SW.block ?_
  refine SW.loop (α := Nat) (fun k => ⟨[(7, .int .i64 k), (6, .int .i64 l.length), (5, .fz (DS l)), (0, .fz (DS l))], []⟩) (fun k => k ≤ l.length ∧ (l.take k).all fitD = true) (fun k => l.length - k) (0) ?p0 ?w0 (fun k hx => ?body)
  case' p0 =>
    simp
  case' w0 =>
    exact Wk.cut (by simp) (by simp [subE]) (by simp [cutH]) (by simp [lowE, lowN]) (by simp)
  case' body =>
    skip
    refine SW.regionK fun K hK => ?_
    simp
    first | refine hK _ ?_ | refine ⟨by omega, hK _ ?_⟩ | refine ⟨by omega, by omega, hK _ ?_⟩
    clear hK K
    refine SW.seqK fun K2 hK2 => ?_
    refine SW.cond _ rfl (by simp) ?_ ?_
    case' refine_2 =>
      intro hb1
      have hk : k = l.length := by simp at hb1; omega
      subst hk
      have hal := hx.2
      rw [List.take_length] at hal
      refine SW.exit ?_
      simp only [Ex.then, Ex.inBlock]
      try simp only [if_true, if_false, reduceIte]
      refine hK1 _ ?_
      refine SW.regionK fun K hK => ?_
      simp
      first | refine hK _ ?_ | refine ⟨by omega, hK _ ?_⟩ | refine ⟨by omega, by omega, hK _ ?_⟩
      clear hK K
      refine SW.ret ?_
      simp [Ex.then, Ex.inBlock]
      all_goals first | done | simp [hff] | (simp [fits, hal] <;> omega)
    rotate_right
    case' _ =>
      intro hb1
      have hlt : k < l.length := by simpa using hb1
      obtain ⟨x, hxk⟩ : ∃ x, l[k]? = some x := ⟨_, List.getElem?_eq_getElem hlt⟩
      refine SW.skip ?_
      refine hK2 _ ?_
      refine SW.seqK fun K3 hK3 => ?_
      refine SW.block ?_
      refine SW.regionK fun K hK => ?_
      simp [hxk]
      first | refine hK _ ?_ | refine ⟨by omega, hK _ ?_⟩ | refine ⟨by omega, by omega, hK _ ?_⟩
      clear hK K
      refine SW.regionK fun K hK => ?_
      simp
      first | refine ⟨by omega, by omega, ?_⟩ | refine ⟨by omega, ?_⟩ | skip
      refine CallK.fz (within_ok _ _ _) ?_
      simp
      first | refine ⟨by omega, by omega, ?_⟩ | refine ⟨by omega, ?_⟩ | skip
      refine CallG.fz (by simp) (fun _ => shared_i _) ?_
      simp
      first | refine ⟨by omega, by omega, ?_⟩ | refine ⟨by omega, ?_⟩ | skip
      refine CallG.fz (by simp) (fun _ => within_ok _ _ _) ?_
      simp
      first | refine ⟨by omega, by omega, ?_⟩ | refine ⟨by omega, ?_⟩ | skip
      refine CallG.fz (by simp) (fun _ => within_ok _ _ _) ?_
      simp
      first | refine hK _ ?_ | refine ⟨by omega, hK _ ?_⟩ | refine ⟨by omega, by omega, hK _ ?_⟩
      clear hK K
      refine SW.cond _ rfl (by simp) ?_ ?_
      case' refine_2 =>
        intro hb2
        have hf : fitD x = true := by simp [fitD]; simp at hb2; omega
        refine SW.skip ?_
        refine hK3 _ ?_
        refine SW.regionE fun K hK => ?_
        simp
        first | refine hK _ ?_ | refine ⟨by omega, hK _ ?_⟩ | refine ⟨by omega, by omega, hK _ ?_⟩
        clear hK K
        refine ⟨k + 1, ⟨by omega, fits_step hxk hx.2 hf⟩, by omega, ?_⟩
        exact Wk.cut (by simp) (by simp [subE, wrap1 k (by omega)]) (by simp [cutH]) (by simp [lowE, lowN]) (by simp)
      rotate_right
      case' _ =>
        intro hb2
        have hf : fitD x = false := by
          cases h : fitD x with
          | false => rfl
          | true => exfalso; simp [fitD] at h hb2; omega
        have hff := fits_false hxk hf
        refine SW.regionK fun K hK => ?_
        simp
        first | refine hK _ ?_ | refine ⟨by omega, hK _ ?_⟩ | refine ⟨by omega, by omega, hK _ ?_⟩
        clear hK K
        refine SW.ret ?_
        simp [Ex.then, Ex.inBlock]
        all_goals first | done | simp [hff] | (simp [fits, hal] <;> omega)
set_option maxHeartbeats 1000000 in
theorem law_fits (l : List Deed) (hm : l.length ≤ maxLen) : Fn Try.prog 6 [.fz (DS l)] (.bool true) := by
  refine Fn.intro Try.func6 (by decide) rfl (rs := [.tmp 2]) rfl Try.ntmps6 (by simp) ?_
  refine SW.regionK fun K hK => ?_
  simp
  first | refine hK _ ?_ | refine ⟨by omega, hK _ ?_⟩ | refine ⟨by omega, by omega, hK _ ?_⟩
  clear hK K
  refine SW.regionK fun K hK => ?_
  simp
  first | refine hK _ ?_ | refine ⟨by omega, hK _ ?_⟩ | refine ⟨by omega, by omega, hK _ ?_⟩
  clear hK K
  refine SW.regionK fun K hK => ?_
  simp
  first | refine ⟨by omega, by omega, ?_⟩ | refine ⟨by omega, ?_⟩ | skip
  refine CallK.fz (sz_deedS _ _) ?_
  simp
  first | refine hK _ ?_ | refine ⟨by omega, hK _ ?_⟩ | refine ⟨by omega, by omega, hK _ ?_⟩
  clear hK K
  refine SW.seqK fun K1 hK1 => ?_
  refine SW.regionK fun K hK => ?_
  simp
  first | refine hK _ ?_ | refine ⟨by omega, hK _ ?_⟩ | refine ⟨by omega, by omega, hK _ ?_⟩
  clear hK K
  refine SW.cond _ rfl (by simp) ?_ ?_
  case' refine_2 =>
    intro hb1
    simp at hb1
    have hm2 : l.length ≤ 2 ^ 63 - 1 := hm
    have hl : l.length ≤ 1048576 := by rw [wrapI _ (by omega) (by omega)] at hb1; split at hb1 <;> omega
    first
    | (exfalso; simp at hb1; done)
    | (
      refine SW.skip ?_
      refine hK1 _ ?_
      refine SW.regionK fun K hK => ?_
      simp
      first | refine ⟨by omega, by omega, ?_⟩ | refine ⟨by omega, ?_⟩ | skip
      refine CallK.fz (toDeedS_ok _ (by omega)) ?_
      simp
      first | refine ⟨by omega, by omega, ?_⟩ | refine ⟨by omega, ?_⟩ | skip
      refine CallK.fz (fits_spec _ (by omega)) ?_
      simp
      first | refine hK _ ?_ | refine ⟨by omega, hK _ ?_⟩ | refine ⟨by omega, by omega, hK _ ?_⟩
      clear hK K
      refine SW.regionK fun K hK => ?_
      simp
      first | refine ⟨by omega, by omega, ?_⟩ | refine ⟨by omega, ?_⟩ | skip
      refine CallK.fz (toDeedS_ok _ (by omega)) ?_
      simp
      first | refine hK _ ?_ | refine ⟨by omega, hK _ ?_⟩ | refine ⟨by omega, by omega, hK _ ?_⟩
      clear hK K
      refine SW.regionK fun K hK => ?_
      simp
      first | refine ⟨by omega, by omega, ?_⟩ | refine ⟨by omega, ?_⟩ | skip
      refine CallK.fz (fits_impl _ (by omega)) ?_
      simp
      first | refine hK _ ?_ | refine ⟨by omega, hK _ ?_⟩ | refine ⟨by omega, by omega, hK _ ?_⟩
      clear hK K
      refine SW.seqK fun K2 hK2 => ?_
      refine SW.regionK fun K hK => ?_
      simp
      first | refine hK _ ?_ | refine ⟨by omega, hK _ ?_⟩ | refine ⟨by omega, by omega, hK _ ?_⟩
      clear hK K
      refine SW.cond _ rfl (by simp) ?_ ?_
      case' refine_2 =>
        intro hb2
        first
        | (exfalso; simp at hb2; done)
        | (
          refine SW.skip ?_
          refine hK2 _ ?_
          refine SW.seqK fun K3 hK3 => ?_
          refine SW.regionK fun K hK => ?_
          simp
          first | refine ⟨by omega, by omega, ?_⟩ | refine ⟨by omega, ?_⟩ | skip
          refine CallK.fz (toDeedS_ok _ (by omega)) ?_
          simp
          first | refine ⟨by omega, by omega, ?_⟩ | refine ⟨by omega, ?_⟩ | skip
          refine CallK.fz (eqDeedS_ok _ (by omega)) ?_
          simp
          first | refine hK _ ?_ | refine ⟨by omega, hK _ ?_⟩ | refine ⟨by omega, by omega, hK _ ?_⟩
          clear hK K
          refine SW.cond _ rfl (by simp) ?_ ?_
          case' refine_2 =>
            intro hb3
            first
            | (exfalso; simp at hb3; done)
            | (
              refine SW.skip ?_
              refine hK3 _ ?_
              refine SW.regionK fun K hK => ?_
              simp
              first | refine hK _ ?_ | refine ⟨by omega, hK _ ?_⟩ | refine ⟨by omega, by omega, hK _ ?_⟩
              clear hK K
              refine SW.ret ?_
              simp [Ex.then, Ex.inBlock])
          rotate_right
          case' _ =>
            intro hb3
            first
            | (exfalso; simp at hb3; done)
            | (
              refine SW.regionK fun K hK => ?_
              simp
              first | refine hK _ ?_ | refine ⟨by omega, hK _ ?_⟩ | refine ⟨by omega, by omega, hK _ ?_⟩
              clear hK K
              refine SW.ret ?_
              simp [Ex.then, Ex.inBlock]))
      rotate_right
      case' _ =>
        intro hb2
        first
        | (exfalso; simp at hb2; done)
        | (
          refine SW.regionK fun K hK => ?_
          simp
          first | refine hK _ ?_ | refine ⟨by omega, hK _ ?_⟩ | refine ⟨by omega, by omega, hK _ ?_⟩
          clear hK K
          refine SW.ret ?_
          simp [Ex.then, Ex.inBlock]))
  rotate_right
  case' _ =>
    intro hb1
    first
    | (exfalso; simp at hb1; done)
    | (
      refine SW.regionK fun K hK => ?_
      simp
      first | refine hK _ ?_ | refine ⟨by omega, hK _ ?_⟩ | refine ⟨by omega, by omega, hK _ ?_⟩
      clear hK K
      refine SW.ret ?_
      simp [Ex.then, Ex.inBlock])
end HO
