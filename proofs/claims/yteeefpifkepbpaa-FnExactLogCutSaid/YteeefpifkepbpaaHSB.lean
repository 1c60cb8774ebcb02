/-
  My own text (road H): HSB.
-/
import Derived.Test.YteeefpifkepbpaaHSA
set_option linter.unusedSimpArgs false
namespace HS
open Go Go.Proofs HK
theorem DS_lenG (l : List Deed) (k : Nat) (h : k < l.length) : ((Option.map Deed.c l[k]?).getD []).length = 4 := by simp [h]
def cutN (n : Int) (k : Nat) : Nat := (max 0 (min n k)).toNat
theorem cutN_le (n : Int) (k : Nat) : cutN n k ≤ k := by unfold cutN; omega
theorem cut_eq (n : Int) (k : Nat) : (if 0 < if (k : Int) < n then (k : Int) else n then if (k : Int) < n then (k : Int) else n else 0) = ((cutN n k : Nat) : Int) := by
  unfold cutN
  split <;> split <;> omega
@[simp] theorem DS_takeT (l : List Deed) (k : Nat) : List.take (min k l.length) (DS (l.take k)) = DS (l.take k) := by
  rw [← List.length_take]; exact DS_take _
set_option maxHeartbeats 1000000 in
theorem logCut_spec (p : Int) (l : List Deed) (n : Int) (hl : l.length ≤ 2 ^ 29) : Fn Try.prog 29 [LogC p l, .int .i64 n] (.agg [.int .i64 p, .own 4 (DS (l.take (cutN n l.length)))]) := by
  refine Fn.intro Try.func29 (by decide) rfl (rs := [.cell 4 45]) rfl Try.ntmps29 (by simp) ?_
  refine SW.regionK fun K hK => ?_
  simp -implicitDefEqProofs
  first | refine hK _ ?_ | refine ⟨by omega, hK _ ?_⟩ | refine ⟨by omega, by omega, hK _ ?_⟩
  clear hK K
  refine SW.seqK fun K1 hK1 => ?_
  refine SW.regionK fun K hK => ?_
  simp -implicitDefEqProofs
  first | refine hK _ ?_ | refine ⟨by omega, hK _ ?_⟩ | refine ⟨by omega, by omega, hK _ ?_⟩
  clear hK K
  refine SW.cond _ rfl (by simp) ?_ ?_
  case' refine_2 =>
    intro hb1
    obtain ⟨N, rfl⟩ : ∃ N : Nat, n = N := ⟨n.toNat, by simp at hb1; omega⟩
    first
    | (exfalso; simp at hb1; done)
    | (exfalso; simp at hb1; omega)
    | (
      refine SW.skip ?_)
  rotate_right
  case' _ =>
    intro hb1
    have hq : cutN n l.length = 0 := by simp at hb1; unfold cutN; omega
    first
    | (exfalso; simp at hb1; done)
    | (exfalso; simp at hb1; omega)
    | (
      refine SW.regionE fun K hK => ?_
      simp -implicitDefEqProofs
      first | refine hK _ ?_ | refine ⟨by omega, hK _ ?_⟩ | refine ⟨by omega, by omega, hK _ ?_⟩
      clear hK K)
  all_goals (
    refine hK1 _ ?_
    refine SW.seqK fun K2 hK2 => ?_
    refine SW.regionK fun K hK => ?_
    simp -implicitDefEqProofs
    first | refine hK _ ?_ | refine ⟨by omega, hK _ ?_⟩ | refine ⟨by omega, by omega, hK _ ?_⟩
    clear hK K
    refine SW.cond _ rfl (by simp) ?_ ?_
    case' refine_2 =>
      intro hb2
      first
      | (exfalso; simp at hb2; done)
      | (exfalso; simp at hb2; omega)
      | (
        first
          | (have hq2 : cutN (N : Int) l.length = N := by simp at hb2; unfold cutN; omega)
          | skip
        first
          | (have hq3 : N ≤ l.length := by simp at hb2; omega)
          | skip
        refine SW.skip ?_)
    rotate_right
    case' _ =>
      intro hb2
      first
      | (exfalso; simp at hb2; done)
      | (exfalso; simp at hb2; omega)
      | (
        have hq : cutN (N : Int) l.length = l.length := by simp at hb2; unfold cutN; omega
        refine SW.regionE fun K hK => ?_
        simp -implicitDefEqProofs
        first | refine hK _ ?_ | refine ⟨by omega, hK _ ?_⟩ | refine ⟨by omega, by omega, hK _ ?_⟩
        clear hK K)
    all_goals (
      refine hK2 _ ?_
      refine SW.drawK mixed [.q [(0, false), (1, false), (2, false), (3, false), (4, false), (5, false), (6, false), (7, true), (8, false)], .b 9] (by kernel_rfl) rfl fun K hK => ?_
      simp -implicitDefEqProofs
      first
        | refine hK _ ?_
        | refine ⟨fun h0 => DS_lenG l 0 (by omega), ⟨fun e he => DS_len he, fun x hx y hy => DS_oc hx hy, by omega⟩, hK _ ?_⟩
        | refine ⟨⟨by omega, fun h0 => DS_lenG l 0 (by omega)⟩, ⟨fun e he => DS_len (List.mem_of_mem_take he), fun x hx y hy => DS_oc (List.mem_of_mem_take hx) hy, by omega⟩, hK _ ?_⟩
      clear hK K
      refine SW.ret ?_
      simp [Ex.then, Ex.inBlock]
      first
        | (simp [hq]; done)
        | (rw [hq, List.take_length]; exact ⟨fun x hx y hy => by obtain ⟨n, rfl⟩ := DS_int hx hy; rfl, rfl⟩)
        | (rw [hq2, Nat.min_eq_left hq3, DS_takeN, List.take_of_length_le (by simp; omega)]; exact ⟨fun x hx y hy => by obtain ⟨n, rfl⟩ := DS_int hx hy; rfl, rfl⟩)))
set_option maxHeartbeats 1000000 in
theorem logCut_impl (p : Int) (l : List Deed) (n : Int) (hl : l.length ≤ 2 ^ 29) (hc : cutN n l.length ≤ l.length) : Fn Try.prog 31 [LogC p l, .int .i64 n] (.agg [.int .i64 p, .own 4 (DS (l.take (cutN n l.length)))]) := by
  refine Fn.intro Try.func31 (by decide) rfl (rs := [.cell 4 45]) rfl Try.ntmps31 (by simp) ?_
  refine SW.regionK fun K hK => ?_
  simp -implicitDefEqProofs
  first | refine hK _ ?_ | refine ⟨by omega, hK _ ?_⟩ | refine ⟨by omega, by omega, hK _ ?_⟩
  clear hK K
  refine SW.regionK fun K hK => ?_
  simp -implicitDefEqProofs [cut_eq, Nat.min_eq_left hc]
  first | refine ⟨by omega, by omega, ?_⟩ | refine ⟨by omega, ?_⟩ | skip
  refine ⟨⟨hc, fun h0 => DS_lenG l 0 (by omega)⟩, ?_⟩
  refine CallK.imE (cloneD_ok (l.take (cutN n l.length)) (by simp; omega)) (by simp [DS_takeN]) (DS_okI _) ?_
  simp -implicitDefEqProofs [cut_eq, Nat.min_eq_left hc]
  first | refine hK _ ?_ | refine ⟨by omega, hK _ ?_⟩ | refine ⟨by omega, by omega, hK _ ?_⟩
  clear hK K
  refine SW.regionK fun K hK => ?_
  simp -implicitDefEqProofs [Nat.min_eq_left hc]
  first | refine hK _ ?_ | refine ⟨by omega, hK _ ?_⟩ | refine ⟨by omega, by omega, hK _ ?_⟩
  clear hK K
  refine SW.ret ?_
  simp [Ex.then, Ex.inBlock]
  have ht : List.take (cutN n l.length) (DS (l.take (cutN n l.length))) = DS (l.take (cutN n l.length)) := List.take_of_length_le (by simp; omega)
  rw [ht]
  exact ⟨⟨by omega, fun x hx y hy => by obtain ⟨n, rfl⟩ := DS_int hx hy; rfl⟩, rfl⟩
end HS
