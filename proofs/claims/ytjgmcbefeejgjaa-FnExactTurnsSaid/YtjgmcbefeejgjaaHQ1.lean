/-
  My own text (road H): HQ1.
-/
import Derived.Test.YtjgmcbefeejgjaaHO7
import Derived.Test.YtjgmcbefeejgjaaHK28
set_option linter.unusedSimpArgs false
namespace HO
open Go Go.Proofs HK
def PS (l : List (Int × Int)) : List (List AV) := l.map fun p => [.int .i64 p.1, .int .i64 p.2]
theorem PS_int {l : List (Int × Int)} {x : List AV} {y : AV} (hx : x ∈ PS l) (hy : y ∈ x) : ∃ n, y = .int .i64 n := by
  obtain ⟨d, _, rfl⟩ := List.mem_map.1 hx
  simp at hy
  rcases hy with rfl | rfl <;> exact ⟨_, rfl⟩
@[simp] theorem PS_length (l : List (Int × Int)) : (PS l).length = l.length := by simp [PS]
@[simp] theorem PS_get (l : List (Int × Int)) (k : Nat) : (PS l)[k]? = (l[k]?).map fun p => [.int .i64 p.1, .int .i64 p.2] := by simp [PS]
@[simp] theorem PS_view (l : List (Int × Int)) (h : Heap) (d : Nat) : (PS l).map (List.map (viewN h (d + 1))) = PS l := by
  simp [PS, Function.comp_def]
@[simp] theorem PS_ren (l : List (Int × Int)) (ids : List Nat) (d : Nat) : (PS l).map (List.map (renN ids (d + 1))) = PS l := by
  simp [PS, Function.comp_def, renN]
/-- The first k turns. -/
def tns (k : Nat) : List (Int × Int) := (List.range k).map fun i : Nat => ((i : Int), (i : Int))
@[simp] theorem tns_length (k : Nat) : (tns k).length = k := by simp [tns]
theorem tns_succ (k : Nat) : PS (tns (k + 1)) = PS (tns k) ++ [[.int .i64 k, .int .i64 k]] := by simp [tns, PS, List.range_succ]
@[simp] theorem tns_zero : PS (tns 0) = [] := rfl
@[simp] theorem tns_take (k : Nat) : List.take k (PS (tns k)) = PS (tns k) := by
  have := List.take_length (l := PS (tns k))
  rwa [PS_length, tns_length] at this
def ml (n : Int) : Int := if 2000 < n then 2000 else n
def tn (n : Int) : Nat := (min n 2000).toNat
theorem tn_eq (n : Int) : (if 0 < if 2000 < n then 2000 else n then if 2000 < n then 2000 else n else 0) = (tn n : Int) := by
  unfold tn
  split <;> split <;> omega
theorem tn_ml (n : Int) : tn n = (ml n).toNat := by unfold tn ml; split <;> omega
theorem tn_le (n : Int) : tn n ≤ 2000 := by unfold tn; omega
set_option maxHeartbeats 1000000 in
theorem turns_impl (n : Int) : Fn Try.prog 14 [.int .i64 n] (.own 2 (PS (tns (tn n)))) := by
  refine Fn.intro Try.func14 (by decide) rfl (rs := [.tmp 2]) rfl Try.ntmps14 (by simp) ?_
  refine SW.regionK fun K hK => ?_
  simp
  first | refine hK _ ?_ | refine ⟨by omega, hK _ ?_⟩ | refine ⟨by omega, by omega, hK _ ?_⟩
  clear hK K
  refine SW.regionK fun K hK => ?_
  simp
  first | refine hK _ ?_ | refine ⟨by omega, hK _ ?_⟩ | refine ⟨by omega, by omega, hK _ ?_⟩
  clear hK K
  refine SW.seqK fun K1 hK1 => ?_
  refine SW.regionK fun K hK => ?_
  simp
  first | refine hK _ ?_ | refine ⟨by omega, hK _ ?_⟩ | refine ⟨by omega, by omega, hK _ ?_⟩
  clear hK K
  refine SW.block ?_
  refine SW.loop (α := Nat) (fun k => ⟨[(9, .int .i64 k), (8, .int .i64 (tn n)), (3, .sl 0 0 k)], [some ⟨2, PS (tns k)⟩]⟩) (fun k => k ≤ tn n) (fun k => tn n - k) (0) ?_ ?_ (fun k hx => ?_)
  case' refine_1 =>
    simp
  case' refine_2 =>
    exact Wk.cut (by simp) (by simp [subE, tn_eq]) (by simp [cutH]) (by simp [lowE, lowN]) (by simp [lowB, lowN])
  case' refine_3 =>
    skip
    refine SW.regionK fun K hK => ?_
    simp
    first | refine hK _ ?_ | refine ⟨by omega, hK _ ?_⟩ | refine ⟨by omega, by omega, hK _ ?_⟩
    clear hK K
    refine SW.seqK fun K2 hK2 => ?_
    refine SW.cond _ rfl (by simp) ?_ ?_
    case' refine_2 =>
      intro hb1
      have hk : k = tn n := by simp at hb1; omega
      subst hk
      refine SW.exit ?_
      simp only [Ex.then, Ex.inBlock]
      try simp only [if_true, if_false, reduceIte]
      refine hK1 _ ?_
      refine SW.regionK fun K hK => ?_
      simp
      first | refine hK _ ?_ | refine ⟨by omega, hK _ ?_⟩ | refine ⟨by omega, by omega, hK _ ?_⟩
      clear hK K
      refine SW.ret ?_
      simp [Ex.then, Ex.inBlock]
      all_goals (
        intro x hx y hy
        obtain ⟨n, rfl⟩ := PS_int hx hy
        rfl)
    rotate_right
    case' _ =>
      intro hb1
      have hlt : k < tn n := by simpa using hb1
      have ht := tn_le n
      refine SW.skip ?_
      refine hK2 _ ?_
      refine SW.seqK fun K3 hK3 => ?_
      refine SW.block ?_
      refine SW.regionK fun K hK => ?_
      simp
      first | refine hK _ ?_ | refine ⟨by omega, hK _ ?_⟩ | refine ⟨by omega, by omega, hK _ ?_⟩
      clear hK K
      refine SW.regionE fun K hK => ?_
      simp
      first | refine hK _ ?_ | refine ⟨by omega, hK _ ?_⟩ | refine ⟨by omega, by omega, hK _ ?_⟩
      clear hK K
      refine hK3 _ ?_
      refine SW.regionE fun K hK => ?_
      simp
      first | refine hK _ ?_ | refine ⟨by omega, hK _ ?_⟩ | refine ⟨by omega, by omega, hK _ ?_⟩
      clear hK K
      refine ⟨k + 1, by omega, by omega, ?_⟩
      exact Wk.ren [2] (by simp) (by simp) (by simp) (by simp) (by simp [renE, renN, wrap1 k (by omega)]) (by simp [renH, tns_succ]; try simp [renN]) (by simp [lowE, lowN]) (by simp [lowB, lowN]; intro x hx y hy; obtain ⟨n, rfl⟩ := PS_int hx hy; rfl)
set_option maxHeartbeats 1000000 in
theorem turns_spec (n : Int) : Fn Try.prog 13 [.int .i64 n] (.own 2 (PS (tns (tn n)))) := by
  refine Fn.intro Try.func13 (by decide) rfl (rs := [.tmp 2]) rfl Try.ntmps13 (by simp) ?_
  refine SW.regionK fun K hK => ?_
  simp
  first | refine hK _ ?_ | refine ⟨by omega, hK _ ?_⟩ | refine ⟨by omega, by omega, hK _ ?_⟩
  clear hK K
  refine SW.seqK fun K1 hK1 => ?_
  refine SW.regionK fun K hK => ?_
  simp
  first | refine hK _ ?_ | refine ⟨by omega, hK _ ?_⟩ | refine ⟨by omega, by omega, hK _ ?_⟩
  clear hK K
  refine SW.cond _ rfl (by simp) ?_ ?_
  case' refine_2 =>
    intro hb1
    have hn : ml n = n := by simp at hb1; simp [ml]; omega
    refine SW.skip ?_
  rotate_right
  case' _ =>
    intro hb1
    have hn : ml n = 2000 := by simp at hb1; simp [ml, hb1]
    refine SW.regionE fun K hK => ?_
    simp
    first | refine hK _ ?_ | refine ⟨by omega, hK _ ?_⟩ | refine ⟨by omega, by omega, hK _ ?_⟩
    clear hK K
  all_goals (
    refine hK1 _ ?_
    refine SW.regionK fun K hK => ?_
    simp
    first | refine hK _ ?_ | refine ⟨by omega, hK _ ?_⟩ | refine ⟨by omega, by omega, hK _ ?_⟩
    clear hK K
    refine SW.seqK fun K2 hK2 => ?_
    refine SW.regionK fun K hK => ?_
    simp
    first | refine hK _ ?_ | refine ⟨by omega, hK _ ?_⟩ | refine ⟨by omega, by omega, hK _ ?_⟩
    clear hK K
    refine SW.block ?_
    refine SW.loop (α := Nat) (fun k => ⟨[(4, .int .i64 k), (0, .int .i64 (ml n)), (3, .sl 0 0 k)], [some ⟨2, PS (tns k)⟩]⟩) (fun k => k ≤ tn n) (fun k => tn n - k) (0) ?_ ?_ (fun k hx => ?_)
    case' refine_1 =>
      simp
    case' refine_2 =>
      exact Wk.cut (by simp) (by simp [subE, hn]) (by simp [cutH]) (by simp [lowE, lowN]) (by simp [lowB, lowN])
    case' refine_3 =>
      skip
      refine SW.seqK fun K3 hK3 => ?_
      refine SW.regionK fun K hK => ?_
      simp
      first | refine hK _ ?_ | refine ⟨by omega, hK _ ?_⟩ | refine ⟨by omega, by omega, hK _ ?_⟩
      clear hK K
      refine SW.cond _ rfl (by simp) ?_ ?_
      case' refine_2 =>
        intro hb2
        have hk : k = tn n := by rw [tn_ml] at hx ⊢; simp at hb2; omega
        subst hk
        refine SW.exit ?_
        simp only [Ex.then, Ex.inBlock]
        try simp only [if_true, if_false, reduceIte]
        refine hK2 _ ?_
        refine SW.regionK fun K hK => ?_
        simp
        first | refine hK _ ?_ | refine ⟨by omega, hK _ ?_⟩ | refine ⟨by omega, by omega, hK _ ?_⟩
        clear hK K
        refine SW.ret ?_
        simp [Ex.then, Ex.inBlock]
        all_goals (
          intro x hx y hy
          obtain ⟨n, rfl⟩ := PS_int hx hy
          rfl)
      rotate_right
      case' _ =>
        intro hb2
        have hlt : k < tn n := by rw [tn_ml]; simp at hb2; omega
        have ht := tn_le n
        refine SW.skip ?_
        refine hK3 _ ?_
        refine SW.seqK fun K4 hK4 => ?_
        refine SW.block ?_
        refine SW.regionE fun K hK => ?_
        simp
        first | refine hK _ ?_ | refine ⟨by omega, hK _ ?_⟩ | refine ⟨by omega, by omega, hK _ ?_⟩
        clear hK K
        refine hK4 _ ?_
        refine SW.regionE fun K hK => ?_
        simp
        first | refine hK _ ?_ | refine ⟨by omega, hK _ ?_⟩ | refine ⟨by omega, by omega, hK _ ?_⟩
        clear hK K
        refine ⟨k + 1, by omega, by omega, ?_⟩
        exact Wk.ren [2] (by simp) (by simp) (by simp) (by simp) (by simp [renE, renN, wrap1 k (by omega)]) (by simp [renH, tns_succ]; try simp [renN]) (by simp [lowE, lowN]) (by simp [lowB, lowN]; intro x hx y hy; obtain ⟨n, rfl⟩ := PS_int hx hy; rfl))
end HO
