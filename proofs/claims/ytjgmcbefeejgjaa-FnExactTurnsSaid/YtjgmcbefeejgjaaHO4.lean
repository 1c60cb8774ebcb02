/-
  My own text (road H): HO4.
-/
import Derived.Test.YtjgmcbefeejgjaaHO3
set_option linter.unusedSimpArgs false
namespace HO
open Go Go.Proofs HK
@[simp] theorem DS_take (l : List Deed) : (DS l).take l.length = DS l := by rw [← DS_length l, List.take_length]
theorem getS {β : Type} (z : β) (l : List β) (k : Nat) (hk : k < l.length) : (l.take k ++ List.replicate (l.length - k) z)[k]? = some z := by
  rw [List.getElem?_append_right (by simp; omega), List.getElem?_replicate, if_pos (by simp; omega)]
theorem wrapI (n : Int) (h : -2 ^ 63 ≤ n) (h' : n < 2 ^ 63) : IntKind.i64.wrap n = n := by
  have e : IntKind.i64.wrap n = if n % 2 ^ 64 ≥ 2 ^ 63 then n % 2 ^ 64 - 2 ^ 64 else n % 2 ^ 64 := by
    simp [IntKind.wrap, IntKind.bits, IntKind.signed]
  rw [e]
  split <;> omega
theorem wrap1 (k : Nat) (h : k + 1 < 2 ^ 63) : IntKind.i64.wrap ((k : Int) + 1) = (k : Int) + 1 := wrapI _ (by omega) (by omega)
abbrev zD : List AV := [.int .i64 0, .int .i64 0, .int .i64 0, .int .i64 0]
theorem fillS {β : Type} (z : β) (l : List β) (k : Nat) (x : β) (hk : l[k]? = some x) : (l.take k ++ List.replicate (l.length - k) z).set k x = l.take (k + 1) ++ List.replicate (l.length - (k + 1)) z := by
  have hlt := (List.getElem?_eq_some_iff.1 hk).1
  rw [List.set_append_right _ _ (by simp; omega)]
  have e : l.length - k = (l.length - (k + 1)) + 1 := by omega
  rw [e, List.replicate_succ]
  have e2 : k - (l.take k).length = 0 := by simp; omega
  rw [e2, List.set_cons_zero, List.take_add_one, hk]
  simp

set_option maxHeartbeats 1000000 in
theorem toDeedS_ok (l : List Deed) (hl : l.length ≤ 1048576) : Fn Try.prog 20 [.fz (DS l)] (.own 4 (DS l)) := by
  refine Fn.intro Try.func20 (by decide) rfl (rs := [.tmp 2]) rfl Try.ntmps20 (by simp) ?_
  refine SW.regionK fun K hK => ?_
  simp
  first | refine hK _ ?_ | refine ⟨by omega, hK _ ?_⟩ | refine ⟨by omega, by omega, hK _ ?_⟩
  clear hK K
  refine SW.regionK fun K hK => ?_
  simp
  first | refine hK _ ?_ | refine ⟨by omega, hK _ ?_⟩ | refine ⟨by omega, by omega, hK _ ?_⟩
  clear hK K
  refine SW.seqK fun K1 hK1 => ?_
  refine SW.regionK fun K hK => ?_
  simp
  first | refine hK _ ?_ | refine ⟨by omega, hK _ ?_⟩ | refine ⟨by omega, by omega, hK _ ?_⟩
  clear hK K
  refine SW.block ?_
  refine SW.loop (α := Nat) (fun k => ⟨[(4, .int .i64 k), (3, .sl 0 0 l.length), (0, .fz (DS l))], [some ⟨4, (DS l).take k ++ List.replicate (l.length - k) zD⟩]⟩) (fun k => k ≤ l.length) (fun k => l.length - k) (0) ?p0 ?w0 (fun k hx => ?body)
  case' p0 =>
    simp
  case' w0 =>
    exact Wk.cut (by simp) (by simp [subE]) (by simp [cutH]) (by simp [lowE, lowN]) (by simp [lowB, lowN])
  case' body =>
    skip
    refine SW.seqK fun K2 hK2 => ?_
    refine SW.regionK fun K hK => ?_
    simp
    first | refine hK _ ?_ | refine ⟨by omega, hK _ ?_⟩ | refine ⟨by omega, by omega, hK _ ?_⟩
    clear hK K
    refine SW.cond _ rfl (by simp) ?_ ?_
    case' refine_2 =>
      intro hb1
      have hk : k = l.length := by simp at hb1; omega
      subst hk
      refine SW.exit ?_
      simp only [Ex.then, Ex.inBlock]
      try simp only [if_true, if_false, reduceIte]
      refine hK1 _ ?_
      refine SW.regionK fun K hK => ?_
      simp
      first | refine hK _ ?_ | refine ⟨by omega, hK _ ?_⟩ | refine ⟨by omega, by omega, hK _ ?_⟩
      clear hK K
      refine SW.ret ?_
      simp [Ex.then, Ex.inBlock]
      intro x hx y hy
      obtain ⟨n, rfl⟩ := DS_int hx hy
      rfl
    rotate_right
    case' _ =>
      intro hb1
      have hlt : k < l.length := by simpa using hb1
      obtain ⟨x, hxk⟩ : ∃ x, l[k]? = some x := ⟨_, List.getElem?_eq_getElem hlt⟩
      have hz := getS zD (DS l) k (by simpa using hlt)
      have hset := fillS zD (DS l) k x.c (by simp [hxk])
      simp only [DS_length, Deed.c] at hz hset
      refine SW.skip ?_
      refine hK2 _ ?_
      refine SW.seqK fun K3 hK3 => ?_
      refine SW.block ?_
      refine SW.regionE fun K hK => ?_
      simp [hxk, hz]
      try refine ⟨by omega, ?_⟩
      refine CallK.fz (toDeed_ok _) ?_
      simp [hxk, hz]
      first | refine hK _ ?_ | refine ⟨by omega, hK _ ?_⟩ | refine ⟨by omega, by omega, hK _ ?_⟩
      clear hK K
      refine hK3 _ ?_
      refine SW.regionE fun K hK => ?_
      simp
      first | refine hK _ ?_ | refine ⟨by omega, hK _ ?_⟩ | refine ⟨by omega, by omega, hK _ ?_⟩
      clear hK K
      refine ⟨k + 1, by omega, by omega, ?_⟩
      exact Wk.cut (by simp) (by simp [subE, wrap1 k (by omega)]) (by simp [cutH, hset]) (by simp [lowE, lowN]) (by simp [lowB, lowN]; intro x hx y hy; obtain ⟨n, rfl⟩ := DS_int (List.mem_of_mem_take hx) hy; rfl)
@[simp] theorem DS_view (l : List Deed) (h : Heap) (d : Nat) : (DS l).map (List.map (viewN h (d + 1))) = DS l := by
  simp [DS, Function.comp_def]
def busy (l : List Deed) (n : Int) : Nat := (l.filter fun d => d.g == n).length
theorem busy_step {l : List Deed} {n : Int} {k : Nat} {x : Deed} (h : l[k]? = some x) : busy (l.take (k + 1)) n = busy (l.take k) n + if x.g == n then 1 else 0 := by
  unfold busy
  rw [List.take_add_one, h, List.filter_append]
  cases hx : x.g == n <;> simp [hx]
theorem busy_le (l : List Deed) (n : Int) (k : Nat) : busy (l.take k) n ≤ k := by
  unfold busy
  refine Nat.le_trans (List.length_filter_le _ _) ?_
  simp; omega

set_option maxHeartbeats 1000000 in
theorem busy_spec (l : List Deed) (n : Int) (hl : l.length ≤ 1048576) : Fn Try.prog 19 [.fz (DS l), .int .i64 n] (.int .i64 (busy l n)) := by
  refine Fn.intro Try.func19 (by decide) rfl (rs := [.tmp 4]) rfl Try.ntmps19 (by simp) ?_
  refine SW.regionK fun K hK => ?_
  simp
  first | refine hK _ ?_ | refine ⟨by omega, hK _ ?_⟩ | refine ⟨by omega, by omega, hK _ ?_⟩
  clear hK K
  refine SW.regionK fun K hK => ?_
  simp
  first | refine hK _ ?_ | refine ⟨by omega, hK _ ?_⟩ | refine ⟨by omega, by omega, hK _ ?_⟩
  clear hK K
  refine SW.seqK fun K1 hK1 => ?_
  refine SW.regionK fun K hK => ?_
  simp
  first | refine hK _ ?_ | refine ⟨by omega, hK _ ?_⟩ | refine ⟨by omega, by omega, hK _ ?_⟩
  clear hK K
  refine SW.block ?_
  refine SW.loop (α := Nat) (fun k => ⟨[(10, .int .i64 k), (9, .int .i64 l.length), (8, .fz (DS l)), (5, .int .i64 (busy (l.take k) n)), (1, .int .i64 n)], []⟩) (fun k => k ≤ l.length) (fun k => l.length - k) (0) ?p0 ?w0 (fun k hx => ?body)
  case' p0 =>
    simp
  case' w0 =>
    exact Wk.cut (by simp) (by simp [subE, busy]) (by simp [cutH]) (by simp [lowE, lowN]) (by simp)
  case' body =>
    skip
    refine SW.regionK fun K hK => ?_
    simp
    first | refine hK _ ?_ | refine ⟨by omega, hK _ ?_⟩ | refine ⟨by omega, by omega, hK _ ?_⟩
    clear hK K
    refine SW.seqK fun K2 hK2 => ?_
    refine SW.cond _ rfl (by simp) ?_ ?_
    case' refine_2 =>
      intro hb1
      have hk : k = l.length := by simp at hb1; omega
      subst hk
      refine SW.exit ?_
      simp only [Ex.then, Ex.inBlock]
      try simp only [if_true, if_false, reduceIte]
      refine hK1 _ ?_
      refine SW.regionK fun K hK => ?_
      simp
      first | refine hK _ ?_ | refine ⟨by omega, hK _ ?_⟩ | refine ⟨by omega, by omega, hK _ ?_⟩
      clear hK K
      refine SW.ret ?_
      simp [Ex.then, Ex.inBlock]
    rotate_right
    case' _ =>
      intro hb1
      have hlt : k < l.length := by simpa using hb1
      obtain ⟨x, hxk⟩ : ∃ x, l[k]? = some x := ⟨_, List.getElem?_eq_getElem hlt⟩
      have hle := busy_le l n k
      have hst := busy_step (n := n) hxk
      refine SW.skip ?_
      refine hK2 _ ?_
      refine SW.seqK fun K3 hK3 => ?_
      refine SW.block ?_
      refine SW.regionK fun K hK => ?_
      simp [hxk]
      first | refine hK _ ?_ | refine ⟨by omega, hK _ ?_⟩ | refine ⟨by omega, by omega, hK _ ?_⟩
      clear hK K
      refine SW.regionK fun K hK => ?_
      simp
      first | refine hK _ ?_ | refine ⟨by omega, hK _ ?_⟩ | refine ⟨by omega, by omega, hK _ ?_⟩
      clear hK K
      refine SW.cond _ rfl (by simp) ?_ ?_
      case' refine_2 =>
        intro hb2
        simp only [hb2] at hst
        simp at hst
        refine SW.skip ?_
      rotate_right
      case' _ =>
        intro hb2
        simp only [hb2] at hst
        simp at hst
        refine SW.regionE fun K hK => ?_
        simp
        first | refine hK _ ?_ | refine ⟨by omega, hK _ ?_⟩ | refine ⟨by omega, by omega, hK _ ?_⟩
        clear hK K
      all_goals (
        refine hK3 _ ?_
        refine SW.regionE fun K hK => ?_
        simp
        first | refine hK _ ?_ | refine ⟨by omega, hK _ ?_⟩ | refine ⟨by omega, by omega, hK _ ?_⟩
        clear hK K
        refine ⟨k + 1, by omega, by omega, ?_⟩
        exact Wk.cut (by simp) (by simp [subE, wrap1 k (by omega), hst, wrap1 (busy (l.take k) n) (by omega)]) (by simp [cutH]) (by simp [lowE, lowN]) (by simp))
set_option maxHeartbeats 1000000 in
theorem busy_impl (l : List Deed) (n : Int) (hl : l.length ≤ 1048576) : Fn Try.prog 21 [.fz (DS l), .int .i64 n] (.int .i64 (busy l n)) := by
  refine Fn.intro Try.func21 (by decide) rfl (rs := [.tmp 4]) rfl Try.ntmps21 (by simp) ?_
  refine SW.regionK fun K hK => ?_
  simp
  first | refine hK _ ?_ | refine ⟨by omega, hK _ ?_⟩ | refine ⟨by omega, by omega, hK _ ?_⟩
  clear hK K
  refine SW.regionK fun K hK => ?_
  simp
  first | refine hK _ ?_ | refine ⟨by omega, hK _ ?_⟩ | refine ⟨by omega, by omega, hK _ ?_⟩
  clear hK K
  refine SW.seqK fun K1 hK1 => ?_
  refine SW.regionK fun K hK => ?_
  simp
  first | refine hK _ ?_ | refine ⟨by omega, hK _ ?_⟩ | refine ⟨by omega, by omega, hK _ ?_⟩
  clear hK K
  refine SW.block ?_
  refine SW.loop (α := Nat) (fun k => ⟨[(10, .int .i64 k), (9, .int .i64 l.length), (8, .fz (DS l)), (5, .int .i64 (busy (l.take k) n)), (1, .int .i64 n)], []⟩) (fun k => k ≤ l.length) (fun k => l.length - k) (0) ?p0 ?w0 (fun k hx => ?body)
  case' p0 =>
    simp
  case' w0 =>
    exact Wk.cut (by simp) (by simp [subE, busy]) (by simp [cutH]) (by simp [lowE, lowN]) (by simp)
  case' body =>
    skip
    refine SW.regionK fun K hK => ?_
    simp
    first | refine hK _ ?_ | refine ⟨by omega, hK _ ?_⟩ | refine ⟨by omega, by omega, hK _ ?_⟩
    clear hK K
    refine SW.seqK fun K2 hK2 => ?_
    refine SW.cond _ rfl (by simp) ?_ ?_
    case' refine_2 =>
      intro hb1
      have hk : k = l.length := by simp at hb1; omega
      subst hk
      refine SW.exit ?_
      simp only [Ex.then, Ex.inBlock]
      try simp only [if_true, if_false, reduceIte]
      refine hK1 _ ?_
      refine SW.regionK fun K hK => ?_
      simp
      first | refine hK _ ?_ | refine ⟨by omega, hK _ ?_⟩ | refine ⟨by omega, by omega, hK _ ?_⟩
      clear hK K
      refine SW.ret ?_
      simp [Ex.then, Ex.inBlock]
    rotate_right
    case' _ =>
      intro hb1
      have hlt : k < l.length := by simpa using hb1
      obtain ⟨x, hxk⟩ : ∃ x, l[k]? = some x := ⟨_, List.getElem?_eq_getElem hlt⟩
      have hle := busy_le l n k
      have hst := busy_step (n := n) hxk
      refine SW.skip ?_
      refine hK2 _ ?_
      refine SW.seqK fun K3 hK3 => ?_
      refine SW.block ?_
      refine SW.regionK fun K hK => ?_
      simp [hxk]
      first | refine hK _ ?_ | refine ⟨by omega, hK _ ?_⟩ | refine ⟨by omega, by omega, hK _ ?_⟩
      clear hK K
      refine SW.regionK fun K hK => ?_
      simp
      first | refine hK _ ?_ | refine ⟨by omega, hK _ ?_⟩ | refine ⟨by omega, by omega, hK _ ?_⟩
      clear hK K
      refine SW.cond _ rfl (by simp) ?_ ?_
      case' refine_2 =>
        intro hb2
        simp only [hb2] at hst
        simp at hst
        refine SW.skip ?_
      rotate_right
      case' _ =>
        intro hb2
        simp only [hb2] at hst
        simp at hst
        refine SW.regionE fun K hK => ?_
        simp
        first | refine hK _ ?_ | refine ⟨by omega, hK _ ?_⟩ | refine ⟨by omega, by omega, hK _ ?_⟩
        clear hK K
      all_goals (
        refine hK3 _ ?_
        refine SW.regionE fun K hK => ?_
        simp
        first | refine hK _ ?_ | refine ⟨by omega, hK _ ?_⟩ | refine ⟨by omega, by omega, hK _ ?_⟩
        clear hK K
        refine ⟨k + 1, by omega, by omega, ?_⟩
        exact Wk.cut (by simp) (by simp [subE, wrap1 k (by omega), hst, wrap1 (busy (l.take k) n) (by omega)]) (by simp [cutH]) (by simp [lowE, lowN]) (by simp))
end HO
