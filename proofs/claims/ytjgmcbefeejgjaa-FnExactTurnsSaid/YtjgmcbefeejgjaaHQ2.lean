/-
  My own text (road H): HQ2.
-/
import Derived.Test.YtjgmcbefeejgjaaHQ1
set_option linter.unusedSimpArgs false
namespace HO
open Go Go.Proofs HK
/-- The marks: 1, 2, 3 .. -/
def mks (k : Nat) : List (Int × Int) := (List.range k).map fun i : Nat => (1 + 2 * (i : Int), 1 + 2 * (i : Int) + 1)
@[simp] theorem mks_length (k : Nat) : (mks k).length = k := by simp [mks]
theorem mks_get {n k : Nat} (h : k < n) : (mks n)[k]? = some (1 + 2 * (k : Int), 1 + 2 * (k : Int) + 1) := by simp [mks, h]
theorem PS_app (a b : List (Int × Int)) : PS (a ++ b) = PS a ++ PS b := by simp [PS]
theorem mks_mid {l : List (Int × Int)} {k : Nat} {x : Int × Int} (h : l[k]? = some x) : (PS (mks k ++ l.drop k))[k]? = some [.int .i64 x.1, .int .i64 x.2] := by
  rw [PS_get, List.getElem?_append_right (by simp)]
  simp [h]
theorem mks_set {l : List (Int × Int)} {k : Nat} (h : k < l.length) : (PS (mks k ++ l.drop k)).set k [.int .i64 (1 + 2 * (k : Int)), .int .i64 (1 + 2 * (k : Int) + 1)] = PS (mks (k + 1) ++ l.drop (k + 1)) := by
  rw [PS_app, PS_app, List.set_append_right _ _ (by simp)]
  have e : PS (mks (k + 1)) = PS (mks k) ++ [[.int .i64 (1 + 2 * (k : Int)), .int .i64 (1 + 2 * (k : Int) + 1)]] := by simp [mks, PS, List.range_succ]
  have e3 : PS (l[k] :: l.drop (k + 1)) = [.int .i64 l[k].1, .int .i64 l[k].2] :: PS (l.drop (k + 1)) := rfl
  have e4 : k - (PS (mks k)).length = 0 := by simp
  rw [e, List.drop_eq_getElem_cons h, e3, e4, List.set_cons_zero]
  simp
@[simp] theorem PS_take (l : List (Int × Int)) : List.take l.length (PS l) = PS l := by
  have := List.take_length (l := PS l)
  rwa [PS_length] at this
@[simp] theorem mks_zero : mks 0 = [] := rfl
theorem drop_all (l : List (Int × Int)) : l.drop l.length = [] := by simp
set_option maxHeartbeats 1000000 in
theorem mark_pickS (l : List (Int × Int)) (hl : l.length ≤ 1048576) : CallS Try.prog 16 [.sl 0 0 l.length, .int .i64 1] [some ⟨2, PS l⟩] (fun o h' => o = .int .i64 (1 + 2 * (l.length : Int)) ∧ h' = [some ⟨2, PS (mks l.length)⟩]) := by
  refine CallS.intro Try.func16 (by decide) rfl (rs := [.tmp 4]) rfl Try.ntmps16 (by simp) ?_
  refine SW.regionK fun K hK => ?_
  simp
  first | refine hK _ ?_ | refine ⟨by omega, hK _ ?_⟩ | refine ⟨by omega, by omega, hK _ ?_⟩
  clear hK K
  refine SW.seqK fun K1 hK1 => ?_
  refine SW.regionK fun K hK => ?_
  simp
  first | refine hK _ ?_ | refine ⟨by omega, hK _ ?_⟩ | refine ⟨by omega, by omega, hK _ ?_⟩
  clear hK K
  refine SW.block ?_
  refine SW.loop (α := Nat) (fun k => ⟨[(5, .int .i64 k), (1, .int .i64 (1 + 2 * (k : Int))), (0, .sl 0 0 l.length)], [some ⟨2, PS (mks k ++ l.drop k)⟩]⟩) (fun k => k ≤ l.length) (fun k => l.length - k) (0) ?_ ?_ (fun k hx => ?_)
  case' refine_1 =>
    simp
  case' refine_2 =>
    exact Wk.cut (by simp) (by simp [subE]) (by simp [cutH]) (by simp [lowE, lowN]) (by simp [lowB, lowN]; intro x hx y hy; obtain ⟨n, rfl⟩ := PS_int hx hy; rfl)
  case' refine_3 =>
    skip
    refine SW.seqK fun K2 hK2 => ?_
    refine SW.regionK fun K hK => ?_
    simp
    first | refine hK _ ?_ | refine ⟨by omega, hK _ ?_⟩ | refine ⟨by omega, by omega, hK _ ?_⟩
    clear hK K
    refine SW.cond _ rfl (by simp) ?_ ?_
    case' refine_2 =>
      intro hb1
      have hk : k = l.length := by simp at hb1; omega
      refine SW.exit ?_
      simp only [Ex.then, Ex.inBlock]
      try simp only [if_true, if_false, reduceIte]
      refine hK1 _ ?_
      refine SW.regionK fun K hK => ?_
      simp
      first | refine hK _ ?_ | refine ⟨by omega, hK _ ?_⟩ | refine ⟨by omega, by omega, hK _ ?_⟩
      clear hK K
      refine SW.ret ?_
      simp [Ex.then, Ex.inBlock]
      subst hk
      simp
    rotate_right
    case' _ =>
      intro hb1
      have hlt : k < l.length := by simpa using hb1
      obtain ⟨x, hxk⟩ : ∃ x, l[k]? = some x := ⟨_, List.getElem?_eq_getElem hlt⟩
      have hmid := mks_mid hxk
      have hset := mks_set hlt
      have hss : ∀ v, ((PS (mks k ++ l.drop k)).set k v)[k]? = some v := fun v => by rw [List.getElem?_set_self (by simp; omega)]
      have hw1 := wrapI (1 + 2 * (k : Int) + 1) (by omega) (by omega)
      have hw2 := wrapI (1 + 2 * (k : Int) + 1 + 1) (by omega) (by omega)
      refine SW.skip ?_
      refine hK2 _ ?_
      refine SW.seqK fun K3 hK3 => ?_
      refine SW.block ?_
      refine SW.regionK fun K hK => ?_
      simp [hmid, hlt]
      first | refine hK _ ?_ | refine ⟨by omega, hK _ ?_⟩ | refine ⟨by omega, by omega, hK _ ?_⟩
      clear hK K
      refine SW.regionK fun K hK => ?_
      simp [hw1]
      first | refine hK _ ?_ | refine ⟨by omega, hK _ ?_⟩ | refine ⟨by omega, by omega, hK _ ?_⟩
      clear hK K
      refine SW.regionK fun K hK => ?_
      simp [hmid, hlt, hw1, hss]
      first | refine hK _ ?_ | refine ⟨by omega, hK _ ?_⟩ | refine ⟨by omega, by omega, hK _ ?_⟩
      clear hK K
      refine SW.regionE fun K hK => ?_
      simp [hw2]
      first | refine hK _ ?_ | refine ⟨by omega, hK _ ?_⟩ | refine ⟨by omega, by omega, hK _ ?_⟩
      clear hK K
      refine hK3 _ ?_
      refine SW.regionE fun K hK => ?_
      simp
      first | refine hK _ ?_ | refine ⟨by omega, hK _ ?_⟩ | refine ⟨by omega, by omega, hK _ ?_⟩
      clear hK K
      refine ⟨k + 1, by omega, by omega, ?_⟩
      exact Wk.cut (by simp) (by simp [subE, wrap1 k (by omega)]; try omega) (by simp [cutH, hset]) (by simp [lowE, lowN]) (by simp [lowB, lowN]; intro x hx y hy; obtain ⟨n, rfl⟩ := PS_int hx hy; rfl)
end HO
