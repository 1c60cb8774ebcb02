import Derived.Test.YteeefpifkepbpaaEHSL
/-
  My own texts (road H): HSM.
-/
set_option linter.unusedSimpArgs false
namespace HS
open Go Go.Proofs HK
@[simp] theorem bytC_YS : ∀ (l : List Int), bytC (YS l) = some l
  | [] => rfl
  | x :: l => by
    have h := bytC_YS l
    unfold YS at h ⊢; simp [bytC, h]
@[simp] theorem bytC_nil : bytC [] = some [] := rfl
theorem drop_get8 {α : Type} {l : List α} {k : Nat} {x : α} (h : l[k]? = some x) : l.drop k = x :: l.drop (k + 1) := by
  obtain ⟨hlt, rfl⟩ := List.getElem?_eq_some_iff.1 h; exact List.drop_eq_getElem_cons hlt
def nv : Option (Nat × Nat) → Nat
  | some (n, _) => n
  | none => 0
def pv : Option (Nat × Nat) → Nat
  | some (_, p) => p
  | none => 0
theorem getA_eq (o : Option (Nat × Nat)) : getA o = .tup [.int .i64 (nv o), .int .i64 (pv o), .bool o.isSome] := by
  cases o with
  | none => rfl
  | some x => rfl
def unzig (n : Nat) : Int := if n % 2 = 1 then -(((n + 1) / 2 : Nat) : Int) else ((n / 2 : Nat) : Int)
theorem nv_le {b : List Int} {i : Int} : nv (getV b i) ≤ 4294967295 := by
  unfold getV; split
  · unfold getN
    split
    · simp [nv]
    · split
      · rename_i h
        simp at h; exact h.2
      · simp [nv]
  · simp [nv]
theorem nv_none {o : Option (Nat × Nat)} (h : o.isSome = false) : nv o = 0 ∧ pv o = 0 := by
  cases o with
  | none => exact ⟨rfl, rfl⟩
  | some x => cases h
theorem tmod2 (n : Nat) : ((n : Nat) : Int).tmod 2 = ((n % 2 : Nat) : Int) := by
  rw [Int.tmod_eq_emod_of_nonneg (by omega)]; omega
theorem negq (n : Nat) (h : n % 2 = 1) : (-((n : Int) + 1)).tdiv 2 = -(((n + 1) / 2 : Nat) : Int) := by
  rw [Int.neg_tdiv, Int.tdiv_eq_ediv_of_nonneg (by omega)]; omega
def getZA (o : Option (Nat × Nat)) : AV := .tup [.int .i64 (unzig (nv o)), .int .i64 (pv o), .bool o.isSome]
set_option maxHeartbeats 1000000 in
theorem getZig_impl (b : List Int) (i : Int) (hl : b.length ≤ 2 ^ 40) (hb : ∀ x ∈ b, isB x) : Fn Try.prog 74 [.fz (YS b), .int .i64 i] (getZA (getV b i)) := by
  refine Fn.intro Try.func74 (by decide) rfl (rs := [.tmp 4, .tmp 5, .tmp 6]) rfl Try.ntmps74 (by simp) ?_; refine SW.rg fun K hK => ?_; simp -implicitDefEqProofs; repeat refine ⟨by omega, ?_⟩
  refine hK _ ?_; clear hK K
  generalize hn : nv (getV b i) = n
  generalize hp : pv (getV b i) = p
  generalize hq : (getV b i).isSome = q
  have hle : n ≤ 4294967295 := by rw [← hn]; exact nv_le
  have hw1 := wrapI ((n : Int) + 1) (by omega) (by omega)
  have hw2 := wrapI (-((n : Int) + 1)) (by omega) (by omega)
  have hw3 := wrapI (((n + 1) / 2 : Nat) : Int) (by omega) (by omega)
  have hw4 := wrapI (-(((n + 1) / 2 : Nat) : Int)) (by omega) (by omega)
  have hw5 := wrapI ((n : Int) / 2) (by omega) (by omega)
  have hm := tmod2 n
  all_goals (
   refine SW.rg fun K hK => ?_; simp -implicitDefEqProofs; iterate 2 (try refine ⟨by omega, ?_⟩)
   refine CallK.fz (out := .tup [.int .i64 n, .int .i64 p, .bool q]) (by have h9 := getVar_impl b i hl hb; rw [getA_eq, hn, hp, hq] at h9; exact h9) ?_; simp -implicitDefEqProofs; repeat refine ⟨by omega, ?_⟩
   refine hK _ ?_; clear hK K; refine SW.seqK fun K1 hK1 => ?_; refine SW.rg fun K hK => ?_; simp -implicitDefEqProofs; repeat refine ⟨by omega, ?_⟩
   refine hK _ ?_; clear hK K; refine SW.cond _ rfl (by simp) ?_ ?_
   case' refine_2 =>
    intro hb1; have hev : ¬ n % 2 = 1 := by rw [hm] at hb1; simp at hb1; omega
    first
    | (exfalso; simp at hb1; done)
    | (exfalso; simp at hb1; omega)
    | (
     refine SW.skip ?_; refine hK1 _ ?_; refine SW.rg fun K hK => ?_; simp -implicitDefEqProofs; repeat refine ⟨by omega, ?_⟩
     refine hK _ ?_; clear hK K; refine SW.ret ?_; simp [Ex.then, Ex.ib]; rw [getZA, hn, hp, hq]
     first
       | (rw [hw1, hw2, negq n hodd, hw4, unzig, if_pos hodd]; done)
       | (rw [hw1, hw2, negq n hodd, hw4, unzig, if_pos hodd, hq1]; done)
       | (rw [hw5, unzig, if_neg hev]; rfl)
       | (rw [hw5, unzig, if_neg hev, hq1]; rfl)
       | (have h9 := nv_none (hq.trans hq1); rw [hn, hp] at h9; rw [h9.1, h9.2, hq1]; rfl)
       | fail)
   rotate_right
   case' _ =>
    intro hb1; have hodd : n % 2 = 1 := by rw [hm] at hb1; simp at hb1; omega
    first
    | (exfalso; simp at hb1; done)
    | (exfalso; simp at hb1; omega)
    | (
     refine SW.rg fun K hK => ?_; simp -implicitDefEqProofs; repeat refine ⟨by omega, ?_⟩
     refine hK _ ?_; clear hK K; refine SW.ret ?_; simp [Ex.then, Ex.ib]; rw [getZA, hn, hp, hq]
     first
       | (rw [hw1, hw2, negq n hodd, hw4, unzig, if_pos hodd]; done)
       | (rw [hw1, hw2, negq n hodd, hw4, unzig, if_pos hodd, hq1]; done)
       | (rw [hw5, unzig, if_neg hev]; rfl)
       | (rw [hw5, unzig, if_neg hev, hq1]; rfl)
       | (have h9 := nv_none (hq.trans hq1); rw [hn, hp] at h9; rw [h9.1, h9.2, hq1]; rfl)
       | fail))
end HS
