import Derived.Test.YtjalahhkhcmjaaaGreatHMQ7
/-
  My own texts (road H): HMQ8.
-/
set_option linter.unusedSimpArgs false
set_option linter.unusedVariables false
namespace HT
open Go Go.Proofs HK
def wls (i : Instr) : Nat → List ByteArray
  | 0 => [wordB i.op]
  | k + 1 => wls i k ++ [ftx i k]
theorem wls_len (i : Instr) : ∀ k : Nat, (wls i k).length = k + 1
  | 0 => rfl
  | k + 1 => by simp [wls, wls_len i k]
theorem chan_ftx {i : Instr} {j : Nat} : ftx i j = if fb i j then chanB (fv i j) else numB (fv i j) := by
  unfold ftx fT chanB; cases fb i j <;> simp
theorem ftx_emp (i : Instr) (j : Nat) : ftx i j = noB ↔ fok i j = false := by
  unfold ftx fok fT fO; by_cases h : (fb i j && decide (fv i j = -1)) = true
  · rw [if_pos h, h]; simp
  · rw [if_neg h, numB_emp]; simp [h]
theorem joinW_no {xs : List ByteArray} {sep x : ByteArray} (hx : x ∈ xs) (h : x = noB) : joinW xs sep = noB := if_neg (by intro e; have := List.all_eq_true.1 e x hx; simp [h] at this)
theorem joinW_yes {xs : List ByteArray} {sep : ByteArray} (h : ∀ x ∈ xs, ¬ x = noB) : joinW xs sep = joinB sep xs := if_pos (by simpa using h)
theorem joinB_snoc (sep : ByteArray) : ∀ (xs : List ByteArray) (x : ByteArray), ¬ xs = [] → joinB sep (xs ++ [x]) = joinB sep xs ++ (sep ++ x)
  | [], x, h => absurd rfl h
  | [a], x, _ => by simp [joinB]
  | a :: b :: r, x, _ => by
    have := joinB_snoc sep (b :: r) x (by simp)
    simp only [List.cons_append, joinB] at this ⊢; rw [this]; simp [ByteArray.append_assoc]
theorem wls_ne (i : Instr) (k : Nat) : ¬ wls i k = [] := fun e => by have := wls_len i k; rw [e] at this; simp at this
theorem join_wls (i : Instr) : ∀ k : Nat, joinB spB (wls i k) = cat i k
  | 0 => rfl
  | k + 1 => by rw [wls, joinB_snoc _ _ _ (wls_ne i k), join_wls i k]; rfl
theorem wls_ok {i : Instr} (hw : ¬ wordB i.op = noB) : ∀ {k : Nat}, okTo i k = true → ∀ x ∈ wls i k, ¬ x = noB
  | 0, _, x, hx => by simp [wls] at hx; rw [hx]; exact hw
  | k + 1, h, x, hx => by
    simp only [okTo, Bool.and_eq_true] at h; rcases List.mem_append.1 hx with h1 | h1
    · exact wls_ok hw h.1 x h1
    · simp at h1; rw [h1]; intro e; rw [(ftx_emp i k).1 e] at h; simp at h
theorem wls_bad {i : Instr} : ∀ {k : Nat}, okTo i k = false → ∃ x ∈ wls i k, x = noB
  | 0, h => by cases h
  | k + 1, h => by
    by_cases h1 : okTo i k = true
    · simp only [okTo, h1, Bool.true_and] at h
      exact ⟨ftx i k, by simp [wls], (ftx_emp i k).2 h⟩
    · obtain ⟨x, hx, e⟩ := wls_bad (by simpa using h1)
      exact ⟨x, by simp [wls, hx], e⟩
theorem fieldsOf_op {op : Int} (h : 0 ≤ fieldsOf op) : 1 ≤ op ∧ op < 16 := by
  unfold fieldsOf at h; repeat' split at h
  all_goals omega
theorem insT_join {i : Instr} {M : Nat} (hM : fieldsOf i.op = M) (hr : restOk i M = true) : joinW (wls i M) spB = insT i := by
  have hw : ¬ wordB i.op = noB := wordB_emp (fieldsOf_op (by omega))
  unfold insT; rw [hM, Int.toNat_natCast, hr]
  cases h : okTo i M with
  | true => rw [joinW_yes (wls_ok hw h), join_wls]; simp
  | false =>
    obtain ⟨x, hx, e⟩ := wls_bad h; rw [joinW_no hx e]; simp
theorem restOk_of {i : Instr} {M : Nat} (h : ∀ t, t < 3 → M ≤ t → fv i t = 0) : restOk i M = true := by
  have h0 := h 0 (by omega); have h1 := h 1 (by omega); have h2 := h 2 (by omega)
  simp only [fv] at h0 h1 h2; simp only [restOk, Bool.and_eq_true, Bool.or_eq_true, decide_eq_true_eq]; refine ⟨⟨?_, ?_⟩, ?_⟩
  · by_cases hq : M ≤ 0
    · exact .inr (h0 hq)
    · exact .inl (by omega)
  · by_cases hq : M ≤ 1
    · exact .inr (h1 hq)
    · exact .inl (by omega)
  · by_cases hq : M ≤ 2
    · exact .inr (h2 hq)
    · exact .inl (by omega)
theorem insT_rest {i : Instr} {M j : Nat} (hM : fieldsOf i.op = M) (hj : M ≤ j) (hj3 : j < 3) (h : ¬ fv i j = 0) : insT i = noB := by
  have : restOk i M = false := by
    cases e : restOk i M with
    | false => rfl
    | true =>
      simp only [restOk, Bool.and_eq_true, Bool.or_eq_true, decide_eq_true_eq] at e; exfalso; rcases j with _ | _ | _ | j
      · exact h (by rcases e.1.1 with h | h; omega; exact h)
      · exact h (by rcases e.1.2 with h | h; omega; exact h)
      · exact h (by rcases e.2 with h | h; omega; exact h)
      · omega
  unfold insT; rw [hM, this]; simp
end HT
