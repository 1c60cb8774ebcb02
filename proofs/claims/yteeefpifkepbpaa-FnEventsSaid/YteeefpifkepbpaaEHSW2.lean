import Derived.Test.YteeefpifkepbpaaEHSW
/-
  My own texts (road H): HSW2.
-/
set_option linter.unusedSimpArgs false
namespace HS
open Go Go.Proofs HK
@[simp] theorem CF_getE (l : List (List Int)) (k : Nat) (h : k < (CF l).length) : (CF l)[k] = [AV.fz (YS (l[k]'(by simpa using h)))] := by simp [CF]
theorem scan_ind {b : List Int} {P : List Int → Prop} (h : ∀ a, P (datF (b.drop a))) : ∀ (n a : Nat) (out : List (List Int)), b.length - a ≤ n → (∀ c ∈ out, P c) → (∀ c ∈ (scan b a out).1, P c) ∧ (scan b a out).1.length ≤ out.length + (b.length - a)
  | n, a, out, hn, ho => by
    by_cases ha : a < b.length
    · by_cases hg : frC (b.drop a) = 0 ∧ seqF (b.drop a) = out.length
      · rw [scan_go hg.1 hg.2 ha]
        match n, hn with
        | n + 1, hn =>
          have := scan_ind h n (a + 15 + cntF (b.drop a)) (out ++ [datF (b.drop a)]) (by omega) (fun c hc => by
            rcases List.mem_append.1 hc with h1 | h1
            · exact ho c h1
            · simp at h1; rw [h1]; exact h a)
          refine ⟨this.1, ?_⟩; have h2 := this.2
          rw [List.length_append, List.length_singleton] at h2
          omega
        | 0, hn => omega
      · rw [scan_stop hg ha]; exact ⟨ho, by simp⟩
    · rw [scan_end ha]; exact ⟨ho, by simp⟩
theorem datF_len (f : List Int) : (datF f).length ≤ f.length := by unfold datF; rw [List.length_take, List.length_drop]; omega
theorem scan_all0 {b : List Int} (hb : ∀ x ∈ b, isB x) (hl : b.length ≤ 1048576) : ∀ c ∈ (scan b 0 []).1, (∀ x ∈ c, isB x) ∧ c.length ≤ 1048576 :=
  (scan_ind (P := fun c => (∀ x ∈ c, isB x) ∧ c.length ≤ 1048576) (fun a => ⟨takeB (dropB (dropB hb)), by have := datF_len (b.drop a); rw [List.length_drop] at this; omega⟩) b.length 0 [] (by omega) (by simp)).1
theorem scan_len (b : List Int) : (scan b 0 []).1.length ≤ b.length := by
  have := (scan_ind (b := b) (P := fun _ => True) (fun _ => trivial) b.length 0 [] (by omega) (by simp)).2
  simpa using this
end HS
