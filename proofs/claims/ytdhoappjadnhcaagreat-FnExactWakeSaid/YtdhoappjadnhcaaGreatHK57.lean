import Derived.Test.YtdhoappjadnhcaaGreatG2b
import Derived.Test.YtdhoappjadnhcaaGreatHK51
/-
  My own texts (road H): HK57.
-/
set_option maxHeartbeats 8000000
set_option linter.unusedSimpArgs false
set_option linter.unusedVariables false
namespace HK
open Go
theorem lowN_mono : ∀ (d : Nat) {n m : Nat} {v : AV}, n ≤ m → lowN d n v = true → lowN d m v = true
  | 0, _, _, _, _, h => by simp [lowN] at h
  | d + 1, n, m, v, hnm, h => by
    have hall : ∀ l : List AV, l.all (lowN d n) = true → l.all (lowN d m) = true := fun l hl =>
      List.all_eq_true.2 fun x hx => lowN_mono d hnm (List.all_eq_true.1 hl x hx)
    cases v <;> simp only [lowN, Bool.and_eq_true, decide_eq_true_eq] at h ⊢
    all_goals first
      | omega
      | exact hall _ h
      | exact ⟨hall _ h.1, hall _ h.2⟩
      | exact lowN_mono d hnm h
theorem lowEs_mono {n m : Nat} {es : List (List AV)} (hnm : n ≤ m) (h : lowEs n es = true) : lowEs m es = true :=
  List.all_eq_true.2 fun e he => List.all_eq_true.2 fun v hv => lowN_mono 2 hnm (List.all_eq_true.1 (List.all_eq_true.1 h e he) v hv)
theorem lowB_mono {n m : Nat} {b : Option Blk} (hnm : n ≤ m) (h : lowB n b = true) : lowB m b = true := by
  cases b with
  | none => rfl
  | some b => exact lowEs_mono (es := b.es) hnm h
theorem low_set {h : Heap} {p n : Nat} {b : Option Blk} (h4 : ∀ x ∈ h, lowB n x = true) (hb : lowB n b = true) : ∀ x ∈ h.set p b, lowB n x = true := fun x hx => by
  rcases List.mem_or_eq_of_mem_set hx with hx | rfl
  · exact h4 x hx
  · exact hb
theorem Wk.nilEnv {N : Sz} {env env' : Env} {h : Heap} (sz t : Nat) (hn : lk env t = .nil) (h1 : subE env env') : Wk N ⟨env, h⟩ ⟨(t, .sl h.length 0 0) :: env', h ++ [some (⟨sz, []⟩ : Blk)]⟩ := by
  intro w0 B0 φ Ss a w hR; have hφ := hR.fresh h.length (Nat.le_refl _)
  have R2 := hR.slot.null (k := h.length) (by simp) hφ (by rw [← hR.len]; simp) sz
  simp only [set_end] at R2; refine ⟨upd φ h.length none, Ss ++ [[]], Rel.mk (fun t' => ?_) R2.heap R2.len R2.fresh R2.nodup R2.bound R2.fr R2.size R2.defers R2.cx R2.keep⟩; simp only [lk]; split
  · rename_i e
    subst e; have := R2.env t'
    rw [show (St.mk env (h ++ [some (⟨sz, []⟩ : Blk)])).env = env from rfl, hn] at this
    generalize a.tmps.getD t' Go.undef = v at this ⊢
    cases this
    exact .sl0 _ _ none _ (by unfold upd; rw [if_pos rfl])
  · rcases subE_lk h1 t' with e | e
    · rw [e]; exact R2.env t'
    · rw [e]; exact .undef _
theorem SW.wkE {P : Program} {N : Sz} {c : Code} {Q : Exit → St → Prop} {st : St} (h : SW P N c (fun e s => ∃ s', Wk N s s' ∧ Q e s') st) : SW P N c Q st := fun w0 B0 φ Ss a w hR =>
  wp_mono (h w0 B0 φ Ss a w hR) fun e a' w' ⟨s, φ1, Ss1, ⟨s', hw, hq⟩, hR1⟩ =>
    let ⟨φ2, Ss2, hR2⟩ := hw _ _ _ _ _ _ hR1
    ⟨s', φ2, Ss2, hq, hR2⟩
theorem SW.two {P : Program} {N : Sz} {y : Code} {Q : Exit → St → Prop} {K : St → Prop} {A : Prop} (stA : St) (hK : ∀ st, SW P N y Q st → K st) (hab : (∀ st, Wk N st stA → K st) → A) (key : SW P N y Q stA) : A := hab fun st hw => hK st (SW.wk hw key)
end HK
