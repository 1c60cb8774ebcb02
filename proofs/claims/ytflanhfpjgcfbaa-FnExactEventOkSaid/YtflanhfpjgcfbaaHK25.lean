/-
  My own text (road H): HK25.
-/
import Derived.Test.YtflanhfpjgcfbaaHK24
namespace HK
open Go
/-- A region that may be done in many orders: what may change places (the operation's number; does it make blocks), what stands in its place. -/
inductive PSeg where
  | q (l : List (Nat × Bool))
  | b (i : Nat)
def PSeg.idx : PSeg → List Nat
  | .q l => l.map (·.1)
  | .b i => [i]
def planIdx (plan : List PSeg) : List Nat := (plan.map PSeg.idx).flatten
def prd (o : Oper) : List Nat := (o.after.toList.filter (Region.binds .any)).map (·.on)
def lkT : List (Nat × List Nat) → Nat → List Nat
  | [], _ => []
  | (k, s) :: T, x => if x = k then s else lkT T x
def ancT (ops : List Oper) : List Nat → List (Nat × List Nat) → List (Nat × List Nat)
  | [], T => T
  | i :: r, T => match ops[i]? with
    | some o => ancT ops r ((i, (T.map (·.1)).filter fun z => (prd o).contains z || (prd o).any fun p => (lkT T p).contains z) :: T)
    | none => T
inductive Anc (ops : List Oper) : Nat → Nat → Prop
  | one {x z : Nat} {o : Oper} (h : ops[x]? = some o) (hz : z ∈ prd o) : Anc ops z x
  | more {x z p : Nat} {o : Oper} (h : ops[x]? = some o) (hp : p ∈ prd o) (hz : Anc ops z p) : Anc ops z x
def TOk (ops : List Oper) (T : List (Nat × List Nat)) : Prop := ∀ x z, z ∈ lkT T x → Anc ops z x
theorem ancT_ok {ops : List Oper} : ∀ (l : List Nat) {T : List (Nat × List Nat)}, TOk ops T → TOk ops (ancT ops l T)
  | [], T, h => h
  | i :: r, T, h => by
    unfold ancT
    split
    · rename_i o ho
      refine ancT_ok r fun x z hz => ?_
      simp only [lkT] at hz
      split at hz
      · rename_i e
        subst e
        rw [List.mem_filter] at hz
        obtain ⟨_, hz⟩ := hz
        simp only [Bool.or_eq_true, List.contains_iff_mem, List.any_eq_true] at hz
        rcases hz with hz | ⟨p, hp, hz⟩
        · exact .one ho hz
        · exact .more ho hp (h p z hz)
      · exact h x z hz
    · exact h
def pairOk (ops : List Oper) (T : List (Nat × List Nat)) (x : Nat) (o : Oper) (y : Nat) (cy : Bool) : Bool := y != x && match ops[y]? with
  | some oy => (match o.dst with | some d => oy.dst != some d | none => true) && ((lkT T x).contains y || (!cy && (match oy.dst with | some d => !(o.looksAt ops.toArray).contains d | none => true) && (match o.dst with | some d => !(oy.looksAt ops.toArray).contains d | none => true)))
  | none => false
def qOk (ops : List Oper) (T : List (Nat × List Nat)) (D : List Nat) (done : List (Nat × Bool)) : List (Nat × Bool) → Bool
  | [] => true
  | (x, c) :: r => match ops[x]? with
    | none => false
    | some o => (prd o).all (fun p => D.contains p || (done.map (·.1)).contains p) && done.all (fun y => pairOk ops T x o y.1 y.2) && qOk ops T D (done ++ [(x, c)]) r
def segOk (ops : List Oper) (T : List (Nat × List Nat)) (D : List Nat) : PSeg → Bool
  | .b i => match ops[i]? with | some o => (prd o).all D.contains | none => false
  | .q l => qOk ops T D [] l
def planOk (ops : List Oper) (T : List (Nat × List Nat)) : List Nat → List PSeg → Bool
  | D, [] => (List.range ops.length).all D.contains
  | D, s :: r => s.idx.all (fun x => !D.contains x && D.all fun z => (lkT T x).contains z) && segOk ops T D s && planOk ops T (D ++ s.idx) r
def drawOk (ops : List Oper) (plan : List PSeg) : Bool := planOk ops (ancT ops (planIdx plan) []) [] plan
/-- The operations in the plan's order. -/
def runD (P : Program) (N : Sz) (ops : List Oper) (ds : List (Option Tmp)) : List PSeg → St → (St → Prop) → Prop
  | [], st, K => K st
  | .b i :: r, st, K => match ops[i]? with
    | some o => runA P N ds [o] st fun s => runD P N ops ds r s K
    | none => False
  | .q l :: r, st, K => runQ P N ds (l.filterMap fun x => (ops[x.1]?).map fun o => (x.2, o)) st fun s => runD P N ops ds r s K

theorem qOk_spec {ops : List Oper} {T : List (Nat × List Nat)} {D : List Nat} : ∀ {l : List (Nat × Bool)} {done : List (Nat × Bool)}, qOk ops T D done l = true → ∀ (k x : Nat) (c : Bool), l[k]? = some ((x, c) : Nat × Bool) → ∃ o, ops[x]? = some o ∧
    (∀ p ∈ prd o, p ∈ D ∨ p ∈ done.map (·.1) ∨ ∃ k' c', k' < k ∧ l[k']? = some (p, c')) ∧ (∀ y ∈ done, pairOk ops T x o y.1 y.2 = true) ∧ (∀ (k' y : Nat) (c' : Bool), k' < k → l[k']? = some (y, c') → pairOk ops T x o y c' = true)
  | [], _, _, k, x, c, hk => by simp at hk
  | (x0, c0) :: r, done, h, k, x, c, hk => by
    unfold qOk at h
    split at h
    · cases h
    · rename_i o ho
      simp only [Bool.and_eq_true, List.all_eq_true, Bool.or_eq_true, List.contains_iff_mem] at h
      cases k with
      | zero =>
        simp at hk
        obtain ⟨rfl, rfl⟩ := hk
        exact ⟨o, ho, fun p hp => (h.1.1 p hp).imp id fun h => .inl h, h.1.2, fun k' y c' hlt => by omega⟩
      | succ k =>
        obtain ⟨o', e1, e2, e3, e4⟩ := qOk_spec h.2 k x c (by simpa using hk)
        refine ⟨o', e1, fun p hp => ?_, fun y hy => e3 y (List.mem_append_left _ hy), fun k' y c' hlt hy => ?_⟩
        · rcases e2 p hp with h1 | h1 | ⟨k', c', h1, h2⟩
          · exact .inl h1
          · rw [List.map_append, List.mem_append] at h1
            rcases h1 with h1 | h1
            · exact .inr (.inl h1)
            · simp at h1; subst h1; exact .inr (.inr ⟨0, c0, by omega, by simp⟩)
          · exact .inr (.inr ⟨k' + 1, c', by omega, by simpa using h2⟩)
        · cases k' with
          | zero =>
            have h5 := e3 (x0, c0) (List.mem_append_right _ (by simp))
            simp at hy; obtain ⟨rfl, rfl⟩ := hy; exact h5
          | succ k' => exact e4 k' y c' (by omega) (by simpa using hy)
theorem plan_cover {ops : List Oper} {T : List (Nat × List Nat)} : ∀ {plan : List PSeg} {D : List Nat}, planOk ops T D plan = true → ∀ x, x < ops.length → x ∈ D ∨ x ∈ planIdx plan
  | [], D, h, x, hx => by
    simp only [planOk, List.all_eq_true, List.mem_range, List.contains_iff_mem] at h
    exact .inl (h x hx)
  | s :: r, D, h, x, hx => by
    simp only [planOk, Bool.and_eq_true] at h
    rcases plan_cover h.2 x hx with h1 | h1
    · rcases List.mem_append.1 h1 with h1 | h1
      · exact .inl h1
      · exact .inr (by simp [planIdx]; exact .inl h1)
    · exact .inr (by simp only [planIdx, List.map_cons, List.flatten_cons, List.mem_append]; exact .inr h1)
theorem plan_later {ops : List Oper} {T : List (Nat × List Nat)} : ∀ {plan : List PSeg} {D : List Nat}, planOk ops T D plan = true → ∀ x ∈ planIdx plan, ∀ z ∈ D, z ∈ lkT T x
  | [], D, h, x, hx => by simp [planIdx] at hx
  | s :: r, D, h, x, hx => by
    intro z hz
    simp only [planOk, Bool.and_eq_true] at h
    simp only [planIdx, List.map_cons, List.flatten_cons, List.mem_append] at hx
    rcases hx with hx | hx
    · have := List.all_eq_true.1 h.1.1 x hx
      simp only [Bool.and_eq_true, List.all_eq_true, List.contains_iff_mem] at this
      exact this.2 z hz
    · exact plan_later h.2 x hx z (List.mem_append_left _ hz)
theorem minOf : ∀ (n : Nat) (l : List Nat), (∃ k ∈ l, k < n) → ∃ k ∈ l, ∀ j ∈ l, k ≤ j
  | 0, _, ⟨k, _, h⟩ => by omega
  | n + 1, l, ⟨k, hk, h⟩ => by
    by_cases h' : ∃ j ∈ l, j < n
    · exact minOf n l h'
    · exact ⟨k, hk, fun j hj => by
        have : ¬ j < n := fun hlt => h' ⟨j, hj, hlt⟩
        omega⟩
theorem blM_eq : ∀ (its : List It) (fs fs' : Nat → Bool), (∀ k it, its[k]? = some it → it.bl = [] ∨ fs k = fs' k) → blM its fs = blM its fs'
  | [], _, _, _ => rfl
  | x :: its, fs, fs', h => by
    simp only [blM]
    rw [blM_eq its _ (fun k => fs' (k + 1)) fun k it hk => h (k + 1) it (by simpa using hk)]
    rcases h 0 x (by simp) with h0 | h0
    · simp [h0]
    · rw [h0]

section
variable {P : Program} {N : Sz} {w0 : World} {B0 : Cx}
theorem Rel.lkc {φ : Refs} {Ss : List (List Nat)} {st st' : St} {a : Act} {w : World} (h : Rel N w0 B0 φ Ss st a w) (he : ∀ t, lk st'.env t = lk st.env t) (hh : st'.heap = st.heap) : Rel N w0 B0 φ Ss st' a w :=
  ⟨fun t => by rw [he]; exact h.env t, by rw [hh]; exact h.heap, by rw [hh]; exact h.len, by rw [hh]; exact h.fresh, h.nodup, h.bound, h.fr, h.size, h.defers, h.cx, h.keep⟩

/-- Done with all that it must come behind. -/
def Closed (ops : List Oper) (listed : Array Bool) : Prop := ∀ y o, listed.getD y false = true → ops[y]? = some o → ∀ p ∈ prd o, listed.getD p false = true
theorem Closed.anc {ops : List Oper} {listed : Array Bool} (h : Closed ops listed) {z x : Nat} (ha : Anc ops z x) : listed.getD x false = true → listed.getD z false = true := by
  induction ha with
  | one ho hz => exact fun hx => h _ _ hx ho _ hz
  | more ho hp _ ih => exact fun hx => ih (h _ _ hx ho _ hp)
theorem Closed.ready {ops : List Oper} {listed : Array Bool} (h : Closed ops listed) {z x : Nat} {o : Oper} (ho : ops[x]? = some o) (hr : ∀ p ∈ prd o, listed.getD p false = true) (ha : Anc ops z x) : listed.getD z false = true := by
  cases ha with
  | one ho' hz => rw [ho] at ho'; cases ho'; exact hr _ hz
  | more ho' hp hz => rw [ho] at ho'; cases ho'; exact h.anc hz (hr _ hp)
theorem ready_iff {ops : List Oper} {listed : Array Bool} {x : Nat} (hs : listed.size = ops.length) : x ∈ Region.ready .any ops.toArray listed ↔ listed.getD x false = false ∧ ∃ o, ops[x]? = some o ∧ ∀ p ∈ prd o, listed.getD p false = true := by
  rw [mem_ready]
  constructor
  · rintro ⟨h1, o, ho, h2⟩
    have hx : x < ops.length := (List.getElem?_eq_some_iff.1 (by simpa using ho)).1
    refine ⟨?_, o, by simpa using ho, fun p hp => ?_⟩
    · have hlt : x < listed.size := by omega
      simp [Array.getElem?_eq_getElem hlt] at h1 ⊢; exact h1
    · obtain ⟨e, he, rfl⟩ := List.mem_map.1 hp
      rw [List.mem_filter] at he
      exact h2 e (by simpa using he.1) he.2
  · rintro ⟨h1, o, ho, h2⟩
    have hx : x < ops.length := (List.getElem?_eq_some_iff.1 ho).1
    refine ⟨?_, o, by simpa using ho, fun e he hb => h2 e.on (List.mem_map.2 ⟨e, List.mem_filter.2 ⟨by simpa using he, hb⟩, rfl⟩)⟩
    have hlt : x < listed.size := by omega
    simp [Array.getElem?_eq_getElem hlt] at h1 ⊢; exact h1
theorem listed_set {ops : List Oper} {listed : Array Bool} {x i : Nat} (hs : listed.size = ops.length) (hx : x < ops.length) : (listed.setIfInBounds x true).getD i false = (if i = x then true else listed.getD i false) := by
  split
  · rename_i e; subst e
    have hlt : i < listed.size := by omega
    simp [hlt]
  · rename_i e
    exact getD_set_ne false (fun h => e h.symm)
theorem Closed.set {ops : List Oper} {listed : Array Bool} (h : Closed ops listed) {x : Nat} {o : Oper} (hs : listed.size = ops.length) (ho : ops[x]? = some o) (hr : ∀ p ∈ prd o, listed.getD p false = true) : Closed ops (listed.setIfInBounds x true) := by
  have hx : x < ops.length := (List.getElem?_eq_some_iff.1 ho).1
  intro y oy hy hoy p hp
  rw [listed_set hs hx] at hy ⊢
  split
  · rfl
  · split at hy
    · rename_i e; subst e; rw [ho] at hoy; cases hoy; exact hr p hp
    · exact h y oy hy hoy p hp
end
end HK
