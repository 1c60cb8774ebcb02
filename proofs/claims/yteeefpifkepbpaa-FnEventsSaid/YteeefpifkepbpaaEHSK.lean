import Derived.Test.YteeefpifkepbpaaEHS5
/-
  My own texts (road H): HSK.
-/
set_option linter.unusedSimpArgs false
namespace HS
open Go Go.Proofs HK
def isB (x : Int) : Prop := 0 ≤ x ∧ x < 256
def val : List Int → Nat
  | [] => 0
  | d :: l => (d % 128).toNat + 128 * val l
def digs : Nat → List Int → Option (List Int)
  | 0, _ => none
  | _ + 1, [] => none
  | f + 1, x :: l => if x < 128 then some [x] else (digs f l).map (x :: ·)
def canon (ds : List Int) : Bool := decide (ds.length = 1) || !(ds.getLast? == some 0)
def getN (b : List Int) (i : Nat) : Option (Nat × Nat) := match digs 5 (b.drop i) with
  | none => none
  | some ds => if canon ds && decide (val ds ≤ 4294967295) then some (val ds, i + ds.length) else none
def getV (b : List Int) (i : Int) : Option (Nat × Nat) := if 0 ≤ i then getN b i.toNat else none
def getA : Option (Nat × Nat) → AV
  | some (n, p) => .tup [.int .i64 n, .int .i64 p, .bool true]
  | none => .tup [.int .i64 0, .int .i64 0, .bool false]
def isDig : List Int → Prop
  | [] => False
  | [x] => x < 128
  | x :: y :: l => 128 ≤ x ∧ isDig (y :: l)
theorem isDig_cons {x : Int} {l : List Int} (hx : 128 ≤ x) (h : isDig l) : isDig (x :: l) := by
  cases l with
  | nil => exact h.elim
  | cons y l => exact ⟨hx, h⟩
theorem digs_spec : ∀ {f : Nat} {l ds : List Int}, digs f l = some ds → isDig ds ∧ ds.length ≤ f ∧ ds = l.take ds.length
  | 0, _, _, h => by simp [digs] at h
  | _ + 1, [], _, h => by simp [digs] at h
  | f + 1, x :: l, ds, h => by
    unfold digs at h; split at h
    · rename_i hx
      cases h
      exact ⟨hx, by simp, by simp⟩
    · rename_i hx
      cases hd : digs f l with
      | none => simp [hd] at h
      | some d =>
        simp [hd] at h; subst h; obtain ⟨h1, h2, h3⟩ := digs_spec hd; exact ⟨isDig_cons (by omega) h1, by simp; omega, by simp; exact h3⟩
theorem varB_ne (n : Nat) : varB n ≠ [] := by
  rw [varB]; split <;> simp
theorem val_zero : ∀ {ds : List Int}, isDig ds → (∀ x ∈ ds, isB x) → val ds = 0 → ds.getLast? = some 0
  | [], h, _, _ => h.elim
  | [x], h, hb, hv => by
    have := hb x (by simp)
    simp only [isDig] at h; unfold isB at this; simp only [val] at hv
    simp; omega
  | x :: y :: l, h, hb, hv => by
    have hv2 : val (y :: l) = 0 := by simp only [val] at hv ⊢; omega
    have := val_zero h.2 (fun z hz => hb z (List.mem_cons_of_mem _ hz)) hv2
    simpa using this
theorem varB_val : ∀ {ds : List Int}, isDig ds → (∀ x ∈ ds, isB x) → (varB (val ds) = ds ↔ canon ds = true)
  | [], h, _ => h.elim
  | [x], h, hb => by
    have h1 := hb x (by simp)
    simp only [isDig] at h; unfold isB at h1; have hv : val [x] = x.toNat := by simp only [val]; omega
    rw [hv, varB_lt (by omega)]
    simp [canon]; omega
  | x :: y :: l, h, hb => by
    have h1 := hb x (by simp)
    unfold isB at h1; have hx := h.1
    have hb' : ∀ z ∈ y :: l, isB z := fun z hz => hb z (List.mem_cons_of_mem _ hz)
    have ih := varB_val h.2 hb'
    have hv : val (x :: y :: l) = (x - 128).toNat + 128 * val (y :: l) := by
      simp only [val]; omega
    have hc : canon (x :: y :: l) = !((y :: l).getLast? == some 0) := by simp [canon]
    by_cases hz : val (y :: l) = 0
    · have hl := val_zero h.2 hb' hz
      rw [hv, hz, varB_lt (by omega), hc, hl]; simp
    · rw [hv, varB_ge (by omega), hc]
      have e1 : (((x - 128).toNat + 128 * val (y :: l)) % 128 + 128 : Nat) = x.toNat := by omega
      have e2 : ((x - 128).toNat + 128 * val (y :: l)) / 128 = val (y :: l) := by omega
      rw [e1, e2]; have e3 : ((x.toNat : Nat) : Int) = x := by omega
      rw [e3]; rw [List.cons.injEq]; simp only [true_and]; rw [ih]
      cases l with
      | nil =>
        have h3 := hb y (by simp)
        unfold isB at h3; have h2 : y < 128 := h.2
        have : val [y] = y.toNat := by simp only [val]; omega
        simp [canon]
        omega
      | cons z l => simp [canon]
theorem val_app : ∀ (a : List Int) (d : Int), val (a ++ [d]) = val a + 128 ^ a.length * (d % 128).toNat
  | [], d => by simp [val]
  | x :: a, d => by
    simp only [List.cons_append, val, val_app a d, List.length_cons, Nat.pow_succ]; rw [Nat.mul_add]
    have : 128 * (128 ^ a.length * (d % 128).toNat) = 128 ^ a.length * 128 * (d % 128).toNat := by
      rw [← Nat.mul_assoc, Nat.mul_comm 128]
    omega
theorem val_lt : ∀ (a : List Int), val a < 128 ^ a.length
  | [] => by simp [val]
  | x :: a => by
    simp only [val, List.length_cons, Nat.pow_succ]; have := val_lt a
    omega
theorem digs_ge {f : Nat} {x : Int} {l : List Int} (hx : ¬ x < 128) : digs (f + 1) (x :: l) = (digs f l).map (x :: ·) := by rw [digs, if_neg hx]
theorem digs_lt {f : Nat} {x : Int} {l : List Int} (hx : x < 128) : digs (f + 1) (x :: l) = some [x] := by rw [digs, if_pos hx]
theorem canon_app {a : List Int} {d : Int} : canon (a ++ [d]) = (decide (a = []) || decide (d ≠ 0)) := by
  cases a with
  | nil => simp [canon]
  | cons x a =>
    have : (x :: (a ++ [d])).getLast? = some d := by rw [← List.cons_append, List.getLast?_append]; simp
    simp [canon, this]; cases h : decide (d = 0) <;> simp_all
theorem strB_eq : ∀ (l : List Int) (r : ByteArray), l.foldl (fun r n => r.push (UInt8.ofNat n.toNat)) r = ⟨r.data ++ (l.map fun n => UInt8.ofNat n.toNat).toArray⟩
  | [], r => by simp
  | x :: l, r => by
    rw [List.foldl_cons, strB_eq l]; simp [ByteArray.push]
theorem strB_inj {a b : List Int} (ha : ∀ x ∈ a, isB x) (hb : ∀ x ∈ b, isB x) : strB a = strB b ↔ a = b := by
  refine ⟨fun h => ?_, fun h => by rw [h]⟩; unfold strB at h; rw [strB_eq, strB_eq] at h
  have h2 : (a.map fun n => UInt8.ofNat n.toNat) = (b.map fun n => UInt8.ofNat n.toNat) := by
    have := congrArg (fun x : ByteArray => x.data.toList) h
    simpa using this
  have inj : ∀ (a b : List Int), (∀ x ∈ a, isB x) → (∀ x ∈ b, isB x) → (a.map fun n => UInt8.ofNat n.toNat) = (b.map fun n => UInt8.ofNat n.toNat) → a = b := by
    intro a
    induction a with
    | nil => intro b _ _ h; cases b with
      | nil => rfl
      | cons y b => simp at h
    | cons x a ih =>
      intro b ha hb h
      cases b with
      | nil => simp at h
      | cons y b =>
        simp only [List.map_cons, List.cons.injEq] at h; have hx := ha x (by simp)
        have hy := hb y (by simp)
        unfold isB at hx hy; have e := congrArg UInt8.toNat h.1
        simp at e; rw [ih b (fun z hz => ha z (List.mem_cons_of_mem _ hz)) (fun z hz => hb z (List.mem_cons_of_mem _ hz)) h.2]
        congr 1
        omega
  exact inj a b ha hb h2
theorem varB_isB : ∀ (n : Nat), ∀ x ∈ varB n, isB x := by
  intro n
  induction n using Nat.strongRecOn with
  | _ n ih =>
    intro x hx; by_cases h : n < 128
    · rw [varB_lt h] at hx
      simp at hx; subst hx; unfold isB; omega
    · rw [varB_ge h] at hx
      rcases List.mem_cons.1 hx with rfl | hx
      · unfold isB; omega
      · exact ih (n / 128) (by omega) x hx
theorem byte_nat {x : Int} (h : isB x) : ∃ D : Nat, x = D ∧ D < 256 := ⟨x.toNat, by unfold isB at h; omega, by unfold isB at h; omega⟩
theorem tmod128 (D : Nat) : ((D : Nat) : Int).tmod 128 = ((D % 128 : Nat) : Int) := by
  rw [Int.tmod_eq_emod_of_nonneg (by omega)]; omega
theorem getN_none {b : List Int} {N : Nat} (h : digs 5 (b.drop N) = none) : getN b N = none := by simp [getN, h]
theorem getV_nat (b : List Int) (N : Nat) : getV b (N : Int) = getN b N := by simp [getV]
theorem getV_neg {b : List Int} {i : Int} (h : i < 0) : getV b i = none := by simp [getV]; omega
theorem getN_of {b : List Int} {N : Nat} {ds : List Int} (h : digs 5 (b.drop N) = some ds) : getN b N = if canon ds && decide (val ds ≤ 4294967295) then some (val ds, N + ds.length) else none := by simp [getN, h]
theorem getN_spec {b : List Int} {N n p : Nat} (h : getN b N = some (n, p)) (hb : ∀ x ∈ b, isB x) : numOk n = true ∧ p ≤ b.length ∧ N < p ∧ (b.drop N).take (p - N) = varB n := by
  unfold getN at h; split at h
  · cases h
  · rename_i ds hd
    split at h
    · rename_i hc
      cases h
      obtain ⟨h1, h2, h3⟩ := digs_spec hd; simp only [Bool.and_eq_true, decide_eq_true_eq] at hc; have hbd : ∀ x ∈ ds, isB x := fun x hx => hb x (by rw [h3] at hx; exact List.mem_of_mem_drop (List.mem_of_mem_take hx))
      have hv := (varB_val h1 hbd).2 hc.1
      have hne : 0 < ds.length := by
        cases ds with
        | nil => exact h1.elim
        | cons x l => simp
      have hl := congrArg List.length h3
      simp at hl; refine ⟨by simp [numOk]; omega, by omega, by omega, ?_⟩; rw [hv, show N + ds.length - N = ds.length by omega]; exact h3.symm
    · cases h
end HS
