import Derived.Test.YtfdaepchofckkaaHZVE
/-
  My own texts (road H): HZW0.
-/
set_option linter.unusedSimpArgs false
set_option linter.unusedVariables false
namespace HT
open Go Go.Proofs HK
structure Tch where
  ok : Bool
  g : Int
  mask : Int
deriving DecidableEq
@[simp] def Tch.cl (d : Tch) : List AV := [.bool d.ok, .int .i64 d.g, .int .i64 d.mask]
def TchS (l : List Tch) : List (List AV) := l.map Tch.cl
@[simp] theorem TchS_length (l : List Tch) : (TchS l).length = l.length := by simp [TchS]
@[simp] theorem TchS_get (l : List Tch) (k : Nat) : (TchS l)[k]? = (l[k]?).map Tch.cl := by simp [TchS]
@[simp] theorem TchS_getE (l : List Tch) (k : Nat) (h : k < (TchS l).length) : (TchS l)[k] = Tch.cl (l[k]'(by simpa using h)) := by simp [TchS]
@[simp] theorem TchS_take (l : List Tch) : List.take l.length (TchS l) = TchS l := by
  have := List.take_length (l := TchS l)
  rwa [TchS_length] at this
@[simp] theorem TchS_nil : TchS [] = [] := rfl
theorem TchS_app (a b : List Tch) : TchS (a ++ b) = TchS a ++ TchS b := by simp [TchS]
theorem TchS_takeN (l : List Tch) (k : Nat) : (TchS l).take k = TchS (l.take k) := by simp [TchS, List.map_take]
theorem TchS_dropN (l : List Tch) (k : Nat) : (TchS l).drop k = TchS (l.drop k) := by simp [TchS, List.map_drop]
theorem TchS_len {l : List Tch} {e : List AV} (h : e ∈ TchS l) : e.length = 3 := by
  obtain ⟨d, _, rfl⟩ := List.mem_map.1 h
  rfl
theorem TchS_lenG (l : List Tch) (k : Nat) (h : k < l.length) : ((Option.map Tch.cl l[k]?).getD []).length = 3 := by simp [h]
@[simp] theorem TchS_ren (l : List Tch) (ids : List Nat) (d : Nat) : (TchS l).map (List.map (renN ids (d + 1))) = TchS l := by
  simp [TchS, Function.comp_def]
@[simp] theorem TchS_low (n : Nat) (l : List Tch) : lowEs n (TchS l) = true := by
  simp [lowEs, TchS]
@[simp] theorem TchS_lowT (n : Nat) (l : List Tch) (k : Nat) : lowEs n ((TchS l).take k) = true := lowEs_take (TchS_low n l) k
@[simp] theorem TchS_str (d : Nat) (l : List Tch) : ((TchS l).all fun e => e.all (strN (d + 1))) = true := by
  simp [TchS, -strN, strS_int, strS_bool]
theorem TchS_okI (l : List Tch) : okI (.own 3 (TchS l)) = true := by
  simp [okI]
@[simp] theorem TchS_view (l : List Tch) (h : Heap) (d : Nat) : (TchS l).map (List.map (viewN h (d + 1))) = TchS l := by
  simp [TchS, TchS, Function.comp_def]
/-! ### masks -/
def codeOf (k : Int) : Nat := if k = 200 then 20 else if k = 201 then 21 else if 100 ≤ k then (10 + k - 100).toNat else k.toNat
def bitsOf (l : List Int) : Nat := l.foldl (fun m k => m ||| 2 ^ codeOf k) 0
def okObj (k : Int) : Prop := (0 ≤ k ∧ k < 6) ∨ (100 ≤ k ∧ k < 104) ∨ k = 200 ∨ k = 201
theorem codeOf_lt {k : Int} (h : okObj k) : codeOf k < 22 := by
  unfold okObj at h; unfold codeOf
  split
  · omega
  · split
    · omega
    · split <;> omega
theorem codeOf_inj {k j : Int} (h : okObj k) (h' : okObj j) (e : codeOf k = codeOf j) : k = j := by
  unfold okObj at h h'; unfold codeOf at e
  repeat' split at e
  all_goals omega
theorem bits_test : ∀ (l : List Int) (m i : Nat), (l.foldl (fun m k => m ||| 2 ^ codeOf k) m).testBit i = (m.testBit i || l.any fun k => decide (codeOf k = i))
  | [], m, i => by simp
  | k :: l, m, i => by
    rw [List.foldl_cons, bits_test l, Nat.testBit_or, Nat.testBit_two_pow, List.any_cons, Bool.or_assoc]
theorem bitsOf_test (l : List Int) (i : Nat) : (bitsOf l).testBit i = l.any fun k => decide (codeOf k = i) := by
  unfold bitsOf
  rw [bits_test]
  simp
theorem bits_lt : ∀ (l : List Int) (m : Nat), m < 2 ^ 22 → (∀ k ∈ l, okObj k) → l.foldl (fun m k => m ||| 2 ^ codeOf k) m < 2 ^ 22
  | [], m, h, _ => h
  | k :: l, m, h, ho => by
    rw [List.foldl_cons]
    refine bits_lt l _ ?_ (fun x hx => ho x (List.mem_cons_of_mem _ hx))
    exact Nat.or_lt_two_pow h (Nat.pow_lt_pow_right (by omega) (codeOf_lt (ho k (List.mem_cons_self ..))))
theorem bitsOf_lt {l : List Int} (h : ∀ k ∈ l, okObj k) : bitsOf l < 2 ^ 22 := bits_lt l 0 (by omega) h
theorem bits_meet {a b : List Int} (ha : ∀ k ∈ a, okObj k) (hb : ∀ k ∈ b, okObj k) : (bitsOf a &&& bitsOf b != 0) = meets a b := by
  rw [Bool.eq_iff_iff]
  simp only [bne_iff_ne, ne_eq, meets, List.any_eq_true, decide_eq_true_eq]
  constructor
  · intro h
    obtain ⟨i, hi⟩ : ∃ i, (bitsOf a &&& bitsOf b).testBit i = true := by
      by_cases hn : ∃ i, (bitsOf a &&& bitsOf b).testBit i = true
      · exact hn
      · exfalso
        refine h (Nat.eq_of_testBit_eq fun i => ?_)
        rw [Nat.zero_testBit]
        cases e : (bitsOf a &&& bitsOf b).testBit i
        · rfl
        · exact absurd ⟨i, e⟩ hn
    rw [Nat.testBit_and, Bool.and_eq_true, bitsOf_test, bitsOf_test, List.any_eq_true, List.any_eq_true] at hi
    obtain ⟨⟨x, hx, ex⟩, y, hy, ey⟩ := hi
    simp only [decide_eq_true_eq] at ex ey
    have := codeOf_inj (ha x hx) (hb y hy) (by omega)
    subst this
    exact ⟨x, hx, hy⟩
  · rintro ⟨x, hx, hy⟩ h
    have h1 : (bitsOf a).testBit (codeOf x) = true := by
      rw [bitsOf_test, List.any_eq_true]; exact ⟨x, hx, by simp⟩
    have h2 : (bitsOf b).testBit (codeOf x) = true := by
      rw [bitsOf_test, List.any_eq_true]; exact ⟨x, hy, by simp⟩
    have h3 : (bitsOf a &&& bitsOf b).testBit (codeOf x) = true := by rw [Nat.testBit_and, h1, h2]; rfl
    rw [h, Nat.zero_testBit] at h3
    cases h3
theorem bits_step {l : List Int} {k : Nat} {x : Int} (h : l[k]? = some x) : bitsOf (l.take (k + 1)) = bitsOf (l.take k) ||| 2 ^ codeOf x := by
  unfold bitsOf
  exact foldl_step h
theorem bv_nat {n : Nat} (h : n < 2 ^ 64) : (BitVec.ofInt 64 (n : Int)).toNat = n := by
  rw [BitVec.toNat_ofInt]
  omega
theorem bit_or {m n : Nat} (hm : m < 2 ^ 62) (hn : n < 2 ^ 62) : bitv .or .i64 (m : Int) (n : Int) = ((m ||| n : Nat) : Int) := by
  have h : m ||| n < 2 ^ 62 := Nat.or_lt_two_pow hm hn
  have e : ((BitVec.ofInt IntKind.i64.bits (m : Int) ||| BitVec.ofInt IntKind.i64.bits (n : Int) : BitVec IntKind.i64.bits)).toNat = m ||| n := by
    rw [BitVec.toNat_or]
    show (BitVec.ofInt 64 (m : Int)).toNat ||| (BitVec.ofInt 64 (n : Int)).toNat = _
    rw [bv_nat (by omega), bv_nat (by omega)]
  unfold bitv
  simp only []
  rw [e]
  exact wrapI _ (by omega) (by omega)
theorem bit_and {m n : Nat} (hm : m < 2 ^ 62) (hn : n < 2 ^ 62) : bitv .and .i64 (m : Int) (n : Int) = ((m &&& n : Nat) : Int) := by
  have h : m &&& n < 2 ^ 62 := Nat.and_lt_two_pow m hn
  have e : ((BitVec.ofInt IntKind.i64.bits (m : Int) &&& BitVec.ofInt IntKind.i64.bits (n : Int) : BitVec IntKind.i64.bits)).toNat = m &&& n := by
    rw [BitVec.toNat_and]
    show (BitVec.ofInt 64 (m : Int)).toNat &&& (BitVec.ofInt 64 (n : Int)).toNat = _
    rw [bv_nat (by omega), bv_nat (by omega)]
  unfold bitv
  simp only []
  rw [e]
  exact wrapI _ (by omega) (by omega)
theorem casesOk_mem {p : Prog} {n : Int} : ∀ {l a : List Case}, casesOk p n a l = true → ∀ x ∈ l, caseOk p n x = true
  | y :: r, a, h, x, hx => by
    simp only [casesOk, Bool.and_eq_true] at h
    rcases List.mem_cons.1 hx with rfl | hx
    · exact h.1.1
    · exact casesOk_mem h.2 x hx
/-! ### what an event touches lies in the range of the masks -/
theorem kin_ok {p : Prog} {ch : Int} (hp : progOk p = true) : ∀ k ∈ kin p ch, okObj k := by
  intro k hk
  unfold kin at hk
  split at hk
  · rename_i hin
    rw [mem_rising] at hk
    have hcap : p.caps.length ≤ 6 := by
      simp only [progOk, headOk, Bool.and_eq_true, decide_eq_true_eq] at hp
      omega
    simp [inCh] at hin
    simp only [kinA, List.mem_cons, List.mem_flatMap] at hk
    rcases hk with rfl | ⟨s, hs, hk⟩
    · left; omega
    · split at hk
      · obtain ⟨h0, c, hc, rfl⟩ := mem_chans.1 hk
        have h2 := hp
        simp only [progOk, Bool.and_eq_true, List.all_eq_true] at h2
        have h3 := h2.1.2 s hs
        simp only [selPOk, selOk, Bool.and_eq_true] at h3
        have h4 := casesOk_mem h3.2.1 c hc
        simp [caseOk, inR] at h4
        left; omega
      · cases hk
  · cases hk
theorem objects_ok {p : Prog} {d : Deed} (h : evOk p d = true) : ∀ k ∈ objects p d, okObj k := by
  have hf := evF h
  intro k hk
  unfold objects at hk
  split at hk
  · exact kin_ok hf.prog k hk
  · split at hk
    · split at hk
      · rw [mem_rising] at hk
        obtain ⟨x, hx, hk⟩ := List.mem_flatMap.1 hk
        exact kin_ok hf.prog k hk
      · cases hk
    · split at hk
      · rename_i e
        have hm := hf.mus e
        have hm4 := progOk_mus hf.prog
        have : d.obj < p.mus := by
          have h5 := h
          simp only [evOk, evIn, Bool.and_eq_true] at h5
          have h6 := h5.2.1.2
          have h8 : ¬ (d.op = 8 ∨ d.op = 9 ∨ d.op = 10) := by omega
          have h11 : ¬ d.op = 11 := by omega
          simp only [objOk, if_neg h8, if_neg h11, if_pos e, inR, Bool.and_eq_true, decide_eq_true_eq] at h6
          omega
        simp at hk
        subst hk
        right; left; omega
      · split at hk <;> (simp at hk; subst hk; simp [okObj])
def msk (p : Prog) (d : Deed) : Nat := if evOk p d then bitsOf (objects p d) else 0
def tch (p : Prog) (d : Deed) : Tch := ⟨evOk p d, d.g, (msk p d : Nat)⟩
theorem msk_lt (p : Prog) (d : Deed) : msk p d < 2 ^ 22 := by
  unfold msk
  split
  · rename_i h; exact bitsOf_lt (objects_ok h)
  · omega
theorem msk_meet {p : Prog} {a b : Deed} (ha : evOk p a = true) (hb : evOk p b = true) : (msk p a &&& msk p b != 0) = meets (objects p a) (objects p b) := by
  unfold msk
  rw [if_pos ha, if_pos hb]
  exact bits_meet (objects_ok ha) (objects_ok hb)
theorem msk_and (p : Prog) (a b : Deed) : bitv .and .i64 (msk p a : Nat) (msk p b : Nat) = ((msk p a &&& msk p b : Nat) : Int) :=
  bit_and (by have := msk_lt p a; omega) (by have := msk_lt p b; omega)
/-! ### what comes ahead -/
def mt (p : Prog) (l : List Deed) (j i : Nat) : Bool := match l[j]?, l[i]? with
  | some a, some b => meet p a b
  | _, _ => false
def needsN (p : Prog) (l : List Deed) (i : Nat) : List Nat := (List.range i).filter fun j => mt p l j i
def natI (l : List Nat) : List Int := l.map fun (n : Nat) => (n : Int)
def inL (l : List Deed) (i : Int) : Bool := decide (0 ≤ i) && decide (i < (l.length : Int))
def needs (p : Prog) (l : List Deed) (i : Int) : List Int := if inL l i then natI (needsN p l i.toNat) else []
theorem filter_step {f : Nat → Bool} (k : Nat) : (List.range (k + 1)).filter f = (List.range k).filter f ++ (if f k then [k] else []) := by
  rw [List.range_succ, List.filter_append]
  simp [List.filter_cons]
theorem filter_len (f : Nat → Bool) (k : Nat) : ((List.range k).filter f).length ≤ k := by
  have := List.length_filter_le f (List.range k)
  simpa using this
def ahStep (p : Prog) (l : List Deed) (k : Nat) (f : Nat → Bool) : Nat → Bool := if f k then fun j => f j || (decide (j < k) && mt p l j k) else f
def ahGo (p : Prog) (l : List Deed) : Nat → (Nat → Bool) → (Nat → Bool)
  | 0, f => f
  | k + 1, f => ahGo p l k (ahStep p l k f)
def aheadF (p : Prog) (l : List Deed) (i : Nat) : Nat → Bool := ahGo p l (i + 1) (fun j => j == i)
def aheadN (p : Prog) (l : List Deed) (i : Nat) : List Nat := (List.range i).filter (aheadF p l i)
def ahead (p : Prog) (l : List Deed) (i : Int) : List Int := if inL l i then natI (aheadN p l i.toNat) else []
def apart (p : Prog) (l : List Deed) (i j : Int) : Bool := inL l i && inL l j && !decide (i = j) && !decide (j ∈ ahead p l i) && !decide (i ∈ ahead p l j)
/-! ### layers -/
def layNext (p : Prog) (l : List Deed) (out : List Int) (i : Nat) : Int := (needsN p l i).foldl (fun n j => max n (out.getD j 0 + 1)) 0
def layers (p : Prog) (l : List Deed) : Nat → List Int
  | 0 => []
  | i + 1 => layers p l i ++ [layNext p l (layers p l i) i]

theorem cast_ne (n : Nat) : ((n : Int) != 0) = (n != 0) := by
  rw [Bool.eq_iff_iff]
  simp
end HT
