import Derived.Test.YteeefpifkepbpaaHS5
/-
  My own texts (road H): HSK.
-/
set_option linter.unusedSimpArgs false
namespace HS
open Go Go.Proofs HK
def isB (x : Int) : Prop := 0 ≤ x ∧ x < 256
def val : List Int → Nat
  | [] => 0
  | d :: l => (d % 128).toNat + 128 * val l
def digs : Nat → List Int → Option (List Int)
  | 0, _ => none
  | _ + 1, [] => none
  | f + 1, x :: l => if x < 128 then some [x] else (digs f l).map (x :: ·)
def canon (ds : List Int) : Bool := decide (ds.length = 1) || !(ds.getLast? == some 0)
def getN (b : List Int) (i : Nat) : Option (Nat × Nat) := match digs 5 (b.drop i) with
  | none => none
  | some ds => if canon ds && decide (val ds ≤ 4294967295) then some (val ds, i + ds.length) else none
def getV (b : List Int) (i : Int) : Option (Nat × Nat) := if 0 ≤ i then getN b i.toNat else none
def getA : Option (Nat × Nat) → AV
  | some (n, p) => .tup [.int .i64 n, .int .i64 p, .bool true]
  | none => .tup [.int .i64 0, .int .i64 0, .bool false]
def isDig : List Int → Prop
  | [] => False
  | [x] => x < 128
  | x :: y :: l => 128 ≤ x ∧ isDig (y :: l)
theorem varB_isB : ∀ (n : Nat), ∀ x ∈ varB n, isB x := by
  intro n
  induction n using Nat.strongRecOn with
  | _ n ih =>
    intro x hx; by_cases h : n < 128
    · rw [varB_lt h] at hx
      simp at hx; subst hx; unfold isB; omega
    · rw [varB_ge h] at hx
      rcases List.mem_cons.1 hx with rfl | hx
      · unfold isB; omega
      · exact ih (n / 128) (by omega) x hx
theorem byte_nat {x : Int} (h : isB x) : ∃ D : Nat, x = D ∧ D < 256 := ⟨x.toNat, by unfold isB at h; omega, by unfold isB at h; omega⟩
end HS
