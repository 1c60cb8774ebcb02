import Derived.Test.YteeefpifkepbpaaHSU
import Derived.Test.YteeefpifkepbpaaHSUS
/-
  My own texts (road H): HSV.
-/
set_option linter.unusedSimpArgs false
namespace HS
open Go Go.Proofs HK
def scan (b : List Int) (at_ : Nat) (out : List (List Int)) : List (List Int) × Nat × Nat :=
  if _h : at_ < b.length then
    if frC (b.drop at_) = 0 ∧ seqF (b.drop at_) = out.length then scan b (at_ + 15 + cntF (b.drop at_)) (out ++ [datF (b.drop at_)])
    else (out, at_, if frC (b.drop at_) = 2 ∨ frC (b.drop at_) = 4 then 1 else 2)
  else (out, at_, 0)
termination_by b.length - at_
decreasing_by omega
def CF (l : List (List Int)) : List (List AV) := l.map fun d => [AV.fz (YS d)]
@[simp] theorem CF_length (l : List (List Int)) : (CF l).length = l.length := by simp [CF]
@[simp] theorem CF_get (l : List (List Int)) (k : Nat) : (CF l)[k]? = (l[k]?).map fun d => [AV.fz (YS d)] := by simp [CF]
@[simp] theorem CF_nil : CF [] = [] := rfl
theorem CF_snoc (l : List (List Int)) (d : List Int) : CF (l ++ [d]) = CF l ++ [[AV.fz (YS d)]] := by simp [CF]
@[simp] theorem CF_take (l : List (List Int)) : List.take l.length (CF l) = CF l := List.take_of_length_le (by simp)
@[simp] theorem CF_low (n : Nat) (l : List (List Int)) : lowEs n (CF l) = true := by simp [lowEs, CF]
@[simp] theorem CF_ren (l : List (List Int)) (ids : List Nat) (d : Nat) : (CF l).map (List.map (renN ids (d + 1))) = CF l := by simp [CF, Function.comp_def]
abbrev logZ : Blk := ⟨2, [[.int .i64 0, .nil]]⟩
end HS
