import Derived.Test.YteeefpifkepbpaaEHSN
/-
  My own texts (road H): HSO.
-/
set_option linter.unusedSimpArgs false
namespace HS
open Go Go.Proofs HK
def rdC : Option (Deed × Nat) → Deed
  | some (d, _) => d
  | none => ⟨0, 0, 0, 0⟩
def rdP : Option (Deed × Nat) → Nat
  | some (_, p) => p
  | none => 0
theorem rdA_eq (o : Option (Deed × Nat)) : rdA o = .tup [.agg (rdC o).c, .int .i64 (rdP o), .bool o.isSome] := by
  cases o with
  | none => rfl
  | some x => rfl
theorem readEvent_i (b : List Int) (i last : Int) (hl : b.length ≤ 2 ^ 40) (hb : ∀ x ∈ b, isB x) : Fn Try.prog 40 [.fz (YS b), .int .i64 i, .int .i64 last] (.tup [.agg (rdC (readE b i last)).c, .int .i64 (rdP (readE b i last)), .bool (readE b i last).isSome]) := by
  rw [← rdA_eq]; exact readEvent_impl b i last hl hb
theorem byte_wf {x : Int} (h : (Lit.int .u8 x).wf = true) : isB x := by
  simp [Lit.wf, IntKind.min, IntKind.max, IntKind.bits, IntKind.signed] at h; unfold isB; omega
end HS
