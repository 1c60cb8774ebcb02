import Derived.Test.YteeefpifkepbpaaHSM
/-
  My own texts (road H): HSN.
-/
set_option linter.unusedSimpArgs false
namespace HS
open Go Go.Proofs HK
def rdD (n1 n2 n3 n4 : Nat) (last : Int) : Deed := ⟨unzig n1 + last, (n2 : Int) + 8, (n3 : Int) - 1, (n4 : Int) - 3⟩
def rdAll (o1 o2 o3 o4 : Option (Nat × Nat)) (last : Int) : Option (Deed × Nat) :=
  if o1.isSome && o2.isSome && o3.isSome && o4.isSome && wideOk last && packOk last (rdD (nv o1) (nv o2) (nv o3) (nv o4) last) then some (rdD (nv o1) (nv o2) (nv o3) (nv o4) last, pv o4) else none
def readE (b : List Int) (i last : Int) : Option (Deed × Nat) :=
  rdAll (getV b i) (getV b (pv (getV b i))) (getV b (pv (getV b (pv (getV b i))))) (getV b (pv (getV b (pv (getV b (pv (getV b i))))))) last
def rdA : Option (Deed × Nat) → AV
  | some (d, p) => .tup [.agg d.c, .int .i64 p, .bool true]
  | none => .tup [.agg zD, .int .i64 0, .bool false]
@[simp] theorem wr1 : IntKind.i64.wrap 1 = 1 := wrapI 1 (by omega) (by omega)
@[simp] theorem wr2 : IntKind.i64.wrap 2 = 2 := wrapI 2 (by omega) (by omega)
@[simp] theorem wr3 : IntKind.i64.wrap 3 = 3 := wrapI 3 (by omega) (by omega)
def RdI (o1 o2 o3 o4 : Option (Nat × Nat)) : Nat → Nat → Nat → Nat → Nat → Prop
  | 0, t, a, e, c => o1.isSome = true ∧ t = pv o1 ∧ a = 0 ∧ e = 0 ∧ c = 0
  | 1, t, a, e, c => o1.isSome = true ∧ o2.isSome = true ∧ t = pv o2 ∧ a = nv o2 ∧ e = 0 ∧ c = 0
  | 2, t, a, e, c => o1.isSome = true ∧ o2.isSome = true ∧ o3.isSome = true ∧ t = pv o3 ∧ a = nv o2 ∧ e = nv o3 ∧ c = 0
  | _, t, a, e, c => o1.isSome = true ∧ o2.isSome = true ∧ o3.isSome = true ∧ o4.isSome = true ∧ t = pv o4 ∧ a = nv o2 ∧ e = nv o3 ∧ c = nv o4
end HS
