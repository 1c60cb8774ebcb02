import Derived.Test.YteeefpifkepbpaaEHS0
import Derived.Test.YteeefpifkepbpaaEG2b
/-
  My own texts (road H): HS1.
-/
set_option linter.unusedSimpArgs false
namespace HS
open Go Go.Proofs HK
theorem mixed : Try.prog.follows .mixedOrders = true := by kernel_rfl
structure Deed where
  g : Int
  op : Int
  obj : Int
  cas : Int
@[simp] def Deed.c (d : Deed) : List AV := [.int .i64 d.g, .int .i64 d.op, .int .i64 d.obj, .int .i64 d.cas]
def DS (l : List Deed) : List (List AV) := l.map Deed.c
@[simp] theorem DS_length (l : List Deed) : (DS l).length = l.length := by simp [DS]
theorem DS_int {l : List Deed} {x : List AV} {y : AV} (hx : x ∈ DS l) (hy : y ∈ x) : ∃ n, y = .int .i64 n := by
  obtain ⟨d, _, rfl⟩ := List.mem_map.1 hx; simp at hy; rcases hy with rfl | rfl | rfl | rfl <;> exact ⟨_, rfl⟩
@[simp] theorem DS_get (l : List Deed) (k : Nat) : (DS l)[k]? = (l[k]?).map Deed.c := by simp [DS]
@[simp] theorem DS_take (l : List Deed) : (DS l).take l.length = DS l := by rw [← DS_length l, List.take_length]
@[simp] theorem DS_view (l : List Deed) (h : Heap) (d : Nat) : (DS l).map (List.map (viewN h (d + 1))) = DS l := by
  simp [DS, Function.comp_def]
@[simp] theorem DS_ren (l : List Deed) (ids : List Nat) (d : Nat) : (DS l).map (List.map (renN ids (d + 1))) = DS l := by
  simp [DS, Function.comp_def, renN]
@[simp] theorem DS_empty : DS [] = [] := rfl
theorem DS_app (a b : List Deed) : DS (a ++ b) = DS a ++ DS b := by simp [DS]
theorem DS_len {l : List Deed} {e : List AV} (h : e ∈ DS l) : e.length = 4 := by
  obtain ⟨d, _, rfl⟩ := List.mem_map.1 h; rfl
theorem DS_oc {l : List Deed} {x : List AV} {y : AV} (hx : x ∈ DS l) (hy : y ∈ x) : oc y = true ∧ plain y = true := by
  obtain ⟨n, rfl⟩ := DS_int hx hy; exact ⟨rfl, rfl⟩
theorem DS_nil {l : List Deed} (h : DS l = []) : l = [] := by simpa [DS] using h
@[simp] theorem DS_low (n : Nat) (l : List Deed) : lowEs n (DS l) = true := lowEs_of fun x hx y hy => by obtain ⟨m, rfl⟩ := DS_int hx hy; rfl
@[simp] theorem DS_lowT (n : Nat) (l : List Deed) (k : Nat) : lowEs n ((DS l).take k) = true := lowEs_take (DS_low n l) k
theorem DS_okI (l : List Deed) : okI (.own 4 (DS l)) = true := by
  simp
theorem DS_takeN (l : List Deed) (k : Nat) : (DS l).take k = DS (l.take k) := by simp [DS, List.map_take]
theorem DS_dropN (l : List Deed) (k : Nat) : (DS l).drop k = DS (l.drop k) := by simp [DS, List.map_drop]
theorem wrapI (n : Int) (h : -2 ^ 63 ≤ n) (h' : n < 2 ^ 63) : IntKind.i64.wrap n = n := by
  have e : IntKind.i64.wrap n = if n % 2 ^ 64 ≥ 2 ^ 63 then n % 2 ^ 64 - 2 ^ 64 else n % 2 ^ 64 := by
    simp [IntKind.wrap, IntKind.bits, IntKind.signed]
  rw [e]; split <;> omega
theorem wrap1 (k : Nat) (h : k + 1 < 2 ^ 63) : IntKind.i64.wrap ((k : Int) + 1) = (k : Int) + 1 := wrapI _ (by omega) (by omega)
abbrev zD : List AV := [.int .i64 0, .int .i64 0, .int .i64 0, .int .i64 0]
abbrev LogC (p : Int) (l : List Deed) : AV := .agg [.int .i64 p, .fz (DS l)]
def numOk (n : Int) : Bool := decide (0 ≤ n) && decide (n ≤ 4294967295)
set_option maxHeartbeats 1000000 in
theorem num_i (a : Int) : Fn Try.prog 56 [.int .i64 a] (.bool (numOk a)) := by
  refine Fn.intro Try.func56 (by decide) rfl (rs := [.tmp 2]) rfl Try.ntmps56 (by simp) ?_; refine SW.rg fun K hK => ?_; simp -implicitDefEqProofs; repeat refine ⟨by omega, ?_⟩
  refine hK _ ?_; clear hK K; refine SW.rg fun K hK => ?_; simp -implicitDefEqProofs; repeat refine ⟨by omega, ?_⟩
  refine hK _ ?_; clear hK K; refine SW.ret ?_; simp [Ex.then, Ex.ib]
  all_goals simp [numOk]
set_option maxHeartbeats 1000000 in
theorem shared_i (a : Int) : Fn Try.prog 63 [.int .i64 a] (.bool (decide (8 ≤ a) && decide (a ≤ 15))) := by
  refine Fn.intro Try.func63 (by decide) rfl (rs := [.tmp 2]) rfl Try.ntmps63 (by simp) ?_; refine SW.rg fun K hK => ?_; simp -implicitDefEqProofs; repeat refine ⟨by omega, ?_⟩
  refine hK _ ?_; clear hK K; refine SW.rg fun K hK => ?_; simp -implicitDefEqProofs; repeat refine ⟨by omega, ?_⟩
  refine hK _ ?_; clear hK K; refine SW.ret ?_; simp [Ex.then, Ex.ib]
end HS
