import Derived.Test.YtfdaepchofckkaaG4
import Derived.Test.YtfdaepchofckkaaG5
/-
  My own texts (road H): HZT5 HZTA.
-/
set_option linter.unusedSimpArgs false
set_option linter.unusedVariables false
namespace HT
open Go Go.Proofs HK
theorem snoc {α : Type} (l : List α) : l = [] ∨ ∃ a x, l = a ++ [x] := by
  rcases List.eq_nil_or_concat l with h | ⟨a, x, h⟩
  · exact .inl h
  · exact .inr ⟨a, x, by simpa using h⟩
/-- A trace without its end. -/
def trc (l : List Item) : List Item := match l.getLast? with
  | some x => if x.kind == 9 then l.dropLast else l
  | none => l
theorem trc_nil : trc [] = [] := rfl
theorem trc_yes {a : List Item} {x : Item} (h : x.kind = 9) : trc (a ++ [x]) = a := by simp [trc, h]
theorem trc_no {a : List Item} {x : Item} (h : ¬ x.kind = 9) : trc (a ++ [x]) = a ++ [x] := by simp [trc, h]
theorem trc_le (l : List Item) : (trc l).length ≤ l.length := by
  unfold trc; split <;> (try split) <;> simp
theorem ItemS_snoc (a : List Item) (x : Item) : ItemS (a ++ [x]) = ItemS a ++ [x.cl] := by simp [ItemS]
theorem ItemS_oc {l : List Item} {x : List AV} {y : AV} (hx : x ∈ ItemS l) (hy : y ∈ x) : oc y = true ∧ plain y = true := by
  obtain ⟨d, _, rfl⟩ := List.mem_map.1 hx
  simp at hy
  rcases hy with rfl | rfl | rfl | rfl <;> exact ⟨rfl, rfl⟩
theorem ItemS_strM (l : List Item) : ∀ x ∈ ItemS l, ∀ y ∈ x, strN 4 y = true := fun x hx y hy => by
  obtain ⟨d, _, rfl⟩ := List.mem_map.1 hx
  simp at hy
  rcases hy with rfl | rfl | rfl | rfl <;> rfl
theorem wrm1 : IntKind.i64.wrap (-1) = -1 := wrapI (-1) (by omega) (by omega)
theorem Item_eqc (a b : Item) : eqc a.cl b.cl = decide (a = b) := by
  cases a; cases b
  simp [eqc]
  rw [Bool.eq_iff_iff]
  simp
theorem ItemS_sh {l : List Item} (h : ItemS l = []) : l = [] := by simpa [ItemS] using h
set_option maxHeartbeats 1000000 in
theorem within_ok (a b c : Int) : Fn Try.prog 22 [.int .i64 a, .int .i64 b, .int .i64 c] (.bool (decide (b ≤ a) && decide (a < c))) := by
  refine Fn.intro Try.func22 (by decide) rfl (rs := [.tmp 6]) rfl Try.ntmps22 (by simp) ?_
  refine SW.regionK fun K hK => ?_
  simp -implicitDefEqProofs
  repeat refine ⟨by omega, ?_⟩
  refine hK _ ?_
  clear hK K
  refine SW.regionK fun K hK => ?_
  simp -implicitDefEqProofs
  repeat refine ⟨by omega, ?_⟩
  refine hK _ ?_
  clear hK K
  refine SW.ret ?_
  simp [Ex.then, Ex.inBlock]
end HT

set_option linter.unusedSimpArgs false
set_option linter.unusedVariables false
namespace HT
open Go Go.Proofs HK
def valOk (n : Int) : Bool := decide (0 ≤ n) && decide (n ≤ 999)
def wOk (q : Bool) (w : Waiter) : Bool := decide (0 ≤ w.g) && decide (-1 ≤ w.cas) && valOk w.v && (q || decide (w.v = 0))
def chanHead (c : Chan) : Bool := decide (0 ≤ c.cap) && decide (c.cap ≤ 4) && decide ((c.buf.length : Int) ≤ c.cap)
def chanMid (c : Chan) : Bool := decide (0 < c.sends.length) && (decide ((c.buf.length : Int) < c.cap) || decide (0 < c.recvs.length) || c.closed)
def chanTail (c : Chan) : Bool := decide (c.recvs.length = 0) || (decide (c.buf.length = 0) && !c.closed)
def chanOk (c : Chan) : Bool := chanHead c && c.buf.all valOk && c.sends.all (wOk true) && c.recvs.all (wOk false) && !chanMid c && chanTail c
theorem all_false {α : Type} {l : List α} {p : α → Bool} {k : Nat} {x : α} (h : l[k]? = some x) (hx : p x = false) : l.all p = false := by
  rw [List.all_eq_false]; exact ⟨x, List.mem_of_getElem? h, by simp [hx]⟩
theorem all_next {α : Type} {l : List α} {p : α → Bool} {k : Nat} {x : α} (h : l[k]? = some x) (ha : (l.take k).all p = true) (hx : p x = true) : (l.take (k + 1)).all p = true := by
  rw [List.take_add_one, h, List.all_append, ha]; simp [hx]
theorem all_take {α : Type} {l : List α} {p : α → Bool} (h : (l.take l.length).all p = true) : l.all p = true := by rwa [List.take_length] at h
set_option maxHeartbeats 1000000 in
theorem val_s (a : Int) : Fn Try.prog 78 [.int .i64 a] (.bool (valOk a)) := by
  refine Fn.intro Try.func78 (by decide) rfl (rs := [.tmp 2]) rfl Try.ntmps78 (by simp) ?_
  refine SW.regionK fun K hK => ?_
  simp -implicitDefEqProofs
  repeat refine ⟨by omega, ?_⟩
  refine hK _ ?_
  clear hK K
  refine SW.regionK fun K hK => ?_
  simp -implicitDefEqProofs
  repeat refine ⟨by omega, ?_⟩
  refine hK _ ?_
  clear hK K
  refine SW.ret ?_
  simp [Ex.then, Ex.inBlock]
  all_goals simp [valOk]
set_option maxHeartbeats 1000000 in
theorem val_i (a : Int) : Fn Try.prog 81 [.int .i64 a] (.bool (valOk a)) := by
  refine Fn.intro Try.func81 (by decide) rfl (rs := [.tmp 2]) rfl Try.ntmps81 (by simp) ?_
  refine SW.regionK fun K hK => ?_
  simp -implicitDefEqProofs
  repeat refine ⟨by omega, ?_⟩
  refine hK _ ?_
  clear hK K
  refine SW.regionK fun K hK => ?_
  simp -implicitDefEqProofs
  repeat refine ⟨by omega, ?_⟩
  refine hK _ ?_
  clear hK K
  refine SW.ret ?_
  simp [Ex.then, Ex.inBlock]
  all_goals simp [valOk]
def idxV (l : List Int) : Int := if l.all valOk then -1 else ((l.takeWhile valOk).length : Int)
theorem idxV_at {l : List Int} {k : Nat} {x : Int} (ha : (l.take k).all valOk = true) (h : l[k]? = some x) (hx : valOk x = false) : idxV l = k := by
  have hf := all_false h hx
  obtain ⟨hlt, rfl⟩ := List.getElem?_eq_some_iff.1 h
  rw [idxV, if_neg (by simp [hf])]
  conv => lhs; rw [← List.take_append_drop k l, List.drop_eq_getElem_cons hlt]
  rw [List.takeWhile_append_of_pos (by simpa using ha), List.takeWhile_cons_of_neg (by simp [hx])]
  simp; omega
theorem idxV_nn (l : List Int) : decide (0 ≤ idxV l) = !l.all valOk := by
  unfold idxV
  cases h : l.all valOk <;> simp
end HT
