import Derived.Test.YtohfnikklggjjaaGreatG4
import Derived.Test.YtohfnikklggjjaaGreatG5
/-
  My own texts (road H): HGT5 HGTA.
-/
set_option linter.unusedSimpArgs false
set_option linter.unusedVariables false
namespace HT
open Go Go.Proofs HK
def trc (l : List Item) : List Item := match l.getLast? with
  | some x => if x.kind == 9 then l.dropLast else l
  | none => l
set_option maxHeartbeats 1000000 in
theorem within_ok (a b c : Int) : Fn Tryz.prog 57 [.int .i64 a, .int .i64 b, .int .i64 c] (.bool (decide (b ≤ a) && decide (a < c))) := by
  refine Fn.intro Tryz.func57 (by decide) rfl (rs := [.tmp 6]) rfl Tryz.ntmps57 (by simp) ?_; refine SW.rg fun K hK => ?_; simp -implicitDefEqProofs; repeat refine ⟨by omega, ?_⟩
  refine hK _ ?_; clear hK K; refine SW.rg fun K hK => ?_; simp -implicitDefEqProofs; repeat refine ⟨by omega, ?_⟩
  refine hK _ ?_; clear hK K; refine SW.ret ?_; simp [Ex.then, Ex.ib]
end HT
set_option linter.unusedSimpArgs false
set_option linter.unusedVariables false
namespace HT
open Go Go.Proofs HK
def valOk (n : Int) : Bool := decide (0 ≤ n) && decide (n ≤ 999)
def wOk (q : Bool) (w : Waiter) : Bool := decide (0 ≤ w.g) && decide (-1 ≤ w.cas) && valOk w.v && (q || decide (w.v = 0))
def chanHead (c : Chan) : Bool := decide (0 ≤ c.cap) && decide (c.cap ≤ 4) && decide ((c.buf.length : Int) ≤ c.cap)
def chanMid (c : Chan) : Bool := decide (0 < c.sends.length) && (decide ((c.buf.length : Int) < c.cap) || decide (0 < c.recvs.length) || c.closed)
def chanTail (c : Chan) : Bool := decide (c.recvs.length = 0) || (decide (c.buf.length = 0) && !c.closed)
def chanOk (c : Chan) : Bool := chanHead c && c.buf.all valOk && c.sends.all (wOk true) && c.recvs.all (wOk false) && !chanMid c && chanTail c
theorem all_false {α : Type} {l : List α} {p : α → Bool} {k : Nat} {x : α} (h : l[k]? = some x) (hx : p x = false) : l.all p = false := by
  rw [List.all_eq_false]; exact ⟨x, List.mem_of_getElem? h, by simp [hx]⟩
theorem all_next {α : Type} {l : List α} {p : α → Bool} {k : Nat} {x : α} (h : l[k]? = some x) (ha : (l.take k).all p = true) (hx : p x = true) : (l.take (k + 1)).all p = true := by
  rw [List.take_add_one, h, List.all_append, ha]; simp [hx]
theorem all_take {α : Type} {l : List α} {p : α → Bool} (h : (l.take l.length).all p = true) : l.all p = true := by rwa [List.take_length] at h
set_option maxHeartbeats 1000000 in
theorem val_s (a : Int) : Fn Tryz.prog 85 [.int .i64 a] (.bool (valOk a)) := by
  refine Fn.intro Tryz.func85 (by decide) rfl (rs := [.tmp 2]) rfl Tryz.ntmps85 (by simp) ?_; refine SW.rg fun K hK => ?_; simp -implicitDefEqProofs; repeat refine ⟨by omega, ?_⟩
  refine hK _ ?_; clear hK K; refine SW.rg fun K hK => ?_; simp -implicitDefEqProofs; repeat refine ⟨by omega, ?_⟩
  refine hK _ ?_; clear hK K; refine SW.ret ?_; simp [Ex.then, Ex.ib]
  all_goals simp [valOk]
set_option maxHeartbeats 1000000 in
theorem val_i (a : Int) : Fn Tryz.prog 88 [.int .i64 a] (.bool (valOk a)) := by
  refine Fn.intro Tryz.func88 (by decide) rfl (rs := [.tmp 2]) rfl Tryz.ntmps88 (by simp) ?_; refine SW.rg fun K hK => ?_; simp -implicitDefEqProofs; repeat refine ⟨by omega, ?_⟩
  refine hK _ ?_; clear hK K; refine SW.rg fun K hK => ?_; simp -implicitDefEqProofs; repeat refine ⟨by omega, ?_⟩
  refine hK _ ?_; clear hK K; refine SW.ret ?_; simp [Ex.then, Ex.ib]
  all_goals simp [valOk]
def idxV (l : List Int) : Int := if l.all valOk then -1 else ((l.takeWhile valOk).length : Int)
end HT
