import Derived.Test.YtdhoappjadnhcaaGreatHCU3
import Derived.Test.YtdhoappjadnhcaaGreatHCTB
import Derived.Test.YtdhoappjadnhcaaGreatG10
/-
  My own texts (road H): HCY0.
-/
set_option maxHeartbeats 8000000
set_option linter.unusedSimpArgs false
set_option linter.unusedVariables false
namespace HT
open Go Go.Proofs HK
theorem any_take {α : Type} {f : α → Bool} {l : List α} {k : Nat} {x : α} (h : l[k]? = some x) : (l.take (k + 1)).any f = ((l.take k).any f || f x) := by
  rw [List.take_add_one, h]; simp
def waitOk (o : Int) : List Int → List Int → Bool
  | _, [] => true
  | a, x :: r => !(decide (x < 0) || decide (x = o) || decide (x ∈ a)) && waitOk o (a ++ [x]) r
theorem waitOk_step {o : Int} {l : List Int} {k : Nat} {x : Int} (h : l[k]? = some x) : waitOk o (l.take k) (l.drop k) = (!(decide (x < 0) || decide (x = o) || decide (x ∈ l.take k)) && waitOk o (l.take (k + 1)) (l.drop (k + 1))) := by
  obtain ⟨hlt, rfl⟩ := List.getElem?_eq_some_iff.1 h; rw [List.drop_eq_getElem_cons hlt, waitOk, List.take_add_one, h]; rfl
def muOk (m : Mutex) : Bool := !(decide (m.owner < -1) || (decide (m.owner = -1) && decide (0 < m.wait.length))) && waitOk m.owner [] m.wait
def mayW (p : Prog) (g : Gor) : Bool := decide ((atI p g).op = 8) || decide ((atI p g).op = 9) || decide ((atI p g).op = 12) || (decide ((atI p g).op = 11) && match p.sels[(atI p g).a.toNat]? with | some s => decide (s.els < 0) | none => false)
theorem PlaceS_strM2 (l : List Place) : ∀ x ∈ PlaceS l, ∀ y ∈ x, strN 4 y = true := fun x hx y hy => by
  obtain ⟨d, _, rfl⟩ := List.mem_map.1 hx; simp at hy; rcases hy with rfl | rfl | rfl | rfl | rfl | rfl <;> rfl
theorem PlaceS_snoc (l : List Place) (x : Place) : PlaceS (l ++ [x]) = PlaceS l ++ [x.cl] := by simp [PlaceS]
theorem Place_eqc (a b : Place) : eqc a.cl b.cl = decide (a = b) := by
  cases a; cases b
  rw [Bool.eq_iff_iff]; simp [eqc]
def wantG (p : Prog) (k : Nat) (g : Gor) : List Place := if g.state = 2 then pls p g k else []
def want (p : Prog) : Nat → List Gor → List Place
  | _, [] => []
  | k, g :: r => wantG p k g ++ want p (k + 1) r
theorem want_snoc (p : Prog) : ∀ (l : List Gor) (k : Nat) (g : Gor), want p k (l ++ [g]) = want p k l ++ wantG p (k + l.length) g
  | [], k, g => by simp [want]
  | x :: r, k, g => by simp [want, want_snoc p r (k + 1) g]; rw [show k + 1 + r.length = k + (r.length + 1) by omega]
def sendP (k : Nat) (w : Waiter) : Place := ⟨false, k, true, w.g, w.cas, w.v⟩
def recvP (k : Nat) (w : Waiter) : Place := ⟨false, k, false, w.g, w.cas, w.v⟩
def muP (k : Nat) (g : Int) : Place := ⟨true, k, false, g, -1, 0⟩
def haveC (k : Nat) (c : Chan) : List Place := c.sends.map (sendP k) ++ c.recvs.map (recvP k)
def haveM (k : Nat) (m : Mutex) : List Place := m.wait.map (muP k)
def hvC : Nat → List Chan → List Place
  | _, [] => []
  | k, c :: r => haveC k c ++ hvC (k + 1) r
def hvM : Nat → List Mutex → List Place
  | _, [] => []
  | k, m :: r => haveM k m ++ hvM (k + 1) r
theorem hvC_snoc : ∀ (l : List Chan) (k : Nat) (c : Chan), hvC k (l ++ [c]) = hvC k l ++ haveC (k + l.length) c
  | [], k, c => by simp [hvC]
  | x :: r, k, c => by simp [hvC, hvC_snoc r (k + 1) c]; rw [show k + 1 + r.length = k + (r.length + 1) by omega]
theorem hvM_snoc : ∀ (l : List Mutex) (k : Nat) (c : Mutex), hvM k (l ++ [c]) = hvM k l ++ haveM (k + l.length) c
  | [], k, c => by simp [hvM]
  | x :: r, k, c => by simp [hvM, hvM_snoc r (k + 1) c]; rw [show k + 1 + r.length = k + (r.length + 1) by omega]
def allW (e : Eng) : List Place := hvC 0 e.chans ++ hvM 0 e.mus
def sameQ (a b : List Place) : Bool := (a.all fun x => decide (a.count x = b.count x)) && decide (a.length = b.length)
theorem sameQ_iff {a b : List Place} : sameQ a b = true ↔ ∀ x, a.count x = b.count x := by
  unfold sameQ; simp only [Bool.and_eq_true, List.all_eq_true, decide_eq_true_eq]; constructor
  · rintro ⟨h1, h2⟩
    have hp : a.Perm (b.filter fun x => decide (x ∈ a)) := by
      rw [List.perm_iff_count]; intro x; by_cases hx : x ∈ a
      · rw [List.count_filter (by simpa using hx)]; exact h1 x hx
      · rw [List.count_eq_zero_of_not_mem hx, List.count_eq_zero_of_not_mem]
        intro hm; have := (List.mem_filter.1 hm).2
        exact hx (by simpa using this)
    have hl := hp.length_eq
    have hfe : b.filter (fun x => decide (x ∈ a)) = b := List.filter_sublist.eq_of_length (by omega)
    rw [hfe] at hp; exact fun x => (List.perm_iff_count.1 hp) x
  · intro h
    have hp : a.Perm b := List.perm_iff_count.2 h
    exact ⟨fun x _ => h x, hp.length_eq⟩
def chanFit (p : Prog) (k : Nat) (c : Chan) : Bool := chanOk c && match p.caps[k]? with | some n => decide (c.cap = n) | none => false
def chansFit (p : Prog) : Nat → List Chan → Bool
  | _, [] => true
  | k, c :: r => chanFit p k c && chansFit p (k + 1) r
def muFit (e : Eng) (m : Mutex) : Bool := muOk m && !decide ((e.gs.length : Int) ≤ m.owner)
def engObj (p : Prog) (e : Eng) : Bool := decide (e.chans.length = p.caps.length) && decide ((e.mus.length : Int) = p.mus) && chansFit p 0 e.chans && e.mus.all (muFit e)
def gFit (p : Prog) (g : Gor) : Bool := gorIn p g && (!decide (g.state = 2) || mayW p g)
def engOk (p : Prog) (e : Eng) : Bool := progOk p && decide (1 ≤ e.gs.length) && decide (e.gs.length ≤ 10) && engObj p e && e.gs.all (gFit p) && sameQ (want p 0 e.gs) (allW e)
end HT
