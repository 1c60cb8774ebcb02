import Derived.Test.YtjalahhkhcmjaaaDoorHLQC
import Derived.Test.YtjalahhkhcmjaaaDoorHLT4E
/-
  My own texts (road H): HLQD.
-/
set_option linter.unusedSimpArgs false
set_option linter.unusedVariables false
namespace HT
open Go Go.Proofs HK
abbrev goB : ByteArray := ⟨#[103, 111, 32]⟩
abbrev nlB : ByteArray := ⟨#[10]⟩
def statesB : List ByteArray := [⟨#[114, 101, 97, 100, 121]⟩, ⟨#[119, 97, 105, 116]⟩, ⟨#[100, 111, 110, 101]⟩, ⟨#[100, 101, 97, 100]⟩]
def stW (s : Nat) : ByteArray := (statesB[s]?).getD noB
def headB (k : Nat) (g : Gor) : ByteArray := goB ++ (numB k ++ (spB ++ (stW (g.state - 1).toNat ++ nlB)))
def lnB (i : Item) : ByteArray := spB ++ (itT i ++ nlB)
def trB : List Item → ByteArray
  | [] => noB
  | i :: r => lnB i ++ trB r
def gorB (k : Nat) (g : Gor) : ByteArray := headB k g ++ trB g.trace
def catG : Nat → List Gor → ByteArray
  | _, [] => noB
  | n, g :: r => gorB n g ++ catG (n + 1) r
def trOk (l : List Item) : Bool := l.all fun i => decide (¬ itT i = noB)
def gOk (g : Gor) : Bool := (decide (1 ≤ g.state) && decide (g.state ≤ 4)) && trOk g.trace
def engT (e : Eng) : ByteArray := if e.gs.all gOk = true then catG 0 e.gs else noB
theorem nb_app (x : ByteArray) : noB ++ x = x := ByteArray.empty_append
theorem app_nb (x : ByteArray) : x ++ noB = x := ByteArray.append_empty
theorem trB_snoc : ∀ (l : List Item) (i : Item), trB (l ++ [i]) = trB l ++ lnB i
  | [], i => by simp only [List.nil_append, trB, app_nb, nb_app]
  | x :: l, i => by simp only [List.cons_append, trB, trB_snoc l i, ByteArray.append_assoc]
theorem catG_snoc : ∀ (n : Nat) (l : List Gor) (g : Gor), catG n (l ++ [g]) = catG n l ++ gorB (n + l.length) g
  | n, [], g => by simp only [List.nil_append, catG, app_nb, nb_app, List.length_nil, Nat.add_zero]
  | n, x :: l, g => by
    simp only [List.cons_append, catG, catG_snoc (n + 1) l g, ByteArray.append_assoc, List.length_cons]; rw [show n + 1 + l.length = n + (l.length + 1) by omega]
theorem trB_take {l : List Item} {j : Nat} {i : Item} (h : l[j]? = some i) : trB (l.take (j + 1)) = trB (l.take j) ++ lnB i := by
  rw [List.take_add_one, h]; exact trB_snoc _ _
theorem catG_take {l : List Gor} {k : Nat} {g : Gor} (h : l[k]? = some g) : catG 0 (l.take (k + 1)) = catG 0 (l.take k) ++ gorB k g := by
  have hk := (List.getElem?_eq_some_iff.1 h).1
  rw [List.take_add_one, h]; have := catG_snoc 0 (l.take k) g
  rw [List.length_take, Nat.min_eq_left (by omega), Nat.zero_add] at this; exact this
def wt (l : List Gor) : Nat := (l.map fun g => 1 + g.trace.length).sum
theorem wt_take (l : List Gor) (k : Nat) : wt (l.take k) ≤ wt l := by
  unfold wt; have := sum_take (fun g : Gor => 1 + g.trace.length) l k
  omega
theorem wt_snoc (l : List Gor) (g : Gor) : wt (l ++ [g]) = wt l + (1 + g.trace.length) := by simp [wt]
theorem wt_at {l : List Gor} {k : Nat} {g : Gor} (h : l[k]? = some g) : wt (l.take k) + (1 + g.trace.length) ≤ wt l := by
  have h1 := wt_take l (k + 1)
  rw [List.take_add_one, h] at h1; have h2 := wt_snoc (l.take k) g
  simp only [Option.toList] at h1; omega
theorem wt_len : ∀ l : List Gor, l.length ≤ wt l
  | [] => by simp
  | g :: l => by have := wt_len l; simp only [wt, List.map_cons, List.sum_cons, List.length_cons] at this ⊢; omega
theorem wt_sz (e : Eng) : wt e.gs ≤ e.sz := by
  have h : ∀ l : List Gor, wt l ≤ szL Gor.sz l := fun l => by
    induction l with
    | nil => simp [wt, szL]
    | cons g l ih =>
      simp only [wt, szL, List.map_cons, List.sum_cons, List.length_cons] at ih ⊢; have : g.trace.length ≤ g.sz := by unfold Gor.sz; omega
      omega
  have := h e.gs
  unfold Eng.sz; omega
theorem lnB_size (i : Item) : (lnB i).size ≤ 34359738368 := by
  have := itT_size i
  simp only [lnB, ByteArray.size_append, bsz]; simp; omega
theorem stW_size (s : Nat) : (stW s).size ≤ 8 := by
  unfold stW
  cases h : statesB[s]? with
  | none => decide
  | some x =>
    have : ∀ y ∈ statesB, y.size ≤ 8 := by decide
    exact this x (List.mem_of_getElem? h)
theorem headB_size (k : Nat) (g : Gor) : (headB k g).size ≤ 34359738368 := by
  have h1 := numB_size k
  have h2 := stW_size (g.state - 1).toNat
  unfold headB
  generalize stW (g.state - 1).toNat = x at h2
  simp only [ByteArray.size_append, bsz]; simp; omega
theorem trB_size : ∀ l : List Item, (trB l).size ≤ l.length * 34359738368
  | [] => by show 0 ≤ _; omega
  | i :: l => by
    have h1 := lnB_size i
    have h2 := trB_size l
    simp only [trB, ByteArray.size_append, List.length_cons]; omega
theorem gorB_size (k : Nat) (g : Gor) : (gorB k g).size ≤ (1 + g.trace.length) * 34359738368 := by
  have h1 := headB_size k g
  have h2 := trB_size g.trace
  simp only [gorB, ByteArray.size_append]; omega
theorem catG_size : ∀ (n : Nat) (l : List Gor), (catG n l).size ≤ wt l * 34359738368
  | n, [] => by show 0 ≤ _; omega
  | n, g :: l => by
    have h1 := gorB_size n g
    have h2 := catG_size (n + 1) l
    have h3 : wt (g :: l) = (1 + g.trace.length) + wt l := by simp [wt]
    simp only [catG, ByteArray.size_append]; rw [h3, Nat.add_mul]; omega
theorem engT_no {e : Eng} {k : Nat} {g : Gor} (h : e.gs[k]? = some g) (hb : gOk g = false) : engT e = noB := if_neg (by
  intro e1; have := List.all_eq_true.1 e1 g (List.mem_of_getElem? h)
  rw [hb] at this; cases this)
theorem gOk_next {l : List Gor} {k : Nat} {g : Gor} (h : l[k]? = some g) (hx : (l.take k).all gOk = true) (hg : gOk g = true) : (l.take (k + 1)).all gOk = true := by
  rw [List.take_add_one, h]; simp [List.all_append, hx, hg]
theorem trOk_next {l : List Item} {k : Nat} {i : Item} (h : l[k]? = some i) (hx : trOk (l.take k) = true) (hg : ¬ itT i = noB) : trOk (l.take (k + 1)) = true := by
  unfold trOk at hx ⊢; rw [List.take_add_one, h, List.all_append, hx]; simp [hg]
theorem trOk_no {l : List Item} {k : Nat} {i : Item} (h : l[k]? = some i) (hg : itT i = noB) : trOk l = false := by
  cases e : trOk l with
  | false => rfl
  | true => have := List.all_eq_true.1 e i (List.mem_of_getElem? h); simp [hg] at this
theorem st_cases {g : Gor} (h1 : 1 ≤ g.state) (h4 : g.state ≤ 4) : ∃ s : Nat, (g.state - 1).toNat = s ∧ g.state - 1 = s ∧ s < 4 := ⟨(g.state - 1).toNat, rfl, by omega, by omega⟩
end HT
