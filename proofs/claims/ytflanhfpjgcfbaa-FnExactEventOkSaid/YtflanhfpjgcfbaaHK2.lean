/-
  My own text (road H): HK2.
-/
import Derived.Test.YtflanhfpjgcfbaaHK1
namespace HK
open Go

/-! ### lists of cells -/
theorem CR.app {w : World} {own : Nat → Prop} {φ : Refs} : ∀ {as bs : List AV} {vs us : List Value} {S T : List Nat}, CR w own φ as vs S → CR w own φ bs us T → CR w own φ (as ++ bs) (vs ++ us) (S ++ T)
  | _, _, _, _, _, _, .nil, k => k
  | _, _, _, _, _, _, .cons a v S as vs T h h', k => by
    rw [List.append_assoc]; exact .cons a v S _ _ _ h (CR.app h' k)
theorem CR.split {w : World} {own : Nat → Prop} {φ : Refs} : ∀ {as bs : List AV} {vs : List Value} {S : List Nat}, CR w own φ (as ++ bs) vs S →
    ∃ v1 v2 S1 S2, vs = v1 ++ v2 ∧ S = S1 ++ S2 ∧ CR w own φ as v1 S1 ∧ CR w own φ bs v2 S2
  | [], _, vs, S, h => ⟨[], vs, [], S, rfl, rfl, .nil, h⟩
  | a :: as, bs, _, _, .cons _ v S _ vs T h h' => by
    obtain ⟨v1, v2, S1, S2, rfl, rfl, h1, h2⟩ := CR.split (as := as) h'
    exact ⟨v :: v1, v2, S ++ S1, S2, rfl, by rw [List.append_assoc], .cons _ _ _ _ _ _ h h1, h2⟩
theorem CR.length {w : World} {own : Nat → Prop} {φ : Refs} : ∀ {as : List AV} {vs : List Value} {S : List Nat}, CR w own φ as vs S → as.length = vs.length
  | _, _, _, .nil => rfl
  | _, _, _, .cons _ _ _ _ _ _ _ h' => congrArg (· + 1) (CR.length h')
theorem CR.one {w : World} {own : Nat → Prop} {φ : Refs} {a : AV} {v : Value} {S : List Nat} (h : VR w own φ a v S) : CR w own φ [a] [v] S := by
  have := CR.cons a v S [] [] [] h .nil
  rwa [List.append_nil] at this
theorem CR.head {w : World} {own : Nat → Prop} {φ : Refs} {a : AV} {vs : List Value} {S : List Nat} (h : CR w own φ [a] vs S) : ∃ v, vs = [v] ∧ VR w own φ a v S := by
  cases h with
  | cons _ v S _ _ T h h' => cases h'; exact ⟨v, rfl, by rwa [List.append_nil]⟩
theorem CR.uncons {w : World} {own : Nat → Prop} {φ : Refs} {a : AV} {as : List AV} {vs : List Value} {S : List Nat} (h : CR w own φ (a :: as) vs S) :
    ∃ v us S1 S2, vs = v :: us ∧ S = S1 ++ S2 ∧ VR w own φ a v S1 ∧ CR w own φ as us S2 := by
  cases h with
  | cons _ v S _ us T h h' => exact ⟨v, us, S, T, rfl, rfl, h, h'⟩
theorem CR.get {w : World} {own : Nat → Prop} {φ : Refs} {a : AV} : ∀ {as : List AV} {vs : List Value} {S : List Nat} {k : Nat}, CR w own φ as vs S → as[k]? = some a → ∃ v S', vs[k]? = some v ∧ VR w own φ a v S' ∧ ∀ b ∈ S', b ∈ S
  | _, _, _, _, .nil, h => by simp at h
  | _, _, _, 0, .cons _ v S _ _ T h _, e => by
    simp at e; subst e; exact ⟨v, S, rfl, h, fun b hb => List.mem_append_left _ hb⟩
  | _, _, _, k + 1, .cons _ v S _ vs T h h', e => by
    obtain ⟨v, S', h1, h2, h3⟩ := CR.get (k := k) h' (by simpa using e)
    exact ⟨v, S', by simpa using h1, h2, fun b hb => List.mem_append_right _ (h3 b hb)⟩

/-! ### uniform rows -/
theorem flat_length {sz : Nat} : ∀ {es : List (List AV)}, (∀ e ∈ es, e.length = sz) → es.flatten.length = es.length * sz
  | [], _ => by simp
  | e :: es, h => by
    have := flat_length (es := es) fun x hx => h x (List.mem_cons_of_mem _ hx)
    simp only [List.flatten_cons, List.length_append, this, h e (List.mem_cons_self ..), List.length_cons]
    rw [Nat.add_mul]; omega
theorem flat_split {sz : Nat} {es : List (List AV)} (hu : ∀ e ∈ es, e.length = sz) {i : Nat} (hi : i < es.length) :
    es.flatten = (es.take i).flatten ++ (es.getD i [] ++ (es.drop (i + 1)).flatten) ∧ (es.take i).flatten.length = i * sz ∧ (es.getD i []).length = sz := by
  refine ⟨?_, ?_, ?_⟩
  · rw [← List.flatten_cons, ← List.flatten_append]
    congr 1
    rw [List.getD_eq_getElem?_getD, List.getElem?_eq_getElem hi, Option.getD_some, List.getElem_cons_drop, List.take_append_drop]
  · rw [flat_length (sz := sz) fun e he => hu e (List.mem_of_mem_take he), List.length_take, Nat.min_eq_left (by omega)]
  · rw [List.getD_eq_getElem?_getD, List.getElem?_eq_getElem hi, Option.getD_some]; exact hu _ (List.getElem_mem hi)
theorem flat_set {es : List (List AV)} {i : Nat} (hi : i < es.length) (e : List AV) :
    (es.set i e).flatten = (es.take i).flatten ++ (e ++ (es.drop (i + 1)).flatten) := by
  rw [← List.flatten_cons, ← List.flatten_append]
  congr 1
  rw [List.set_eq_take_append_cons_drop, if_pos hi]
/-- Cells j.. of element i. -/
theorem flat_cells {sz : Nat} {es : List (List AV)} (hu : ∀ e ∈ es, e.length = sz) {i j m : Nat} (hi : i < es.length) (hj : j + m ≤ sz) :
    es.flatten = ((es.take i).flatten ++ (es.getD i []).take j) ++ ((((es.getD i []).drop j).take m) ++ (((es.getD i []).drop (j + m)) ++ (es.drop (i + 1)).flatten)) ∧
      ((es.take i).flatten ++ (es.getD i []).take j).length = i * sz + j ∧ (((es.getD i []).drop j).take m).length = m := by
  obtain ⟨h1, h2, h3⟩ := flat_split hu hi
  refine ⟨?_, ?_, ?_⟩
  · rw [h1]
    simp only [List.append_assoc]
    congr 1
    rw [← List.append_assoc, ← List.append_assoc]
    congr 1
    rw [List.append_assoc]
    conv => lhs; rw [← List.take_append_drop j (es.getD i [])]
    congr 1
    conv => lhs; rw [← List.take_append_drop m ((es.getD i []).drop j)]
    rw [List.drop_drop]
  · rw [List.length_append, h2, List.length_take, h3, Nat.min_eq_left (by omega)]
  · rw [List.length_take, List.length_drop, h3, Nat.min_eq_left (by omega)]
/-- m cells from j on are written. -/
def splice (l : List AV) (j : Nat) (xs : List AV) : List AV := l.take j ++ (xs ++ l.drop (j + xs.length))
theorem flat_splice {es : List (List AV)} {i j : Nat} (hi : i < es.length) (xs : List AV) :
    (es.set i (splice (es.getD i []) j xs)).flatten = ((es.take i).flatten ++ (es.getD i []).take j) ++ (xs ++ (((es.getD i []).drop (j + xs.length)) ++ (es.drop (i + 1)).flatten)) := by
  rw [flat_set hi]; simp [splice, List.append_assoc]
theorem splice_length {l : List AV} {j : Nat} {xs : List AV} (h : j + xs.length ≤ l.length) : (splice l j xs).length = l.length := by
  simp [splice]; omega

/-! ### the abstract heap -/
structure Blk where
  sz : Nat
  es : List (List AV)
abbrev Heap := List (Option Blk)

def BR (w : World) (own : Nat → Prop) (φ : Refs) (id : Nat) (b : Blk) (S : List Nat) : Prop :=
  (φ id = some none ∧ b.es = [] ∧ S = []) ∨
  ∃ r vs T, φ id = some (some r) ∧ r.sz = b.sz ∧ RowAt w r.rb r.lim ∧ (∀ e ∈ b.es, e.length = b.sz) ∧ r.base + b.es.length * b.sz ≤ r.lim ∧
    Seg w ⟨r.rb, r.base, none⟩ vs ∧ CR w own φ b.es.flatten vs T ∧ S = r.rb :: T
def HR (w : World) (own : Nat → Prop) (φ : Refs) (h : Heap) (Ss : List (List Nat)) : Prop :=
  ∀ id b, h[id]? = some (some b) → ∃ S, Ss[id]? = some S ∧ BR w own φ id b S

theorem BR.tr {w w' : World} {own own' : Nat → Prop} {φ φ' : Refs} {id : Nat} {b : Blk} {S : List Nat}
    (hfz : ∀ b, b < w.heap.size → ¬ own b → ¬ own' b ∧ w'.heap[b]? = w.heap[b]?) (hsz : w.heap.size ≤ w'.heap.size) (hφ : ∀ id r, φ id = some r → φ' id = some r)
    (h : BR w own φ id b S) (hS : ∀ b ∈ S, w'.heap[b]? = w.heap[b]?) : BR w' own' φ' id b S := by
  rcases h with ⟨h1, h2, h3⟩ | ⟨r, vs, T, h1, h2, h3, h4, h5, h6, h7, rfl⟩
  · exact .inl ⟨hφ _ _ h1, h2, h3⟩
  · exact .inr ⟨r, vs, T, hφ _ _ h1, h2, h3.of (hS _ (List.mem_cons_self ..)), h4, h5, h6.of (hS _ (List.mem_cons_self ..)),
      CR.tr hfz hsz hφ h7 (fun b hb => hS b (List.mem_cons_of_mem _ hb)), rfl⟩
end HK
