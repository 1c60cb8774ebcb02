import Derived.Test.YtohfnikklggjjaaGreatHK35
/-
  My own texts (road H): HV0.
-/
namespace HT
open Go HK
def into (n : Int) : List Int → List Int
  | [] => [n]
  | x :: r => if n ≤ x then (if n = x then x :: r else n :: x :: r) else x :: into n r
def cmpt : List Int → List Int
  | [] => []
  | [x] => [x]
  | x :: y :: r => if x = y then cmpt (y :: r) else x :: cmpt (y :: r)
def rising (l : List Int) : List Int := cmpt (l.mergeSort fun x y => decide (x ≤ y))
def Up (l : List Int) : Prop := l.Pairwise (· < ·)
theorem up_cons {x : Int} {l : List Int} : Up (x :: l) ↔ (∀ y ∈ l, x < y) ∧ Up l := List.pairwise_cons
theorem up_nil : Up [] := List.Pairwise.nil
theorem up_one (x : Int) : Up [x] := up_cons.2 ⟨fun y hy => absurd hy (by simp), up_nil⟩
theorem mem_into {n x : Int} : ∀ {l : List Int}, x ∈ into n l ↔ x = n ∨ x ∈ l
  | [] => by simp [into]
  | y :: r => by
    unfold into; split
    · split
      · rename_i h; subst h; simp
      · simp
    · simp only [List.mem_cons, mem_into (l := r)]
      constructor <;> (intro h; rcases h with h | h | h <;> simp [h])
theorem up_into {n : Int} : ∀ {l : List Int}, Up l → Up (into n l)
  | [], _ => up_one n
  | y :: r, h => by
    have h' := up_cons.1 h
    unfold into; split
    · rename_i hle
      split
      · exact h
      · rename_i hne
        refine up_cons.2 ⟨fun x hx => ?_, h⟩; rcases List.mem_cons.1 hx with rfl | hx
        · omega
        · have := h'.1 x hx; omega
    · rename_i hle
      refine up_cons.2 ⟨fun x hx => ?_, up_into h'.2⟩; rcases mem_into.1 hx with rfl | hx
      · omega
      · exact h'.1 x hx
theorem mem_cmpt {x : Int} : ∀ {l : List Int}, x ∈ cmpt l ↔ x ∈ l
  | [] => by simp [cmpt]
  | [y] => by simp [cmpt]
  | y :: z :: r => by
    unfold cmpt; split
    · rename_i h; subst h
      rw [mem_cmpt (l := y :: r)]; simp
    · rw [List.mem_cons, mem_cmpt (l := z :: r)]; simp
theorem up_cmpt : ∀ {l : List Int}, l.Pairwise (· ≤ ·) → Up (cmpt l)
  | [], _ => up_nil
  | [y], _ => up_one y
  | y :: z :: r, h => by
    rw [List.pairwise_cons] at h; unfold cmpt; split
    · exact up_cmpt h.2
    · rename_i hne
      refine up_cons.2 ⟨fun x hx => ?_, up_cmpt h.2⟩; have h1 := h.1 z (by simp)
      rcases List.mem_cons.1 (mem_cmpt.1 hx) with rfl | hx
      · omega
      · have h2 := (List.pairwise_cons.1 h.2).1 x hx
        omega
theorem up_eq : ∀ {l m : List Int}, Up l → Up m → (∀ x, x ∈ l ↔ x ∈ m) → l = m
  | [], [], _, _, _ => rfl
  | [], y :: m, _, _, h => absurd ((h y).2 (by simp)) (by simp)
  | x :: l, [], _, _, h => absurd ((h x).1 (by simp)) (by simp)
  | x :: l, y :: m, hl, hm, h => by
    replace hl := up_cons.1 hl
    replace hm := up_cons.1 hm
    have e : x = y := by
      rcases List.mem_cons.1 ((h x).1 (by simp)) with h1 | h1
      · exact h1
      · rcases List.mem_cons.1 ((h y).2 (by simp)) with h2 | h2
        · exact h2.symm
        · have := hm.1 x h1; have := hl.1 y h2; omega
    subst e
    congr 1
    refine up_eq hl.2 hm.2 fun z => ⟨fun hz => ?_, fun hz => ?_⟩
    · rcases List.mem_cons.1 ((h z).1 (List.mem_cons_of_mem _ hz)) with h1 | h1
      · have := hl.1 z hz; omega
      · exact h1
    · rcases List.mem_cons.1 ((h z).2 (List.mem_cons_of_mem _ hz)) with h1 | h1
      · have := hm.1 z hz; omega
      · exact h1
theorem le_sorted (l : List Int) : (l.mergeSort fun x y => decide (x ≤ y)).Pairwise (· ≤ ·) := by
  have := List.pairwise_mergeSort (le := fun x y : Int => decide (x ≤ y)) (fun a b c h1 h2 => by simp at *; omega) (fun a b => by simp; omega) l
  exact this.imp fun h => by simpa using h
theorem mem_rising {x : Int} {l : List Int} : x ∈ rising l ↔ x ∈ l := by
  unfold rising; rw [mem_cmpt, List.mem_mergeSort]
theorem up_rising (l : List Int) : Up (rising l) := up_cmpt (le_sorted l)
theorem cmpt_len : ∀ (l : List Int), (cmpt l).length ≤ l.length
  | [] => by simp [cmpt]
  | [y] => by simp [cmpt]
  | y :: z :: r => by
    have := cmpt_len (z :: r)
    unfold cmpt; split
    · simp at *; omega
    · simp at *; omega
theorem rising_len (l : List Int) : (rising l).length ≤ l.length := by
  have := cmpt_len (l.mergeSort fun x y => decide (x ≤ y))
  rwa [List.length_mergeSort] at this
def intoAll (o : List Int) (l : List Int) : List Int := l.foldl (fun o c => into c o) o
theorem mem_intoAll {x : Int} : ∀ {l o : List Int}, x ∈ intoAll o l ↔ x ∈ o ∨ x ∈ l
  | [], o => by simp [intoAll]
  | c :: l, o => by
    have h := mem_intoAll (x := x) (l := l) (o := into c o)
    rw [mem_into] at h
    show x ∈ intoAll (into c o) l ↔ _
    rw [h, List.mem_cons, or_comm (a := x = c), or_assoc]
theorem up_intoAll : ∀ {l o : List Int}, Up o → Up (intoAll o l)
  | [], _, h => h
  | c :: l, _, h => up_intoAll (l := l) (up_into (n := c) h)
end HT
