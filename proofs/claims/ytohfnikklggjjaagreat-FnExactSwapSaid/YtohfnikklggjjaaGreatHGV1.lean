import Derived.Test.YtohfnikklggjjaaGreatHV0
import Derived.Test.YtohfnikklggjjaaGreatG10
/-
  My own texts (road H): HGV1.
-/
set_option linter.unusedVariables false
namespace HT
open Go HK
def chans (l : List Case) : List Int := (l.filter fun x => decide (0 ≤ x.chan)).map (·.chan)
def hereC (ch : Int) (l : List Case) : Bool := l.any fun x => decide (x.chan = ch)
def kinA (l : List Select) (ch : Int) : List Int := ch :: l.flatMap fun s => if ch ∈ chans s.cases then chans s.cases else []
def inCh (p : Prog) (ch : Int) : Bool := decide (0 ≤ ch) && decide (ch < (p.caps.length : Int))
def kin (p : Prog) (ch : Int) : List Int := if inCh p ch then rising (kinA p.sels ch) else []
def csStep (here : Bool) (o : List Int) (x : Case) : List Int := if here && decide (0 ≤ x.chan) then into x.chan o else o
def kinStep (ch : Int) (o : List Int) (s : Select) : List Int := s.cases.foldl (csStep (hereC ch s.cases)) o
theorem foldl_step {α β : Type} {f : β → α → β} {o : β} {l : List α} {k : Nat} {x : α} (h : l[k]? = some x) : (l.take (k + 1)).foldl f o = f ((l.take k).foldl f o) x := by
  rw [List.take_add_one, h, List.foldl_append]; rfl
theorem any_step {α : Type} {f : α → Bool} {l : List α} {k : Nat} {x : α} (h : l[k]? = some x) : (l.take (k + 1)).any f = ((l.take k).any f || f x) := by
  rw [List.take_add_one, h, List.any_append]; simp
theorem chans_step {l : List Case} {k : Nat} {x : Case} (h : l[k]? = some x) : chans (l.take (k + 1)) = if 0 ≤ x.chan then chans (l.take k) ++ [x.chan] else chans (l.take k) := by
  rw [List.take_add_one, h]; unfold chans; rw [List.filter_append, List.map_append]; by_cases hc : 0 ≤ x.chan <;> simp [hc]
theorem kinA_step {l : List Select} {ch : Int} {k : Nat} {s : Select} (h : l[k]? = some s) : kinA (l.take (k + 1)) ch = kinA (l.take k) ch ++ (if ch ∈ chans s.cases then chans s.cases else []) := by
  rw [List.take_add_one, h]; simp [kinA, List.flatMap_append]
theorem chans_len (l : List Case) : (chans l).length ≤ l.length := by
  unfold chans; rw [List.length_map]; exact List.length_filter_le _ _
theorem mem_chans {x : Int} {l : List Case} : x ∈ chans l ↔ 0 ≤ x ∧ ∃ c ∈ l, c.chan = x := by
  simp only [chans, List.mem_map, List.mem_filter, decide_eq_true_eq]; constructor
  · rintro ⟨c, ⟨h1, h2⟩, rfl⟩; exact ⟨h2, c, h1, rfl⟩
  · rintro ⟨h1, c, h2, rfl⟩; exact ⟨c, ⟨h2, h1⟩, rfl⟩
theorem here_iff {ch : Int} {l : List Case} (h : 0 ≤ ch) : hereC ch l = true ↔ ch ∈ chans l := by
  rw [mem_chans]; simp [hereC, h]
theorem cs_fold {here : Bool} : ∀ {l : List Case} {o : List Int}, l.foldl (csStep here) o = if here then intoAll o (chans l) else o
  | [], o => by cases here <;> rfl
  | c :: l, o => by
    rw [List.foldl_cons, cs_fold (l := l)]
    cases here with
    | false => simp [csStep]
    | true =>
      by_cases hc : 0 ≤ c.chan
      · simp [csStep, hc, chans, intoAll]
      · simp [csStep, hc, chans]
theorem kinStep_eq (ch : Int) (o : List Int) (s : Select) : kinStep ch o s = if hereC ch s.cases then intoAll o (chans s.cases) else o := cs_fold
theorem kinS_up {ch : Int} : ∀ {l : List Select} {o : List Int}, Up o → Up (l.foldl (kinStep ch) o)
  | [], _, h => h
  | s :: l, o, h => by
    rw [List.foldl_cons]; refine kinS_up ?_; rw [kinStep_eq]; split
    · exact up_intoAll h
    · exact h
theorem kinS_mem {ch x : Int} : ∀ {l : List Select} {o : List Int}, x ∈ l.foldl (kinStep ch) o ↔ x ∈ o ∨ ∃ s ∈ l, hereC ch s.cases = true ∧ x ∈ chans s.cases
  | [], o => by simp
  | s :: l, o => by
    rw [List.foldl_cons, kinS_mem (l := l), kinStep_eq]; split
    · rename_i h
      rw [mem_intoAll]; simp [h, or_assoc]
    · rename_i h
      simp [h]
theorem kinS_eq {l : List Select} {ch : Int} (h : 0 ≤ ch) : l.foldl (kinStep ch) [ch] = rising (kinA l ch) := by
  refine up_eq (kinS_up (up_one ch)) (up_rising _) fun x => ?_; rw [kinS_mem, mem_rising]; simp only [kinA, List.mem_cons, List.not_mem_nil, or_false, List.mem_flatMap]; refine or_congr Iff.rfl ⟨?_, ?_⟩
  · rintro ⟨s, h1, h2, h3⟩
    exact ⟨s, h1, by rw [if_pos ((here_iff h).1 h2)]; exact h3⟩
  · rintro ⟨s, h1, h2⟩
    split at h2
    · rename_i h3
      exact ⟨s, h1, (here_iff h).2 h3, h2⟩
    · cases h2
def objA (p : Prog) (l : List Case) : List Int := l.flatMap fun x => kin p x.chan
def objStep (p : Prog) (o : List Int) (x : Case) : List Int := intoAll o (kin p x.chan)
theorem objA_step {p : Prog} {l : List Case} {k : Nat} {x : Case} (h : l[k]? = some x) : objA p (l.take (k + 1)) = objA p (l.take k) ++ kin p x.chan := by
  rw [List.take_add_one, h]; simp [objA, List.flatMap_append]
theorem objS_up {p : Prog} : ∀ {l : List Case} {o : List Int}, Up o → Up (l.foldl (objStep p) o)
  | [], _, h => h
  | x :: l, o, h => by
    rw [List.foldl_cons]; exact objS_up (up_intoAll h)
theorem objS_mem {p : Prog} {x : Int} : ∀ {l : List Case} {o : List Int}, x ∈ l.foldl (objStep p) o ↔ x ∈ o ∨ ∃ c ∈ l, x ∈ kin p c.chan
  | [], o => by simp
  | c :: l, o => by
    rw [List.foldl_cons, objS_mem (l := l), objStep, mem_intoAll]; simp [or_assoc]
theorem objS_eq {p : Prog} {l : List Case} : l.foldl (objStep p) [] = rising (objA p l) := by
  refine up_eq (objS_up up_nil) (up_rising _) fun x => ?_; rw [objS_mem, mem_rising]; simp [objA]
def objects (p : Prog) (d : Deed) : List Int :=
  if d.op = 8 ∨ d.op = 9 ∨ d.op = 10 then kin p d.obj
  else if d.op = 11 then (match p.sels[d.obj.toNat]? with | some s => rising (objA p s.cases) | none => [])
  else if d.op = 12 ∨ d.op = 13 then [100 + d.obj]
  else if d.op = 14 then [200] else [201]
def meets (l m : List Int) : Bool := l.any fun x => decide (x ∈ m)
def meet (p : Prog) (a b : Deed) : Bool := evOk p a && evOk p b && (decide (a.g = b.g) || meets (objects p a) (objects p b))
end HT
