/-
  My own text (road H): HK9.
-/
import Derived.Test.YtflanhfpjgcfbaaHK8
namespace HK
open Go

structure St where
  env : Env
  heap : Heap

abbrev Own (Ss : List (List Nat)) : Nat → Prop := fun b => b ∈ Ss.flatten

structure Fr (w0 : World) (B0 : List Nat) (w : World) : Prop where
  os : w.os = w0.os
  tape : w.tape = w0.tape
  output : w.output = w0.output
  size : w0.heap.size ≤ w.heap.size
  block : ∀ b, b < w0.heap.size → b ∉ B0 → w.heap[b]? = w0.heap[b]?
theorem Fr.refl (w : World) (B : List Nat) : Fr w B w := ⟨rfl, rfl, rfl, Nat.le_refl _, fun _ _ _ => rfl⟩
theorem Fr.trans {a b c : World} {B B' : List Nat} (h : Fr a B b) (k : Fr b B' c) (hB : ∀ x ∈ B', x ∈ B ∨ a.heap.size ≤ x) : Fr a B c :=
  ⟨k.os.trans h.os, k.tape.trans h.tape, k.output.trans h.output, Nat.le_trans h.size k.size, fun x h1 h2 =>
    (k.block x (Nat.lt_of_lt_of_le h1 h.size) (fun h3 => by rcases hB x h3 with h4 | h4 <;> first | exact h2 h4 | omega)).trans (h.block x h1 h2)⟩

/-- Of a function: how many temporaries; how many names there were when it was entered. -/
structure Sz where
  n : Nat
  b : Nat
/-- Of a call: the own blocks and the names with which it was entered. -/
structure Cx where
  l : List Nat
  φ : Refs
/-- The abstract state is the real one. -/
structure Rel (N : Sz) (w0 : World) (B0 : Cx) (φ : Refs) (Ss : List (List Nat)) (st : St) (a : Act) (w : World) : Prop where
  env : ∀ t, VR w (Own Ss) φ (lk st.env t) (a.tmps.getD t Go.undef) []
  heap : HR w (Own Ss) φ st.heap Ss
  len : Ss.length = st.heap.length
  fresh : ∀ id, st.heap.length ≤ id → φ id = none
  nodup : Ss.flatten.Nodup
  bound : ∀ b ∈ Ss.flatten, b < w.heap.size ∧ (b ∈ B0.l ∨ w0.heap.size ≤ b)
  fr : Fr w0 B0.l w
  size : a.tmps.size = N.n
  defers : a.defers = []
  cx : ∀ id, N.b ≤ id → B0.φ id = none
  keep : ∀ id r, B0.φ id = some r → φ id = some r

def putE (env : Env) (d : Option Tmp) (v : AV) : Env := match d with | some d => (d, v) :: env | none => env
def dOk (N : Sz) : Option Tmp → Bool
  | some d => decide (d < N.n)
  | none => true

section
variable {P : Program} {N : Sz} {w0 : World} {B0 : Cx} {φ : Refs} {Ss : List (List Nat)} {st : St} {a : Act} {w : World}

theorem Rel.put (h : Rel N w0 B0 φ Ss st a w) {d : Option Tmp} (hd : dOk N d = true) {v : AV} {x : Value} (hv : VR w (Own Ss) φ v x []) :
    Rel N w0 B0 φ Ss ⟨putE st.env d v, st.heap⟩ (a.put d x) w := by
  cases d with
  | none => exact h
  | some d =>
    simp only [dOk, decide_eq_true_eq] at hd
    refine ⟨fun t => ?_, h.heap, h.len, h.fresh, h.nodup, h.bound, h.fr, by simp [Act.put, h.size], h.defers, h.cx, h.keep⟩
    simp only [putE, lk, Act.put]
    by_cases e : t = d
    · subst e
      rw [if_pos rfl]
      have : (a.tmps.setIfInBounds t x).getD t Go.undef = x := by
        simp [Array.getD_eq_getD_getElem?, h.size, hd]
      rw [this]; exact hv
    · rw [if_neg e]
      have : (a.tmps.setIfInBounds d x).getD t Go.undef = a.tmps.getD t Go.undef := by
        simp [Array.getD_eq_getD_getElem?, Ne.symm e]
      rw [this]; exact h.env t

/-- A world that differs only where nothing that is known lies. -/
theorem Rel.drew (h : Rel N w0 B0 φ Ss st a w) (n : Nat) : Rel N w0 B0 φ Ss st a { w with drawn := n } := by
  have hb : ∀ b : Nat, ({ w with drawn := n } : World).heap[b]? = w.heap[b]? := fun _ => rfl
  refine ⟨fun t => (h.env t).tr (fun b _ ho => ⟨ho, hb b⟩) (Nat.le_refl _) (fun _ _ e => e) (fun b _ => hb b), fun id b hid => ?_, h.len, h.fresh, h.nodup, h.bound, ⟨h.fr.os, h.fr.tape, h.fr.output, h.fr.size, h.fr.block⟩, h.size, h.defers, h.cx, h.keep⟩
  obtain ⟨S, h1, h2⟩ := h.heap id b hid
  exact ⟨S, h1, h2.tr (fun b _ ho => ⟨ho, hb b⟩) (Nat.le_refl _) (fun _ _ e => e) (fun b _ => hb b)⟩

/-- One more place in the abstract heap, empty. -/
theorem Rel.slot (h : Rel N w0 B0 φ Ss st a w) : Rel N w0 B0 φ (Ss ++ [[]]) ⟨st.env, st.heap ++ [none]⟩ a w := by
  have e : (Ss ++ [[]]).flatten = Ss.flatten := by simp
  refine ⟨fun t => ?_, fun id b hid => ?_, by simp [h.len], fun id hid => h.fresh id (by simp at hid; omega), by rw [e]; exact h.nodup, by rw [e]; exact h.bound, h.fr, h.size, h.defers, h.cx, h.keep⟩
  · have := h.env t
    unfold Own at this ⊢; rw [e]; exact this
  · have hlt : id < st.heap.length := by
      rcases Nat.lt_or_ge id st.heap.length with h1 | h1
      · exact h1
      · rw [List.getElem?_append_right h1] at hid
        cases hk : id - st.heap.length with
        | zero => rw [hk] at hid; simp at hid
        | succ n => rw [hk] at hid; simp at hid
    rw [List.getElem?_append_left hlt] at hid
    obtain ⟨S, h1, h2⟩ := h.heap id b hid
    refine ⟨S, by rw [List.getElem?_append_left (by rw [h.len]; exact hlt)]; exact h1, ?_⟩
    unfold Own at h2 ⊢; rw [e]; exact h2

theorem flatten_set {α : Type} {l : List (List α)} {id : Nat} {S : List α} (h : l[id]? = some S) (S' : List α) : ∃ A B, l.flatten = A ++ (S ++ B) ∧ (l.set id S').flatten = A ++ (S' ++ B) := by
  have hlt : id < l.length := (List.getElem?_eq_some_iff.1 h).1
  have he : l[id] = S := (List.getElem?_eq_some_iff.1 h).2
  refine ⟨(l.take id).flatten, (l.drop (id + 1)).flatten, ?_, ?_⟩
  · have : l = l.take id ++ (S :: l.drop (id + 1)) := by
      rw [← he, List.getElem_cons_drop, List.take_append_drop]
    conv => lhs; rw [this]
    simp
  · rw [List.set_eq_take_append_cons_drop, if_pos hlt]; simp

def upd (φ : Refs) (id : Nat) (r : Option Ref) : Refs := fun k => if k = id then some r else φ k
theorem upd_old {φ : Refs} {id : Nat} (h : φ id = none) (r : Option Ref) : ∀ k x, φ k = some x → upd φ id r k = some x := by
  intro k x hk
  unfold upd
  split
  · rename_i e; subst e; rw [h] at hk; cases hk
  · exact hk

/-- A new real block, in an empty place. -/
theorem Rel.new (h : Rel N w0 B0 φ Ss st a w) {id : Nat} (hid : st.heap[id]? = some none) (hφ : φ id = none) (hS : Ss[id]? = some []) {w' : World} {c : Array Value} {T : TypeId}
    (hw : w'.heap = w.heap.push (.cells c T (0, 0))) (hos : w'.os = w.os) (htape : w'.tape = w.tape) (hout : w'.output = w.output) (b : Blk) (hu : ∀ e ∈ b.es, e.length = b.sz) (hl : b.es.length * b.sz ≤ c.size)
    {vs : List Value} (hvs : ∀ (n : Nat) (v : Value), vs[n]? = some v → c[n]? = some v) (hc : CR w (Own Ss) φ b.es.flatten vs []) :
    Rel N w0 B0 (upd φ id (some ⟨w.heap.size, 0, c.size, b.sz⟩)) (Ss.set id [w.heap.size]) ⟨st.env, st.heap.set id (some b)⟩ a w' := by
  obtain ⟨A, B, e1, e2⟩ := flatten_set hS [w.heap.size]
  simp only [List.nil_append] at e1
  have hold : ∀ b, b < w.heap.size → w'.heap[b]? = w.heap[b]? := fun b hb => by
    rw [hw, Array.getElem?_push, if_neg (by omega)]
  have hnew : w'.heap[w.heap.size]? = some (.cells c T (0, 0)) := by rw [hw]; simp
  have hsz : w.heap.size ≤ w'.heap.size := by rw [hw]; simp
  have hfz : ∀ b, b < w.heap.size → ¬ Own Ss b → ¬ Own (Ss.set id [w.heap.size]) b ∧ w'.heap[b]? = w.heap[b]? := fun b hb ho => by
    refine ⟨?_, hold b hb⟩
    unfold Own at ho ⊢
    rw [e1] at ho; rw [e2]
    simp at ho ⊢
    exact ⟨ho.1, by omega, ho.2⟩
  have hφ' := upd_old hφ (some ⟨w.heap.size, 0, c.size, b.sz⟩)
  have hin : ∀ b ∈ Ss.flatten, w'.heap[b]? = w.heap[b]? := fun b hb => hold b (h.bound b hb).1
  refine ⟨fun t => (h.env t).tr hfz hsz hφ' (fun b hb => by cases hb), fun k b' hk => ?_, by simp [h.len], fun k hk => ?_, ?_, ?_, ?_, h.size, h.defers, h.cx, fun i r e => hφ' _ _ (h.keep i r e)⟩
  · by_cases e : k = id
    · subst e
      have hlt : k < st.heap.length := (List.getElem?_eq_some_iff.1 hid).1
      have hb' : b' = b := by simp [hlt] at hk; exact hk.symm
      subst hb'
      have hlt2 : k < Ss.length := by rw [h.len]; exact hlt
      refine ⟨[w.heap.size], by simp [hlt2], .inr ⟨_, vs, [], by unfold upd; rw [if_pos rfl], rfl, ⟨c, T, hnew, rfl⟩, hu, by simpa using hl, ?_, ?_, rfl⟩⟩
      · intro n v hv
        rw [add_row]
        simp only [World.cell?, hnew, Nat.zero_add]
        simpa using hvs n v hv
      · exact hc.tr hfz hsz hφ' (fun b hb => by cases hb)
    · rw [List.getElem?_set_ne (Ne.symm e)] at hk
      obtain ⟨S, h1, h2⟩ := h.heap k b' hk
      refine ⟨S, by rw [List.getElem?_set_ne (Ne.symm e)]; exact h1, h2.tr hfz hsz hφ' (fun b hb => hin b ?_)⟩
      exact List.mem_flatten.2 ⟨S, List.mem_of_getElem? h1, hb⟩
  · have hlt : id < st.heap.length := (List.getElem?_eq_some_iff.1 hid).1
    simp only [List.length_set] at hk
    unfold upd; rw [if_neg (by omega)]; exact h.fresh k hk
  · have hn := h.nodup
    have hb := h.bound
    rw [e1] at hn hb
    rw [e2]
    have h1 : w.heap.size ∉ A ++ B := fun hm => by have := (hb _ hm).1; omega
    rw [List.nodup_append] at hn ⊢
    simp at h1
    refine ⟨hn.1, ?_, ?_⟩
    · simp [h1.2, hn.2.1]
    · intro x hx y hy
      simp at hy
      rcases hy with rfl | hy
      · intro e; subst e; exact h1.1 hx
      · exact hn.2.2 x hx y hy
  · intro b hb
    rw [e2] at hb
    have hb1 := h.bound
    rw [e1] at hb1
    simp at hb
    have hf := h.fr.size
    rcases hb with hb | rfl | hb
    · have := hb1 b (by simp [hb]); exact ⟨by omega, this.2⟩
    · refine ⟨by rw [hw]; simp, .inr hf⟩
    · have := hb1 b (by simp [hb]); exact ⟨by omega, this.2⟩
  · exact h.fr.trans (B' := []) ⟨hos, htape, hout, hsz, fun b hb _ => hold b hb⟩ (fun x hx => by cases hx)
end
end HK
