/-
  My own text (road H): HK14.
-/
import Derived.Test.YtflanhfpjgcfbaaHK13
namespace HK
open Go

section
variable {P : Program} {N : Sz} {w0 : World} {B0 : Cx} {φ : Refs} {Ss : List (List Nat)} {st : St} {a : Act} {w : World}

theorem growBy_le (n : Nat) : ∀ (r c : Nat), Builtin.growBy n r c ≤ max c (n + (n + 768) / 4)
  | 0, c => by simp [Builtin.growBy]; omega
  | r + 1, c => by
    simp only [Builtin.growBy]
    split
    · omega
    · rename_i h
      have := growBy_le n r (c + (c + 768) / 4)
      omega
theorem nextcap_le {n c : Nat} (h : c < n) : Builtin.nextslicecap n c ≤ 3 * n + 2000 := by
  unfold Builtin.nextslicecap
  split
  · omega
  · split
    · omega
    · have := growBy_le n 4 c
      omega

def elemsOf (h : Heap) (sz : Nat) : AV → Option (List (List AV))
  | .nil => some []
  | .fz es => some es
  | .sl id off len => match hb h id with
    | some b => if b.sz = sz ∧ off + len ≤ b.es.length then some ((b.es.drop off).take len) else none
    | none => none
  | _ => none
def evApp (P : Program) (h : Heap) (t xt : TypeId) (sa xa : AV) : Prop × Heap × AV :=
  match tzeroE P t, tel P xt with
  | some (sz, bytes, _), some _ => match elemsOf h sz (st1 xa) with
    | some xs => match st1 sa with
      | .nil => (gk sa ∧ gk xa ∧ (∀ e ∈ xs, e.length = sz) ∧ xs.flatten.all ocp = true ∧ (3 * xs.length + 2000) * (bytes + 1) ≤ 281474976710656, h ++ [some ⟨sz, xs⟩], .sl h.length 0 xs.length)
      | .sl id off len => match hb h id with
        | some b => (gk sa ∧ gk xa ∧ b.sz = sz ∧ off + len ≤ b.es.length ∧ (∀ e ∈ xs, e.length = sz) ∧ xs.flatten.all ocp = true ∧ (3 * (len + xs.length) + 2000) * (bytes + 1) ≤ 281474976710656,
          h.set id none ++ [some ⟨sz, (b.es.drop off).take len ++ xs⟩], .sl h.length 0 (len + xs.length))
        | none => (False, h, .undef)
      | _ => (False, h, .undef)
    | none => (False, h, .undef)
  | _, _ => (False, h, .undef)

theorem es_part {es : List (List AV)} {sz off len : Nat} (hu : ∀ e ∈ es, e.length = sz) (h : off + len ≤ es.length) :
    es.flatten = (es.take off).flatten ++ (((es.drop off).take len).flatten ++ ((es.drop off).drop len).flatten) ∧ (es.take off).flatten.length = off * sz ∧ ((es.drop off).take len).flatten.length = len * sz ∧ ((es.drop off).take len).length = len := by
  have hlen : ((es.drop off).take len).length = len := by simp; omega
  refine ⟨?_, ?_, ?_, hlen⟩
  · rw [← List.flatten_append, ← List.flatten_append, List.take_append_drop, List.take_append_drop]
  · rw [flat_length (sz := sz) fun e he => hu e (List.mem_of_mem_take he), List.length_take, Nat.min_eq_left (by omega)]
  · rw [flat_length (sz := sz) fun e he => hu e (List.mem_of_mem_drop (List.mem_of_mem_take he)), hlen]

theorem seg_mid {A : Addr} {v1 v2 v3 : List Value} (h : Seg w A (v1 ++ (v2 ++ v3))) : Seg w (A.add v1.length) v2 := h.split

theorem run_first {P : Program} {A : Option Addr} {n c sz : Nat} {us : List Value} (hl : us.length = n * sz) (hs : ∀ B, A = some B → Seg w B us) (hA : A = none → us = []) : (Builtin.firstCells sz n (.slice A n c)).run P w = .ok us.toArray w := by
  cases A with
  | none => rw [hA rfl]; simp [Builtin.firstCells]
  | some B =>
    simp only [Builtin.firstCells]
    rw [← hl]; exact run_loadCells_list w B us (hs B rfl)

/-- The real cells of the elements of a slice. -/
theorem elems_sound {own : Nat → Prop} (hh : HR w own φ st.heap Ss) {v : AV} {x : Value} (hv : VR w own φ v x []) {sz : Nat} {xs : List (List AV)} (e : elemsOf st.heap sz v = some xs) (hx : ∀ e ∈ xs, e.length = sz) :
    ∃ A c us S, x = .slice A xs.length c ∧ us.length = xs.length * sz ∧ (∀ B, A = some B → Seg w B us) ∧ (A = none → us = []) ∧ CR w own φ xs.flatten us S := by
  cases hv with
  | nil A => simp [elemsOf] at e; subst e; exact ⟨A, 0, [], [], rfl, by simp, (fun B _ n v h => by simp at h), (fun _ => rfl), .nil⟩
  | fz0 A cap => simp [elemsOf] at e; subst e; exact ⟨A, cap, [], [], rfl, by simp, (fun B _ n v h => by simp at h), (fun _ => rfl), .nil⟩
  | fz es sz' A cap vs hlt ho hu hcap hs hc =>
    simp [elemsOf] at e; subst e
    refine ⟨some A, cap, vs, [], rfl, ?_, (fun B hB => by cases hB; exact hs), (fun h => by cases h), hc.up⟩
    rw [← hc.length, flat_length hx]
  | sl0 id off r A hr =>
    simp only [elemsOf] at e
    cases hb' : hb st.heap id with
    | none => simp [hb'] at e
    | some b =>
      simp [hb'] at e
      obtain ⟨_, rfl⟩ := e
      exact ⟨A, 0, [], [], rfl, by simp, (fun B _ n v h => by simp at h), (fun _ => rfl), .nil⟩
  | sl id off len cap r hr hcap hlim =>
    simp only [elemsOf] at e
    cases hb' : hb st.heap id with
    | none => simp [hb'] at e
    | some b =>
      simp only [hb'] at e
      split at e
      · rename_i hsz
        cases e
        obtain ⟨hsz, hl⟩ := hsz
        obtain ⟨S, hS, hB⟩ := hh id b (hb_spec hb')
        rcases hB with ⟨h1, _, _⟩ | ⟨r', vs, T, h1, h2, _, h4, h5, h6, h7, rfl⟩
        · rw [hr] at h1; cases h1
        · rw [hr] at h1; cases h1
          obtain ⟨f1, f2, f3, f4⟩ := es_part h4 hl
          rw [f1] at h7
          obtain ⟨v1, v2', S1, S2', rfl, rfl, c1, c2⟩ := h7.split
          obtain ⟨v2, v3, S2, S3, rfl, rfl, c2, c3⟩ := c2.split
          refine ⟨_, cap, v2, S2, by rw [f4], by rw [← c2.length, f3, f4, hsz], (fun B hB => ?_), (fun h => by cases h), c2⟩
          cases hB
          have := seg_mid h6
          rw [add_row, ← c1.length, f2] at this
          rw [h2]; exact this
      · cases e
  | _ => simp [elemsOf] at e

def putAt (base : Option Addr) (n : Nat) (us : List Value) : Sem Unit := match base with | some a => storeCells (a.add n) us | none => pure ()
section run
variable {t xt ty e : TypeId} {i : TypeInfo} {zv x : Value} {n m cap c : Nat} {base A : Option Addr} {us : List Value}
theorem run_app_in (hu : P.underlying t = some (.slice e)) (hi : P.info? e = some i) {e2 : TypeId} (hx : P.underlying xt = some (.slice e2)) (hrun : (Builtin.firstCells i.size m (.slice A m c)).run P w = .ok us.toArray w) (hle : n + m ≤ cap) :
    (Builtin.append_ #[t, xt] ty #[.slice base n cap, .slice A m c]).run P w =
      ((putAt base (n * i.size) us).run P w).andThen fun _ w' => .ok (.slice base (n + m) cap) w' := by
  unfold Builtin.append_
  simp only [List.getElem?_toArray, List.getElem?_cons_zero, List.getElem?_cons_succ, Sem.run_bind, run_underlying hu, run_sizeI hi, run_underlying hx, Result.andThen_ok, Sem.run_pure, Builtin.lenOf, Bool.false_eq_true, if_false, Bool.not_false, if_true]
  rw [if_pos hle]
  simp only [Sem.run_bind, hrun, Result.andThen_ok]
  cases base <;> simp [putAt]
theorem run_app_grow (hu : P.underlying t = some (.slice e)) (hi : P.info? e = some i) (hz : i.zero = some zv) (hzs : zv.cells.size = i.size) {e2 : TypeId} (hx : P.underlying xt = some (.slice e2)) {os : List Value}
    (hold : ∀ d, (Builtin.firstCells i.size n (.slice base n cap)).run P { w with drawn := d } = .ok os.toArray { w with drawn := d }) (hnew : ∀ d, (Builtin.firstCells i.size m (.slice A m c)).run P { w with drawn := d } = .ok us.toArray { w with drawn := d })
    (hlt : cap < n + m) (hb1 : (3 * (n + m) + 2000) * (i.bytes + 1) ≤ 281474976710656) (hol : os.length = n * i.size) (hul : us.length = m * i.size) :
    ∃ nc c' d, n + m ≤ nc ∧ c'.size = nc * i.size ∧ (∀ (k : Nat) (v : Value), (os ++ us)[k]? = some v → c'[k]? = some v) ∧
      (Builtin.append_ #[t, xt] ty #[.slice base n cap, .slice A m c]).run P w = .ok (.slice (some ⟨w.heap.size, 0, none⟩) (n + m) nc) { w with drawn := d, heap := w.heap.push (.cells c' e) } := by
  have h48 : (2 : Nat) ^ 48 = 281474976710656 := by decide
  have hb : (3 * (n + m) + 2000) * i.bytes + (3 * (n + m) + 2000) ≤ 281474976710656 := by rw [Nat.mul_add, Nat.mul_one] at hb1; exact hb1
  have hcap : ¬ (Builtin.nextslicecap (n + m) cap * i.bytes > 2 ^ 48) := by
    have := Nat.mul_le_mul_right i.bytes (nextcap_le hlt)
    omega
  have hmax : ¬ (((n + m : Nat) : Int) > IntKind.i64.max ∧ ((false : Bool) = true ∨ i.bytes = 0)) := by
    intro h
    have : IntKind.i64.max = 9223372036854775807 := by decide
    omega
  let nc := (Question.appendCap (n + m) cap e).cut (w.tape w.drawn (.appendCap (n + m) cap e))
  have hnc : n + m ≤ nc := by
    show n + m ≤ (n + m) + _
    omega
  refine ⟨nc, os.toArray ++ us.toArray ++ Builtin.zeroCells zv.cells (nc - (n + m)), w.drawn + 1, hnc, ?_, ?_, ?_⟩
  · simp only [Array.size_append, List.size_toArray, hol, hul, Builtin.zeroCells, Array.size_map, Array.size_range, hzs]
    rw [← Nat.add_mul, ← Nat.add_mul]; congr 1; omega
  · intro k v hv
    have hk : k < (os.toArray ++ us.toArray).size := by
      have := (List.getElem?_eq_some_iff.1 hv).1; simpa using this
    rw [Array.getElem?_append_left hk, ← Array.getElem?_toList]
    simpa using hv
  · unfold Builtin.append_
    simp only [List.getElem?_toArray, List.getElem?_cons_zero, List.getElem?_cons_succ, Sem.run_bind, run_underlying hu, run_sizeI hi, run_underlying hx, Result.andThen_ok, Sem.run_pure, Builtin.lenOf, Bool.false_eq_true, if_false, Bool.not_false, if_true]
    rw [if_neg (by omega)]
    simp only [Sem.run_bind, run_info hi, Result.andThen_ok]
    rw [if_neg (by simpa using hmax)]
    simp only [Sem.run_bind, run_info hi, Result.andThen_ok]
    rw [if_neg hcap]
    simp only [Sem.run_bind, run_choose, Question.forced, Bool.false_eq_true, if_false, Result.andThen_ok, run_info hi, run_askRoom, hold, hnew, zeroValue, hz, Sem.run_pure, run_newRow]
    rfl
end run
end
end HK
