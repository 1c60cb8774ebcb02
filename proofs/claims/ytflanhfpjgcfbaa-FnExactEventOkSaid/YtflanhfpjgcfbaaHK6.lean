/-
  My own text (road H): HK6.
-/
import Derived.Test.YtflanhfpjgcfbaaHK5
namespace HK
open Go

section
variable {P : Program} {w : World} {own : Nat → Prop} {φ : Refs}

inductive OR (w : World) (own : Nat → Prop) (φ : Refs) : Option AV → Option Value → Prop
  | none : OR w own φ none none
  | some (a : AV) (v : Value) (h : VR w own φ a v []) : OR w own φ (some a) (some v)

theorem bnd_sound {d : Nat} {a : Option AV} {v : Option Value} {l : Int} (h : OR w own φ a v) (e : bnd d a = some l) :
    (v = none ∧ l = d) ∨ ∃ k, v = some (.int k l) := by
  cases h with
  | none => simp [bnd] at e; exact .inl ⟨rfl, e.symm⟩
  | some a v h =>
    cases h <;> simp [bnd] at e
    subst e; exact .inr ⟨_, rfl⟩
theorem run_sliceBounds {b : Bool} {len cap : Nat} {la ha : Option AV} {lv hv : Option Value} {l u : Int} (hl : OR w own φ la lv) (hh : OR w own φ ha hv) (el : bnd 0 la = some l) (eh : bnd len ha = some u)
    (h0 : 0 ≤ l) (h1 : l ≤ u) (h2 : u ≤ cap) : (Instr.sliceBounds b len cap lv hv none).run P w = .ok (l.toNat, u.toNat, cap) w := by
  unfold Instr.sliceBounds
  rcases bnd_sound hh eh with ⟨rfl, rfl⟩ | ⟨k, rfl⟩
  · rcases bnd_sound hl el with ⟨rfl, rfl⟩ | ⟨k, rfl⟩
    · simp
    · simp [Instr.sliceBound, asIntOf, h0, h1]
  · have : 0 ≤ u := by omega
    rcases bnd_sound hl el with ⟨rfl, rfl⟩ | ⟨k, rfl⟩
    · simp [Instr.sliceBound, asIntOf, h2, this]
    · have hlu : l ≤ (u.toNat : Int) := by omega
      simp only [Instr.sliceBound, asIntOf, Sem.run_bind, Sem.run_pure, Result.andThen_ok]
      rw [if_pos ⟨this, h2⟩]
      simp only [Sem.run_pure, Result.andThen_ok]
      rw [if_pos ⟨h0, hlu⟩]; rfl

theorem Seg.take {A : Addr} {vs : List Value} (h : Seg w A vs) (n : Nat) : Seg w A (vs.take n) := by
  intro k v hv
  rw [List.getElem?_take] at hv
  split at hv
  · exact h k v hv
  · cases hv
theorem Seg.drop {A : Addr} {vs : List Value} (h : Seg w A vs) (n : Nat) : Seg w (A.add n) (vs.drop n) := by
  intro k v hv
  rw [List.getElem?_drop] at hv
  rw [add_add]; exact h _ v hv
theorem nil_of_sub {S S' : List Nat} (h : S' ++ S = []) : S = [] := by
  cases S' <;> simp_all

theorem sliceS_sound {t : TypeId} (ht : P.underlying t = some .string) {h : Heap} {sz : Nat} {s : ByteArray} {la ha : Option AV} {lv hv : Option Value} (hl : OR w own φ la lv) (hh : OR w own φ ha hv) (ok : (sliceV h sz la ha (.str s)).1) :
    ∃ z, (Instr.sliceAt t (.string s) lv hv none).run P w = .ok z w ∧ VR w own φ (sliceV h sz la ha (.str s)).2 z [] := by
  simp only [sliceV] at ok ⊢
  cases el : bnd 0 la with
  | none => simp [el] at ok
  | some l =>
    cases eh : bnd s.size ha with
    | none => simp [el, eh] at ok
    | some u =>
      simp only [el, eh] at ok ⊢
      obtain ⟨h0, h1, h2⟩ := ok
      refine ⟨_, ?_, VR.str _⟩
      simp [Instr.sliceAt, Instr.slice, run_underlying ht, run_sliceBounds hl hh el eh h0 h1 h2]

theorem slice_sound {h : Heap} {Ss : List (List Nat)} (hheap : HR w own φ h Ss) {t : TypeId} {sz bytes : Nat} (ht : tel P t = some (sz, bytes)) {a : AV} {x : Value} {la ha : Option AV} {lv hv : Option Value} (hx : VR w own φ a x []) (hns : ¬ ∃ s, a = .str s)
    (hl : OR w own φ la lv) (hh : OR w own φ ha hv) (ok : (sliceV h sz la ha a).1) :
    ∃ z, (Instr.sliceAt t x lv hv none).run P w = .ok z w ∧ VR w own φ (sliceV h sz la ha a).2 z [] := by
  obtain ⟨e, i, hu, hi, hsz, -⟩ := tel_spec ht
  have go : ∀ {A : Option Addr} {len cap : Nat} {l u : Int}, bnd 0 la = some l → bnd len ha = some u → 0 ≤ l → l ≤ u → u ≤ cap →
      (Instr.sliceAt t (.slice A len cap) lv hv none).run P w = .ok (.slice (if cap = l.toNat then A else A.map (·.add (l.toNat * sz))) (u.toNat - l.toNat) (cap - l.toNat)) w := by
    intro A len cap l u el eh h0 h1 h2
    simp [Instr.sliceAt, Instr.slice, run_underlying hu, run_sliceBounds hl hh el eh h0 h1 h2, run_sizeI hi, hsz]
  cases hx with
  | str s => exact absurd ⟨s, rfl⟩ hns
  | nil A =>
    simp only [sliceV] at ok ⊢
    cases el : bnd 0 la with
    | none => simp [el] at ok
    | some l =>
      cases eh : bnd 0 ha with
      | none => simp [el, eh] at ok
      | some u =>
        simp only [el, eh] at ok ⊢
        obtain ⟨rfl, rfl⟩ := ok
        exact ⟨_, go el eh (Int.le_refl _) (Int.le_refl _) (Int.le_refl _), .nil _⟩
  | sl0 id off r A hr =>
    simp only [sliceV] at ok ⊢
    cases el : bnd 0 la with
    | none => simp [el] at ok
    | some l =>
      cases eh : bnd 0 ha with
      | none => simp [el, eh] at ok
      | some u =>
        simp only [el, eh] at ok ⊢
        split at ok
        · rename_i l' u' b e1 e2 hb'
          cases e1; cases e2
          obtain ⟨h0, h1, h2, h3⟩ := ok
          have hu0 : u = 0 := by simp at h2; omega
          have hl0 : l = 0 := by omega
          subst hu0; subst hl0
          exact ⟨_, go el eh (Int.le_refl _) (Int.le_refl _) (Int.le_refl _), .sl0 _ _ r _ hr⟩
        · exact ok.elim
  | sl id off len cap r hr hcap hlim =>
    simp only [sliceV] at ok ⊢
    cases el : bnd 0 la with
    | none => simp [el] at ok
    | some l =>
      cases eh : bnd len ha with
      | none => simp [el, eh] at ok
      | some u =>
        cases hb' : hb h id with
        | none => simp [el, eh, hb'] at ok
        | some b =>
          simp only [el, eh, hb'] at ok ⊢
          obtain ⟨h0, h1, h2, h3⟩ := ok
          refine ⟨_, go el eh h0 h1 (by omega), ?_⟩
          have hid : h[id]? = some (some b) := by
            unfold hb at hb'; split at hb' <;> simp_all
          have hrs : r.sz = sz := by
            obtain ⟨S, hS, hB⟩ := hheap id b hid
            rcases hB with ⟨h1, _, _⟩ | ⟨r', vs, T, h1, h4, _⟩
            · rw [hr] at h1; cases h1
            · rw [hr] at h1; cases h1; rw [h4, h3]
          by_cases hc : cap = l.toNat
          · have h4 : u.toNat - l.toNat = 0 := by omega
            have h5 : cap - l.toNat = 0 := by omega
            have h6 : (u - l).toNat = 0 := by omega
            rw [h4, h5, h6]
            exact .sl0 _ _ _ _ hr
          · rw [if_neg hc]
            have e1 : (u - l).toNat = u.toNat - l.toNat := by omega
            rw [e1, Option.map_some, add_row, ← hrs]
            have := VR.sl (w := w) (own := own) (φ := φ) id (off + l.toNat) (u.toNat - l.toNat) (cap - l.toNat) r hr (by omega) (by
              have : off + l.toNat + (cap - l.toNat) = off + cap := by omega
              rw [this]; exact hlim)
            rwa [Nat.add_mul, ← Nat.add_assoc] at this
  | fz0 A cap =>
    simp only [sliceV] at ok ⊢
    cases el : bnd 0 la with
    | none => simp [el] at ok
    | some l =>
      cases eh : bnd 0 ha with
      | none => simp [el, eh] at ok
      | some u =>
        simp only [List.length_nil, el, eh] at ok ⊢
        obtain ⟨h0, h1, h2, h3⟩ := ok
        have hu0 : u = 0 := by simp at h2; omega
        have hl0 : l = 0 := by omega
        subst hu0; subst hl0
        refine ⟨_, go el eh (Int.le_refl _) (Int.le_refl _) (by omega), ?_⟩
        simp only [Int.toNat_zero, List.drop_zero, Int.sub_zero, List.take_zero]
        exact .fz0 _ _
  | fz es sz' A cap vs hlt ho hu' hcap hs hc =>
    simp only [sliceV] at ok ⊢
    cases el : bnd 0 la with
    | none => simp [el] at ok
    | some l =>
      cases eh : bnd es.length ha with
      | none => simp [el, eh] at ok
      | some u =>
        simp only [el, eh] at ok ⊢
        obtain ⟨h0, h1, h2, h3⟩ := ok
        refine ⟨_, go el eh h0 h1 (by omega), ?_⟩
        by_cases hlu : l = u
        · subst hlu
          have h4 : l.toNat - l.toNat = 0 := by omega
          have h6 : (l - l).toNat = 0 := by omega
          rw [h4, h6, List.take_zero]
          exact .fz0 _ _
        · have hlt' : l.toNat < es.length := by omega
          have hsz' : sz' = sz := by
            have := h3 (by omega)
            rw [(flat_split hu' hlt').2.2] at this; exact this
          subst hsz'
          rw [if_neg (by omega), Option.map_some]
          have e1 : (u - l).toNat = u.toNat - l.toNat := by omega
          have hln : ((es.drop l.toNat).take (u.toNat - l.toNat)).length = u.toNat - l.toNat := by simp; omega
          have := VR.fz (w := w) (own := own) (φ := φ) ((es.drop l.toNat).take (u.toNat - l.toNat)) sz' (A.add (l.toNat * sz')) (cap - l.toNat) (((vs.drop (l.toNat * sz'))).take ((u.toNat - l.toNat) * sz'))
            (by rw [add_block]; exact hlt) (by rw [add_block]; exact ho) (fun e he => hu' e (List.mem_of_mem_drop (List.mem_of_mem_take he))) (by rw [hln]; omega) ((hs.drop _).take _) ?_
          · rw [hln] at this; rw [e1]; exact this
          · have e2 : es.flatten = (es.take l.toNat).flatten ++ (((es.drop l.toNat).take (u.toNat - l.toNat)).flatten ++ ((es.drop l.toNat).drop (u.toNat - l.toNat)).flatten) := by
              rw [← List.flatten_append, ← List.flatten_append, List.take_append_drop, List.take_append_drop]
            rw [e2] at hc
            obtain ⟨v1, v23, S1, S23, rfl, hS, hc1, hc23⟩ := hc.split
            obtain ⟨v2, v3, S2, S3, rfl, rfl, hc2, hc3⟩ := hc23.split
            have l1 : v1.length = l.toNat * sz' := by
              rw [← hc1.length, flat_length (sz := sz') fun e he => hu' e (List.mem_of_mem_take he)]; rw [List.length_take, Nat.min_eq_left (by omega)]
            have l2 : v2.length = (u.toNat - l.toNat) * sz' := by
              rw [← hc2.length, flat_length (sz := sz') fun e he => hu' e (List.mem_of_mem_drop (List.mem_of_mem_take he)), hln]
            rw [← l1, List.drop_left, ← l2, List.take_left]
            have : S2 = [] := by
              have := (List.append_eq_nil_iff.1 (List.append_eq_nil_iff.1 hS.symm).2).1; exact this
            subst this; exact hc2
  | _ => simp [sliceV] at ok
end
end HK
