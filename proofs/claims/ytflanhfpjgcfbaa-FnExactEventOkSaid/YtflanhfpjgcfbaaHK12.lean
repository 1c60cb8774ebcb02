/-
  My own text (road H): HK12.
-/
import Derived.Test.YtflanhfpjgcfbaaHK11
namespace HK
open Go

section
variable {P : Program} {own : Nat → Prop} {φ : Refs} {w : World}

theorem rep_get {α : Type} (l : List α) : ∀ (len n : Nat), n < len * l.length → (List.replicate len l).flatten[n]? = l[n % l.length]?
  | 0, n, h => by simp at h
  | len + 1, n, h => by
    rw [List.replicate_succ, List.flatten_cons]
    by_cases hn : n < l.length
    · rw [List.getElem?_append_left hn, Nat.mod_eq_of_lt hn]
    · rw [List.getElem?_append_right (by omega), rep_get l len (n - l.length) (by rw [Nat.add_mul] at h; omega), ← Nat.mod_eq_sub_mod (by omega)]
theorem rep_len {α : Type} (l : List α) (len : Nat) : (List.replicate len l).flatten.length = len * l.length := by
  rw [List.length_flatten, List.map_replicate, List.sum_replicate_nat]
theorem zeros_eq (zc : Array Value) (len : Nat) (sz : Nat) (hz : zc.size = sz) (z0 : Array Value) (h0 : len * sz = 0 ∨ z0 = zc) :
    ((Array.range (len * sz)).map (z0[· % z0.size]!)).toList = (List.replicate len zc.toList).flatten := by
  apply List.ext_getElem?
  intro n
  have hl : zc.toList.length = sz := by simpa using hz
  by_cases hn : n < len * sz
  · rw [rep_get _ _ _ (by rw [hl]; exact hn), hl]
    have hz0 : z0 = zc := h0.resolve_left (by omega)
    subst hz0
    have hpos : 0 < sz := by rcases Nat.eq_zero_or_pos sz with h | h; · rw [h] at hn; simp at hn
                             · exact h
    have hm : n % sz < z0.size := by rw [hz]; exact Nat.mod_lt _ hpos
    simp only [Array.toList_map, List.getElem?_map, Array.toList_range]
    rw [List.getElem?_eq_getElem (by simpa using hn), List.getElem_range, Option.map_some, hz, getElem!_pos z0 (n % sz) hm, Array.getElem?_toList, Array.getElem?_eq_getElem hm]
  · rw [List.getElem?_eq_none (by simp; omega), List.getElem?_eq_none (by rw [rep_len, hl]; omega)]
theorem cr_rep {z : List AV} {zs : List Value} (h : CR w own φ z zs []) : ∀ n, CR w own φ (List.replicate n z).flatten (List.replicate n zs).flatten []
  | 0 => .nil
  | n + 1 => by
    rw [List.replicate_succ, List.replicate_succ, List.flatten_cons, List.flatten_cons]
    exact h.app (cr_rep h n)

theorem run_newRow (e : TypeId) (c : Array Value) : (newRow e c).run P w = .ok ⟨w.heap.size, 0, none⟩ { w with heap := w.heap.push (.cells c e) } := by
  simp [newRow]

theorem evA_sound {ρ : Operand → AV} {r : Operand → Value} {o : Oper} (hops : ∀ x ∈ o.op.operands.toList, VR w own φ (ρ x) (r x) []) (ok : (evA P ρ o.op).ok) :
    ∃ y w', (execOp r o).run P w = .ok (.value y) w' ∧ Made w w' own φ (evA P ρ o.op).blk (evA P ρ o.op).sl y := by
  have lift : ∀ {s : Sem Value} {y : Value} {w' : World}, s.run P w = .ok y w' → (do pure (Next.value (← s)) : Sem Next).run P w = .ok (.value y) w' := by
    intro s y w' hs; simp [hs]
  obtain ⟨dst, op, ty, pos, after, guard⟩ := o
  simp only at hops ok ⊢
  cases op with
  | alloc t =>
    simp only [evA] at ok ⊢
    cases ht : tzero P t with
    | none => simp [ht, badA] at ok
    | some z =>
      simp only []
      unfold tzero at ht
      split at ht
      · rename_i i hi
        split at ht
        · rename_i zv hz
          cases ht
          refine ⟨_, { w with heap := w.heap.push (.cells zv.cells t) }, lift (y := .pointer (some ⟨w.heap.size, 0, none⟩)) ?_, zv.cells, t, zv.cells.toList, rfl, rfl, rfl, rfl, ?_, ?_, ?_, ?_, rfl⟩
          · simp [Instr.alloc, zeroValue, run_info hi, hz, newVar, run_newRow]
          · intro e he; simp at he; subst he; rfl
          · simp
          · intro n v hv; rw [Array.getElem?_toList] at hv; exact hv
          · have : ([List.map absC zv.cells.toList] : List (List AV)).flatten = List.map absC zv.cells.toList := by simp
            rw [this]; exact CR.absC _
        · cases ht
      · cases ht
  | box t x =>
    simp only [evA] at ok ⊢
    cases hc : cellsA (st1 (ρ x)) with
    | none => simp [hc, badA] at ok
    | some cs =>
      simp only [hc] at ok ⊢
      have h1 := cellsA_sound ((hops x (by simp [Op.operands])).strip ok) hc
      refine ⟨_, { w with heap := w.heap.push (.cells (r x).cells t) }, lift (y := .pointer (some ⟨w.heap.size, 0, none⟩)) ?_, (r x).cells, t, (r x).cells.toList, rfl, rfl, rfl, rfl, ?_, ?_, ?_, ?_, rfl⟩
      · simp [Instr.box, newVar, run_newRow]
      · intro e he; simp at he; subst he; rfl
      · have := h1.length; simp at this; simp [this]
      · intro n v hv; rw [Array.getElem?_toList] at hv; exact hv
      · simpa using h1
  | buildSlice t len parts =>
    simp only [evA] at ok ⊢
    cases ht : tzeroE P t with
    | none => simp [ht, badA] at ok
    | some x =>
      obtain ⟨sz, bytes, z⟩ := x
      simp only [ht] at ok ⊢
      cases hf : fillE sz (List.replicate len z) (parts.toList.map fun p => (p.1, st1 (ρ p.2))) with
      | none => simp [hf, badA] at ok
      | some es =>
        simp only [hf] at ok ⊢
        obtain ⟨g, hlim⟩ := ok
        unfold tzeroE at ht
        split at ht
        · rename_i e hu
          split at ht
          · rename_i i hi
            split at ht
            · rename_i zv hz
              split at ht
              · rename_i hzs
                cases ht
                have hzl : (zv.cells.toList.map absC).length = i.size := by simpa using hzs
                have hu0 : ∀ e ∈ List.replicate len (zv.cells.toList.map absC), e.length = i.size := fun e he => by
                  rw [List.eq_of_mem_replicate he]; exact hzl
                obtain ⟨f1, f2, f3⟩ := fillE_spec hu0 hf
                have hzc : CR w own φ (List.replicate len (zv.cells.toList.map absC)).flatten (List.replicate len zv.cells.toList).flatten [] := cr_rep (CR.absC _) len
                obtain ⟨z0, hz0, hd1, hd2⟩ : ∃ z0 : Array Value, (len * i.size = 0 ∨ z0 = zv.cells) ∧ (len * i.size = 0 → z0 = #[]) ∧ (len * i.size ≠ 0 → z0 = zv.cells) := by
                  by_cases h0 : len * i.size = 0
                  · exact ⟨#[], .inl h0, fun _ => rfl, fun h => absurd h0 h⟩
                  · exact ⟨zv.cells, .inr rfl, fun h => absurd h h0, fun _ => rfl⟩
                have hcells := zeros_eq zv.cells len i.size hzs z0 hz0
                rw [← hcells] at hzc
                obtain ⟨rr, hfr, hcr⟩ := fill_sound (w := w) (own := own) (φ := φ) (fun k => some (k * i.size, i.size)) (parts.toList.map fun p => (p.1, st1 (ρ p.2))) (parts.toList.map fun p => (p.1, r p.2)) _ _ es.flatten (by simp)
                  (by
                    intro k p q h1 h2
                    rw [List.getElem?_map] at h1 h2
                    cases hk : parts.toList[k]? with
                    | none => simp [hk] at h1
                    | some pq =>
                      simp [hk] at h1 h2
                      subst h1; subst h2
                      have hm : pq.2 ∈ parts.toList.map (·.2) := List.mem_map.2 ⟨pq, List.mem_of_getElem? hk, rfl⟩
                      exact ⟨rfl, (hops _ (by simpa [Op.operands] using hm)).strip (allGk_mem g _ hm)⟩) hzc f1
                have hrl : rr.size = es.length * i.size := by
                  have := hcr.length; rw [flat_length f2] at this; simpa using this.symm
                refine ⟨_, { w with heap := w.heap.push (.cells rr e) }, lift (y := .slice (some ⟨w.heap.size, 0, none⟩) len len) ?_, rr, e, rr.toList, rfl, rfl, rfl, rfl, f2, by rw [hrl]; exact Nat.le_refl _, ?_, hcr, len, rfl, Nat.le_refl _, by rw [hrl, f3]; simp⟩
                · unfold Instr.buildSlice
                  have e2 : (parts.map fun (i, x) => (i, r x)).toList = parts.toList.map fun p => (p.1, r p.2) := by simp
                  rw [Sem.run_bind, run_underlying hu, Result.andThen_ok]
                  simp only []
                  rw [Sem.run_bind, run_sizeI hi, Result.andThen_ok]
                  rw [if_neg (by omega)]
                  by_cases h0 : len * i.size = 0
                  · have := hd1 h0; subst this
                    rw [if_pos h0, Sem.run_bind, Sem.run_pure, Result.andThen_ok, e2, hfr]
                    simp [run_newRow]
                  · have := hd2 h0; subst this
                    rw [if_neg h0]
                    simp only [Sem.run_bind, zeroValue, run_info hi, hz, Result.andThen_ok, Sem.run_pure, e2, hfr, run_newRow]
                · intro n v hv; rw [Array.getElem?_toList] at hv; exact hv
              · cases ht
            · cases ht
          · cases ht
        · cases ht
  | makeSlice t l c =>
    simp only [evA] at ok ⊢
    split at ok
    · rename_i sz bytes z kl n kc m ht hl hc
      obtain ⟨g1, g2, h0, h1, h2, h3⟩ := ok
      have hlv := (hops l (by simp [Op.operands])).strip g1
      have hcv := (hops c (by simp [Op.operands])).strip g2
      rw [hl] at hlv
      rw [hc] at hcv
      generalize hrl : r l = rl at hlv
      generalize hrc : r c = rc at hcv
      cases hlv
      cases hcv
      unfold tzeroE at ht
      split at ht
      · rename_i e hu
        split at ht
        · rename_i i hi
          split at ht
          · rename_i zv hz
            split at ht
            · rename_i hzs
              cases ht
              have hzl : (zv.cells.toList.map absC).length = i.size := by simpa using hzs
              have wl : IntKind.i64.wrap n = n := by
                unfold IntKind.wrap; simp [IntKind.bits, IntKind.signed]; omega
              have wc : IntKind.i64.wrap m = m := by
                unfold IntKind.wrap; simp [IntKind.bits, IntKind.signed]; omega
              obtain ⟨z0, hz0, hd1, hd2⟩ : ∃ z0 : Array Value, (m.toNat * i.size = 0 ∨ z0 = zv.cells) ∧ (m.toNat * i.size = 0 → z0 = #[]) ∧ (m.toNat * i.size ≠ 0 → z0 = zv.cells) := by
                by_cases h0 : m.toNat * i.size = 0
                · exact ⟨#[], .inl h0, fun _ => rfl, fun h => absurd h0 h⟩
                · exact ⟨zv.cells, .inr rfl, fun h => absurd h h0, fun _ => rfl⟩
              have hcells := zeros_eq zv.cells m.toNat i.size hzs z0 hz0
              have hzl2 : zv.cells.toList.length = i.size := by simpa using hzs
              refine ⟨_, { w with heap := w.heap.push (.cells ((Array.range (m.toNat * i.size)).map (z0[· % z0.size]!)) e) }, lift (y := .slice (some ⟨w.heap.size, 0, none⟩) n.toNat m.toNat) ?_, (Array.range (m.toNat * i.size)).map (z0[· % z0.size]!), e, (List.replicate n.toNat zv.cells.toList).flatten, rfl, rfl, rfl, rfl, ?_, ?_, ?_, cr_rep (CR.absC _) _, m.toNat, rfl, by omega, by simp⟩
              · unfold Instr.makeSlice
                rw [hrl, hrc]
                simp only [Sem.run_bind, run_underlying hu, Result.andThen_ok, asInt, asIntOf, Sem.run_pure, run_info hi, wl, wc]
                have hneg : (((decide (m < 0) || decide ((i.bytes : Int) * m > 2 ^ 48)) = true ∨ n < 0) ∨ n > m) → False := by
                  intro hh
                  have : (2 : Int) ^ 48 = 281474976710656 := by decide
                  rcases hh with (hh | hh) | hh
                  · simp at hh; omega
                  · omega
                  · omega
                simp only [Bool.or_eq_true, decide_eq_true_eq] at hneg
                have hneg2 : ¬ ((((decide (m < 0) || decide ((i.bytes : Int) * m > 2 ^ 48)) || decide (n < 0) || decide (n > m)) : Bool) = true) := by
                  simp only [Bool.or_eq_true, decide_eq_true_eq]; exact hneg
                rw [if_neg hneg2]
                simp only [Sem.run_bind, run_askRoom, Result.andThen_ok, run_sizeI hi]
                by_cases h0 : m.toNat * i.size = 0
                · have := hd1 h0; subst this
                  rw [if_pos h0, Sem.run_bind, Sem.run_pure, Result.andThen_ok]
                  simp only [Sem.run_bind, run_newRow, Result.andThen_ok, Sem.run_pure]
                · have := hd2 h0; subst this
                  rw [if_neg h0]
                  simp only [Sem.run_bind, zeroValue, run_info hi, hz, Result.andThen_ok, Sem.run_pure, run_newRow]
              · intro e' he; simp only at he ⊢; rw [List.eq_of_mem_replicate he]; exact hzl
              · simp; exact Nat.mul_le_mul_right _ (by omega)
              · intro k v hv
                have hk : k < n.toNat * i.size := by
                  have := (List.getElem?_eq_some_iff.1 hv).1
                  rw [rep_len, hzl2] at this; exact this
                have hk2 : k < m.toNat * i.size := Nat.lt_of_lt_of_le hk (Nat.mul_le_mul_right _ (by omega))
                rw [← Array.getElem?_toList, hcells, rep_get _ _ _ (by rw [hzl2]; exact hk2)]
                rw [rep_get _ _ _ (by rw [hzl2]; exact hk)] at hv
                exact hv
            · cases ht
          · cases ht
        · cases ht
      · cases ht
    · exact ok.elim
  | _ => simp [evA, badA] at ok
end
end HK
