/-
  My own text (road H): HK13.
-/
import Derived.Test.YtflanhfpjgcfbaaHK12
namespace HK
open Go

section
variable {P : Program} {N : Sz} {w0 : World} {B0 : Cx} {φ : Refs} {Ss : List (List Nat)} {st : St} {a : Act} {w : World}

theorem row_put {c : Array Value} {base o : Nat} {v1 us v3 : List Value} (h1 : ∀ (n : Nat) (v : Value), v1[n]? = some v → c[base + n]? = some v) (h3 : ∀ (n : Nat) (v : Value), v3[n]? = some v → c[o + us.length + n]? = some v)
    (ho : o = base + v1.length) (hl : o + us.length ≤ c.size) : ∀ (n : Nat) (v : Value), (v1 ++ (us ++ v3))[n]? = some v → ((c.toList.take o ++ us ++ c.toList.drop (o + us.length)).toArray)[base + n]? = some v := by
  intro n v hv
  have ht : (c.toList.take o).length = o := by rw [List.length_take, Array.length_toList, Nat.min_eq_left (by omega)]
  rw [List.getElem?_toArray, List.append_assoc]
  by_cases hn : n < v1.length
  · rw [List.getElem?_append_left hn] at hv
    rw [List.getElem?_append_left (by omega), List.getElem?_take, if_pos (by omega), Array.getElem?_toList]
    exact h1 n v hv
  · rw [List.getElem?_append_right (by omega)] at hv
    rw [List.getElem?_append_right (by omega), ht]
    have e : base + n - o = n - v1.length := by omega
    rw [e]
    by_cases hn2 : n - v1.length < us.length
    · rw [List.getElem?_append_left hn2] at hv ⊢; exact hv
    · rw [List.getElem?_append_right (by omega)] at hv ⊢
      rw [List.getElem?_drop, Array.getElem?_toList]
      exact h3 _ v hv

/-- Surely one cell, and nothing of the call's own in it. -/
def ocp (v : AV) : Bool := oc v && plain v
theorem oc_one {own : Nat → Prop} {v : AV} {x : Value} {S : List Nat} (h : VR w own φ v x S) (ho : oc v = true) : x.oneCell' = true := by
  cases h <;> first | rfl | simp [oc] at ho
theorem ocp_all {own : Nat → Prop} : ∀ {cs : List AV} {vs : List Value} {S : List Nat}, CR w own φ cs vs S → cs.all ocp = true → (∀ v ∈ vs, v.oneCell' = true) ∧ S = []
  | _, _, _, .nil, _ => ⟨(fun _ h => by cases h), rfl⟩
  | _, _, _, .cons a v S as vs T h h', hp => by
    simp only [List.all_cons, Bool.and_eq_true, ocp] at hp
    have hp2 : as.all ocp = true := by simpa [ocp] using hp.2
    obtain ⟨h1, h2⟩ := ocp_all h' hp2
    refine ⟨fun y hy => ?_, by rw [plain_nil h hp.1.2, h2]; rfl⟩
    rcases List.mem_cons.1 hy with rfl | hy
    · exact oc_one h hp.1.1
    · exact h1 y hy

structure WR where
  ok : Prop
  h : Heap
def evS (P : Program) (h : Heap) (t : TypeId) (pa va : AV) : WR :=
  match st1 pa, tk P t, cellsA (st1 va) with
  | .ptr id i j, some (_, n), some xs => match hb h id with
    | some b => ⟨gk pa ∧ gk va ∧ i < b.es.length ∧ j + n ≤ b.sz ∧ xs.length = n ∧ xs.all ocp = true, h.set id (some ⟨b.sz, b.es.set i (splice (b.es.getD i []) j xs)⟩)⟩
    | none => ⟨False, h⟩
  | _, _, _ => ⟨False, h⟩

theorem row_of {rb base : Nat} {vs : List Value} {c : Array Value} {ty : TypeId} (hs : Seg w ⟨rb, base, none⟩ vs) (hc : w.heap[rb]? = some (.cells c ty (0, 0))) : ∀ (n : Nat) (v : Value), vs[n]? = some v → c[base + n]? = some v := by
  intro n v hv
  have := hs n v hv
  rw [add_row] at this
  simpa [World.cell?, hc] using this

theorem store_sound (h : Rel N w0 B0 φ Ss st a w) {t : TypeId} {pa va : AV} {x y : Value} (hx : VR w (Own Ss) φ pa x []) (hy : VR w (Own Ss) φ va y []) (ok : (evS P st.heap t pa va).ok) :
    ∃ w' Ss', (Instr.storeAt t x y).run P w = .ok () w' ∧ Rel N w0 B0 φ Ss' ⟨st.env, (evS P st.heap t pa va).h⟩ a w' := by
  unfold evS at ok ⊢
  split at ok
  · rename_i id i j g n xs e1 e2 e3
    cases hb' : hb st.heap id with
    | none => simp [hb'] at ok
    | some b =>
      simp only [hb'] at ok ⊢
      obtain ⟨g1, g2, hi, hj, hn, hp⟩ := ok
      have hx' := hx.strip g1
      rw [e1] at hx'
      have hid := hb_spec hb'
      cases hx' with
      | ptr _ _ _ r hr =>
        obtain ⟨S, hS, hB⟩ := h.heap id b hid
        rcases hB with ⟨h1, _, _⟩ | ⟨r', vs, T, h1, h2, ⟨c, ty, hc, hlim⟩, h4, h5, h6, h7, rfl⟩
        · rw [hr] at h1; cases h1
        · rw [hr] at h1; cases h1
          have hu := cellsA_sound (hy.strip g2) e3
          obtain ⟨hone, -⟩ := ocp_all hu hp
          obtain ⟨hf, hfl, hfn⟩ := flat_cells h4 hi hj
          rw [hf] at h7
          obtain ⟨v1, v2', S1, S2', rfl, rfl, c1, c2⟩ := h7.split
          obtain ⟨v2, v3, S2, S3, rfl, rfl, c2, c3⟩ := c2.split
          have hv1 : v1.length = i * b.sz + j := by rw [← c1.length, hfl]
          have hv2 : v2.length = n := by rw [← c2.length, hfn]
          have hul : y.cells.toList.length = n := by rw [← hu.length, hn]
          have hrow := row_of h6 hc
          have ho : r.base + (i * r.sz) + j + y.cells.toList.length ≤ c.size := by
            rw [hul, hlim]
            have : (i + 1) * b.sz ≤ b.es.length * b.sz := Nat.mul_le_mul_right _ hi
            rw [Nat.add_mul] at this
            rw [h2]; omega
          have hrun := run_storeCells_at P r.rb (r.base + i * r.sz + j) ty y.cells.toList 0 c w hc (by simpa using ho) hone
          refine ⟨_, _, ?_, h.row hid hr hS hc hlim (new := (c.toList.take (r.base + i * r.sz + j) ++ y.cells.toList ++ c.toList.drop (r.base + i * r.sz + j + y.cells.toList.length)).toArray) (by simp; simp at ho; omega)
            ⟨b.sz, b.es.set i (splice (b.es.getD i []) j xs)⟩ h2 ?_ (by simpa using h5) (vs := v1 ++ (y.cells.toList ++ v3)) ?_ (T' := S1 ++ ([] ++ S3)) ?_ ?_⟩
          · simp only [Instr.storeAt, Instr.sureAddr, Sem.run_bind, Sem.run_pure, Result.andThen_ok, storeVar, run_size e2]
            have hys : y.cells.size = n := by simpa using hul
            rw [if_neg (by omega)]
            simpa using hrun
          · intro e he
            rcases List.mem_or_eq_of_mem_set he with he | rfl
            · exact h4 e he
            · rw [splice_length]
              · exact (flat_split h4 hi).2.2
              · rw [(flat_split h4 hi).2.2]; omega
          · refine row_put (fun k v hv => hrow k v ?_) (fun k v hv => ?_) (by rw [hv1, h2]; omega) (by simpa using ho)
            · rw [List.getElem?_append_left (List.getElem?_eq_some_iff.1 hv).1]; exact hv
            · have := hrow (v1.length + (v2.length + k)) v (by
                rw [List.getElem?_append_right (by omega), Nat.add_sub_cancel_left, List.getElem?_append_right (by omega), Nat.add_sub_cancel_left]; exact hv)
              rw [← this]
              congr 1
              rw [hv1, hv2, hul, h2]; omega
          · rw [flat_splice hi, hn]
            exact c1.app (hu.app c3)
          · exact (List.Sublist.refl S1).append ((List.nil_sublist S2).append (List.Sublist.refl S3))
  · exact ok.elim
end
end HK
