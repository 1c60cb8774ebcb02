/-
  My own text (road H): HKC.
-/
import Derived.Test.YtflanhfpjgcfbaaHK17
set_option linter.unusedSimpArgs false
set_option linter.unusedVariables false
namespace HK
open Go
/-- clear(s) of a slice of a named block. -/
def evClr (P : Program) (h : Heap) (t : TypeId) (xa : AV) : Prop × Heap := match tzeroE P t, st1 xa with
  | some (sz, _, z), .sl id off len => match hb h id with
    | some b => (gk xa ∧ b.sz = sz ∧ off + len ≤ b.es.length ∧ z.all ocp = true, h.set id (some ⟨b.sz, b.es.take off ++ List.replicate len z ++ b.es.drop (off + len)⟩))
    | none => (False, h)
  | _, _ => (False, h)
theorem tzeroE_z {P : Program} {t : TypeId} {sz bytes : Nat} {z : List AV} (h : tzeroE P t = some (sz, bytes, z)) : ∃ e i zv, P.underlying t = some (.slice e) ∧ P.info? e = some i ∧ i.size = sz ∧ i.zero = some zv ∧ zv.cells.size = i.size ∧ z = zv.cells.toList.map absC := by
  unfold tzeroE at h
  split at h
  · rename_i e hu
    split at h
    · rename_i i hi
      split at h
      · rename_i zv hz
        split at h
        · rename_i hs; cases h; exact ⟨e, i, zv, hu, hi, rfl, hz, hs, rfl⟩
        · cases h
      · cases h
    · cases h
  · cases h
theorem set_self {h : Heap} {id : Nat} {b : Blk} (e : h[id]? = some (some b)) : h.set id (some b) = h := by
  refine List.ext_getElem? fun i => ?_
  rw [List.getElem?_set]
  split
  · rename_i hi
    subst hi
    split
    · exact e.symm
    · rw [List.getElem?_eq_none (by omega)]
  · rfl
section
variable {P : Program} {N : Sz} {w0 : World} {B0 : Cx} {φ : Refs} {Ss : List (List Nat)} {st : St} {a : Act} {w : World}
theorem clr_sound (h : Rel N w0 B0 φ Ss st a w) {t ty : TypeId} {xa : AV} {x : Value} (hx : VR w (Own Ss) φ xa x []) (ok : (evClr P st.heap t xa).1) :
    ∃ w' Ss', (Builtin.clear_ #[t] ty #[x]).run P w = .ok (.tuple #[]) w' ∧ Rel N w0 B0 φ Ss' ⟨st.env, (evClr P st.heap t xa).2⟩ a w' := by
  unfold evClr at ok ⊢
  split at ok
  · rename_i sz bytes z id off len ht hs
    cases hb' : hb st.heap id with
    | none => simp [hb'] at ok
    | some b =>
      simp only [hb'] at ok ⊢
      obtain ⟨g1, hsz, hle, hp⟩ := ok
      obtain ⟨e, i, zv, hu, hi, hisz, hz, hzs, rfl⟩ := tzeroE_z ht
      have hx' := hx.strip g1
      rw [hs] at hx'
      have hid := hb_spec hb'
      cases hx' with
      | sl0 _ _ r A hr =>
        refine ⟨w, Ss, by simp [Builtin.clear_, run_underlying hu]; cases A <;> simp, ?_⟩
        simp only [List.replicate_zero, List.append_nil, Nat.add_zero, List.take_append_drop]
        rw [set_self hid]
        exact h
      | sl _ _ _ cap r hr hcap hlim =>
        by_cases hl0 : len = 0
        · subst hl0
          refine ⟨w, Ss, by simp [Builtin.clear_, run_underlying hu], ?_⟩
          simp only [List.replicate_zero, List.append_nil, Nat.add_zero, List.take_append_drop]
          rw [set_self hid]
          exact h
        obtain ⟨S, hS, hB⟩ := h.heap id b hid
        rcases hB with ⟨h1, _, _⟩ | ⟨r', vs, T, h1, h2, ⟨c, ty', hc, hlim'⟩, h4, h5, h6, h7, rfl⟩
        · rw [hr] at h1; cases h1
        · rw [hr] at h1; cases h1
          have f1 : b.es.flatten = (b.es.take off).flatten ++ (((b.es.drop off).take len).flatten ++ (b.es.drop (off + len)).flatten) := by
            rw [← List.flatten_append, ← List.flatten_append, ← List.drop_drop, List.take_append_drop, List.take_append_drop]
          rw [f1] at h7
          obtain ⟨v1, v2', S1, S2', rfl, rfl, c1, c2⟩ := h7.split
          obtain ⟨v2, v3, S2, S3, rfl, rfl, c2, c3⟩ := c2.split
          have hzl : (zv.cells.toList.map absC).length = b.sz := by rw [hsz, ← hisz]; simpa using hzs
          have hv1 : v1.length = off * b.sz := by
            rw [← c1.length, flat_length (sz := b.sz) fun e he => h4 e (List.mem_of_mem_take he), List.length_take, Nat.min_eq_left (by omega)]
          have hv2 : v2.length = len * b.sz := by
            rw [← c2.length, flat_length (sz := b.sz) fun e he => h4 e (List.mem_of_mem_drop (List.mem_of_mem_take he)), List.length_take, List.length_drop, Nat.min_eq_left (by omega)]
          have hzc : CR w (Own Ss) φ (zv.cells.toList.map absC) zv.cells.toList [] := CR.absC _
          have hzr := cr_rep hzc len
          obtain ⟨hone1, -⟩ := ocp_all hzc hp
          have hone : ∀ v ∈ (List.replicate len zv.cells.toList).flatten, v.oneCell' = true := fun v hv => by
            obtain ⟨l, hl, hvl⟩ := List.mem_flatten.1 hv
            rw [List.eq_of_mem_replicate hl] at hvl
            exact hone1 v hvl
          have hzlen : (List.replicate len zv.cells.toList).flatten.length = len * b.sz := by
            rw [rep_len]; congr 1; simpa using hzl
          have hrow := row_of h6 hc
          have hlen : (off + len) * b.sz ≤ b.es.length * b.sz := Nat.mul_le_mul_right _ hle
          have ho : r.base + off * r.sz + (List.replicate len zv.cells.toList).flatten.length ≤ c.size := by
            rw [hzlen, hlim', h2]
            rw [Nat.add_mul] at hlen
            omega
          have hrun := run_storeCells_at P r.rb (r.base + off * r.sz) ty' (List.replicate len zv.cells.toList).flatten 0 c w hc (by simpa using ho) hone
          have hzv : ((Array.range (len * b.sz)).map (zv.cells[· % zv.cells.size]!)).toList = (List.replicate len zv.cells.toList).flatten := zeros_eq zv.cells len b.sz (by rw [hzs, hisz, hsz]) zv.cells (.inr rfl)
          refine ⟨_, _, ?_, h.row hid hr hS hc hlim' (new := (c.toList.take (r.base + off * r.sz) ++ (List.replicate len zv.cells.toList).flatten ++ c.toList.drop (r.base + off * r.sz + (List.replicate len zv.cells.toList).flatten.length)).toArray) (by simp; simp at ho; omega)
            ⟨b.sz, b.es.take off ++ List.replicate len (zv.cells.toList.map absC) ++ b.es.drop (off + len)⟩ h2 ?_ ?_ (vs := v1 ++ ((List.replicate len zv.cells.toList).flatten ++ v3)) ?_ (T' := S1 ++ ([] ++ S3)) ?_ ?_⟩
          · obtain ⟨n, rfl⟩ : ∃ n, len = n + 1 := ⟨len - 1, by omega⟩
            have e1 : (Builtin.zeroCells zv.cells (n + 1)).toList = (List.replicate (n + 1) zv.cells.toList).flatten := by
              unfold Builtin.zeroCells
              rw [← hzv, hzs, hisz, hsz]
            simp only [Builtin.clear_, List.getElem?_toArray, List.getElem?_cons_zero, Sem.run_bind, run_underlying hu, Result.andThen_ok, zeroValue, run_info hi, hz, Sem.run_pure, e1]
            simp only [Nat.add_zero, Nat.zero_add] at hrun
            simp at hrun ⊢
            rw [hrun]
            simp
          · intro e he
            simp only [List.append_assoc, List.mem_append] at he
            rcases he with he | he | he
            · exact h4 e (List.mem_of_mem_take he)
            · rw [List.eq_of_mem_replicate he]; exact hzl
            · exact h4 e (List.mem_of_mem_drop he)
          · have : (b.es.take off ++ List.replicate len (zv.cells.toList.map absC) ++ b.es.drop (off + len)).length = b.es.length := by simp; omega
            simp only [this]; exact h5
          · refine row_put (fun k v hv => hrow k v ?_) (fun k v hv => ?_) (by rw [hv1, h2]) (by simpa using ho)
            · rw [List.getElem?_append_left (List.getElem?_eq_some_iff.1 hv).1]; exact hv
            · have := hrow (v1.length + (v2.length + k)) v (by
                rw [List.getElem?_append_right (by omega), Nat.add_sub_cancel_left, List.getElem?_append_right (by omega), Nat.add_sub_cancel_left]; exact hv)
              rw [← this]
              congr 1
              rw [hv1, hv2, hzlen, h2]; omega
          · simp only [List.flatten_append, List.append_assoc]
            exact c1.app (hzr.app c3)
          · exact (List.Sublist.refl S1).append ((List.nil_sublist S2).append (List.Sublist.refl S3))
  · exact ok.elim
end
end HK
