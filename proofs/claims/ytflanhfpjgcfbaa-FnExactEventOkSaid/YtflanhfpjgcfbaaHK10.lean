/-
  My own text (road H): HK10.
-/
import Derived.Test.YtflanhfpjgcfbaaHK9
namespace HK
open Go

section
variable {P : Program} {N : Sz} {w0 : World} {B0 : Cx} {φ : Refs} {Ss : List (List Nat)} {st : St} {a : Act} {w : World}

theorem hb_spec {h : Heap} {id : Nat} {b : Blk} (e : hb h id = some b) : h[id]? = some (some b) := by
  unfold hb at e; split at e <;> simp_all

theorem setRow_far (w : World) (g : Nat) (c : Array Value) {k : Nat} (hk : k ≠ g) : (w.setRow g c).heap[k]? = w.heap[k]? := by
  unfold World.setRow
  rw [Array.getElem?_modify, if_neg (Ne.symm hk)]

/-- A row of the call's own is written. -/
theorem Rel.row (h : Rel N w0 B0 φ Ss st a w) {id : Nat} {b : Blk} (hid : st.heap[id]? = some (some b)) {r : Ref} (hr : φ id = some (some r)) {T : List Nat} (hS : Ss[id]? = some (r.rb :: T))
    {c new : Array Value} {ty : TypeId} (hc : w.heap[r.rb]? = some (.cells c ty (0, 0))) (hlimc : c.size = r.lim) (hn : new.size = c.size) (b' : Blk) (hbr : r.sz = b'.sz) (hu : ∀ e ∈ b'.es, e.length = b'.sz) (hl : r.base + b'.es.length * b'.sz ≤ r.lim)
    {vs : List Value} (hvs : ∀ (n : Nat) (v : Value), vs[n]? = some v → new[r.base + n]? = some v) {T' : List Nat} (hcr : CR w (Own Ss) φ b'.es.flatten vs T') (hT : T'.Sublist T) :
    Rel N w0 B0 φ (Ss.set id (r.rb :: T')) ⟨st.env, st.heap.set id (some b')⟩ a (w.setRow r.rb new) := by
  obtain ⟨A, B, e1, e2⟩ := flatten_set hS (r.rb :: T')
  have hsub : (Ss.set id (r.rb :: T')).flatten.Sublist Ss.flatten := by
    rw [e1, e2]
    exact (List.Sublist.refl A).append ((List.Sublist.cons_cons _ hT).append (List.Sublist.refl B))
  have hmem : r.rb ∈ Ss.flatten := by rw [e1]; simp
  have hfar : ∀ k, k ≠ r.rb → (w.setRow r.rb new).heap[k]? = w.heap[k]? := fun k hk => setRow_far w r.rb new hk
  have hown : ∀ k, ¬ Own Ss k → ¬ Own (Ss.set id (r.rb :: T')) k := fun k hk hk' => hk (hsub.subset hk')
  have hfz : ∀ k, k < w.heap.size → ¬ Own Ss k → ¬ Own (Ss.set id (r.rb :: T')) k ∧ (w.setRow r.rb new).heap[k]? = w.heap[k]? := fun k _ hk =>
    ⟨hown k hk, hfar k (fun e => hk (by rw [e]; exact hmem))⟩
  have hsz : (w.setRow r.rb new).heap.size = w.heap.size := by simp [World.setRow]
  have hnd := h.nodup
  rw [e1] at hnd
  have hTr : r.rb ∉ T := by
    rw [List.nodup_append] at hnd
    have := hnd.2.1
    rw [List.cons_append, List.nodup_cons] at this
    exact fun hm => this.1 (List.mem_append_left _ hm)
  have hoth : ∀ k S, k ≠ id → Ss[k]? = some S → r.rb ∉ S := by
    intro k S hk hSk hm
    obtain ⟨A', B', f1, f2⟩ := flatten_set (l := Ss.set id []) (id := k) (S := S) (by rw [List.getElem?_set_ne (Ne.symm hk)]; exact hSk) []
    obtain ⟨A2, B2, g1, g2⟩ := flatten_set hS []
    have h1 : r.rb ∈ (Ss.set id []).flatten := by rw [f1]; simp [hm]
    rw [g2] at h1
    have h2 := h.nodup
    rw [g1, List.nodup_append] at h2
    simp at h1
    rcases h1 with h1 | h1
    · exact h2.2.2 _ h1 r.rb (by simp) rfl
    · have := h2.2.1
      rw [List.cons_append, List.nodup_cons] at this
      exact this.1 (by simp [h1])
  refine ⟨fun t => (h.env t).tr hfz (by rw [hsz]; exact Nat.le_refl _) (fun _ _ e => e) (fun b hb => by cases hb), fun k b2 hk => ?_, by simp [h.len], fun k hk => h.fresh k (by simpa using hk), h.nodup.sublist hsub, fun k hk => ?_, ?_, h.size, h.defers, h.cx, h.keep⟩
  · by_cases e : k = id
    · subst e
      have hlt : k < st.heap.length := (List.getElem?_eq_some_iff.1 hid).1
      have hb' : b2 = b' := by simp [hlt] at hk; exact hk.symm
      subst hb'
      have hlt2 : k < Ss.length := by rw [h.len]; exact hlt
      have hrow : (w.setRow r.rb new).heap[r.rb]? = some (.cells new ty (0, 0)) := setRow_heap w r.rb c new ty _ hc
      refine ⟨r.rb :: T', by simp [hlt2], .inr ⟨r, vs, T', hr, hbr, ⟨new, ty, hrow, by rw [hn, hlimc]⟩, hu, hl, ?_, ?_, rfl⟩⟩
      · intro n v hv
        rw [add_row]
        simp only [World.cell?, hrow]
        simpa using hvs n v hv
      · exact hcr.tr hfz (by rw [hsz]; exact Nat.le_refl _) (fun _ _ e => e) (fun k hk => hfar k (fun e => hTr (by rw [← e]; exact hT.subset hk)))
    · rw [List.getElem?_set_ne (Ne.symm e)] at hk
      obtain ⟨S, h1, h2⟩ := h.heap k b2 hk
      exact ⟨S, by rw [List.getElem?_set_ne (Ne.symm e)]; exact h1, h2.tr hfz (by rw [hsz]; exact Nat.le_refl _) (fun _ _ e => e) (fun x hx => hfar x (fun e' => hoth k S e h1 (by rw [← e']; exact hx)))⟩
  · have := h.bound k (hsub.subset hk)
    rw [hsz]; exact this
  · refine h.fr.trans (B' := [r.rb]) ⟨rfl, rfl, rfl, by rw [hsz]; exact Nat.le_refl _, fun k _ hk => hfar k (by simpa using hk)⟩ (fun x hx => ?_)
    have : x = r.rb := by simpa using hx
    subst this
    exact (h.bound _ hmem).2

/-- A block's name changes: its content from an offset on goes to an empty place. -/
theorem Rel.move (h : Rel N w0 B0 φ Ss st a w) {id k : Nat} (hk : st.heap[k]? = some none) (hφ : φ k = none) (hSk : Ss[k]? = some []) {S : List Nat} (hS : Ss[id]? = some S) (hne : id ≠ k) (r : Option Ref) (b' : Blk) {S' : List Nat} (hS' : S'.Sublist S)
    (hB : BR w (Own Ss) (upd φ k r) k b' S') : Rel N w0 B0 (upd φ k r) ((Ss.set id []).set k S') ⟨st.env, (st.heap.set id none).set k (some b')⟩ a w := by
  have hS2 : (Ss.set id [])[k]? = some [] := by rw [List.getElem?_set_ne hne]; exact hSk
  obtain ⟨A, B, e1, e2⟩ := flatten_set hS []
  obtain ⟨A', B', f1, f2⟩ := flatten_set hS2 S'
  have hperm : ((Ss.set id []).set k S').flatten.Perm (S' ++ (A ++ B)) := by
    have : A' ++ B' = A ++ B := by simpa using f1.symm.trans e2
    rw [f2, ← this]
    exact (List.perm_append_comm_assoc ..)
  have hperm0 : Ss.flatten.Perm (S ++ (A ++ B)) := by
    rw [e1]; exact (List.perm_append_comm_assoc ..)
  have hsub : (S' ++ (A ++ B)).Sublist (S ++ (A ++ B)) := hS'.append (List.Sublist.refl _)
  have hnd : (S ++ (A ++ B)).Nodup := (hperm0.nodup_iff).1 h.nodup
  have hown : ∀ x, Own ((Ss.set id []).set k S') x → Own Ss x := fun x hx => (hperm0.mem_iff).2 (hsub.subset ((hperm.mem_iff).1 hx))
  have hfz : ∀ x, x < w.heap.size → ¬ Own Ss x → ¬ Own ((Ss.set id []).set k S') x ∧ w.heap[x]? = w.heap[x]? := fun x _ hx => ⟨fun hx' => hx (hown x hx'), rfl⟩
  have hφ' := upd_old hφ r
  refine ⟨fun t => (h.env t).tr hfz (Nat.le_refl _) hφ' (fun _ _ => rfl), fun j b2 hj => ?_, by simp [h.len], fun j hj => ?_, (hperm.nodup_iff).2 (hnd.sublist hsub), fun x hx => h.bound x (hown x hx), h.fr, h.size, h.defers, h.cx, fun i r e => hφ' _ _ (h.keep i r e)⟩
  · have hklt : k < st.heap.length := (List.getElem?_eq_some_iff.1 hk).1
    by_cases e : j = k
    · subst e
      have hb' : b2 = b' := by simp [hklt] at hj; exact hj.symm
      subst hb'
      refine ⟨S', by simp [h.len, hklt], hB.tr (fun x hx ho => ⟨fun hx' => ho (hown x hx'), rfl⟩) (Nat.le_refl _) (fun _ _ e => e) (fun _ _ => rfl)⟩
    · rw [List.getElem?_set_ne (Ne.symm e)] at hj
      by_cases e' : j = id
      · subst e'
        rw [List.getElem?_set] at hj
        split at hj
        · split at hj <;> cases hj
        · rename_i hx; exact absurd rfl hx
      · rw [List.getElem?_set_ne (Ne.symm e')] at hj
        obtain ⟨S2, h1, h2⟩ := h.heap j b2 hj
        exact ⟨S2, by rw [List.getElem?_set_ne (Ne.symm e), List.getElem?_set_ne (Ne.symm e')]; exact h1, h2.tr hfz (Nat.le_refl _) hφ' (fun _ _ => rfl)⟩
  · have hklt : k < st.heap.length := (List.getElem?_eq_some_iff.1 hk).1
    simp only [List.length_set] at hj
    unfold upd; rw [if_neg (by omega)]; exact h.fresh j hj
end
end HK
