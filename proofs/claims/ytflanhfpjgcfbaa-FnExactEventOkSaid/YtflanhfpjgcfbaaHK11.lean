/-
  My own text (road H): HK11.
-/
import Derived.Test.YtflanhfpjgcfbaaHK10
namespace HK
open Go

section
variable {P : Program} {N : Sz} {w0 : World} {B0 : Cx} {φ : Refs} {Ss : List (List Nat)} {st : St} {a : Act} {w : World}

/-- Two places at once, no real change. -/
theorem Rel.move2 (h : Rel N w0 B0 φ Ss st a w) {id k : Nat} (hk : k < st.heap.length) {Sk : List Nat} (hSk : Ss[k]? = some Sk) {S : List Nat} (hS : Ss[id]? = some S) (hne : id ≠ k) (b' : Blk) {S' : List Nat} (hS' : S'.Sublist (Sk ++ S))
    (hB : BR w (Own Ss) φ k b' S') : Rel N w0 B0 φ ((Ss.set id []).set k S') ⟨st.env, (st.heap.set id none).set k (some b')⟩ a w := by
  have hS2 : (Ss.set id [])[k]? = some Sk := by rw [List.getElem?_set_ne hne]; exact hSk
  obtain ⟨A, B, e1, e2⟩ := flatten_set hS []
  obtain ⟨A', B', f1, f2⟩ := flatten_set hS2 S'
  have hperm : ((Ss.set id []).set k S').flatten.Perm (S' ++ (A' ++ B')) := by
    rw [f2]; exact (List.perm_append_comm_assoc ..)
  have hperm0 : Ss.flatten.Perm ((Sk ++ S) ++ (A' ++ B')) := by
    rw [e1]
    refine (List.perm_append_comm_assoc ..).trans ?_
    have : (A ++ B).Perm (Sk ++ (A' ++ B')) := by
      have : A ++ B = A' ++ (Sk ++ B') := by simpa using e2.symm.trans f1
      rw [this]; exact (List.perm_append_comm_assoc ..)
    refine ((List.Perm.refl S).append this).trans ?_
    rw [List.append_assoc]
    exact (List.perm_append_comm_assoc ..)
  have hsub : (S' ++ (A' ++ B')).Sublist ((Sk ++ S) ++ (A' ++ B')) := hS'.append (List.Sublist.refl _)
  have hnd : ((Sk ++ S) ++ (A' ++ B')).Nodup := (hperm0.nodup_iff).1 h.nodup
  have hown : ∀ x, Own ((Ss.set id []).set k S') x → Own Ss x := fun x hx => (hperm0.mem_iff).2 (hsub.subset ((hperm.mem_iff).1 hx))
  have hfz : ∀ x, x < w.heap.size → ¬ Own Ss x → ¬ Own ((Ss.set id []).set k S') x ∧ w.heap[x]? = w.heap[x]? := fun x _ hx => ⟨fun hx' => hx (hown x hx'), rfl⟩
  refine ⟨fun t => (h.env t).tr hfz (Nat.le_refl _) (fun _ _ e => e) (fun _ _ => rfl), fun j b2 hj => ?_, by simp [h.len], fun j hj => h.fresh j (by simpa using hj), (hperm.nodup_iff).2 (hnd.sublist hsub), fun x hx => h.bound x (hown x hx), h.fr, h.size, h.defers, h.cx, h.keep⟩
  by_cases e : j = k
  · subst e
    have hb' : b2 = b' := by simp [hk] at hj; exact hj.symm
    subst hb'
    refine ⟨S', by simp [h.len, hk], hB.tr hfz (Nat.le_refl _) (fun _ _ e => e) (fun _ _ => rfl)⟩
  · rw [List.getElem?_set_ne (Ne.symm e)] at hj
    by_cases e' : j = id
    · subst e'
      rw [List.getElem?_set] at hj
      split at hj
      · split at hj <;> cases hj
      · rename_i hx; exact absurd rfl hx
    · rw [List.getElem?_set_ne (Ne.symm e')] at hj
      obtain ⟨S2, h1, h2⟩ := h.heap j b2 hj
      exact ⟨S2, by rw [List.getElem?_set_ne (Ne.symm e), List.getElem?_set_ne (Ne.symm e')]; exact h1, h2.tr hfz (Nat.le_refl _) (fun _ _ e => e) (fun _ _ => rfl)⟩

/-- A name is given up. -/
theorem Rel.kill (h : Rel N w0 B0 φ Ss st a w) (id : Nat) : Rel N w0 B0 φ Ss ⟨st.env, st.heap.set id none⟩ a w := by
  refine ⟨h.env, fun k b hk => ?_, by simp [h.len], fun k hk => h.fresh k (by simpa using hk), h.nodup, h.bound, h.fr, h.size, h.defers, h.cx, h.keep⟩
  by_cases e : k = id
  · subst e
    rw [List.getElem?_set] at hk
    split at hk
    · split at hk <;> cases hk
    · rename_i hx; exact absurd rfl hx
  · rw [List.getElem?_set_ne (Ne.symm e)] at hk
    exact h.heap k b hk

/-- A name for a slice without cells. -/
theorem Rel.null (h : Rel N w0 B0 φ Ss st a w) {k : Nat} (hk : st.heap[k]? = some none) (hφ : φ k = none) (hSk : Ss[k]? = some []) (sz : Nat) :
    Rel N w0 B0 (upd φ k none) Ss ⟨st.env, st.heap.set k (some ⟨sz, []⟩)⟩ a w := by
  have hφ' := upd_old hφ none
  have hfz : ∀ x, x < w.heap.size → ¬ Own Ss x → ¬ Own Ss x ∧ w.heap[x]? = w.heap[x]? := fun x _ hx => ⟨hx, rfl⟩
  have hklt : k < st.heap.length := (List.getElem?_eq_some_iff.1 hk).1
  refine ⟨fun t => (h.env t).tr hfz (Nat.le_refl _) hφ' (fun _ _ => rfl), fun j b hj => ?_, by simp [h.len], fun j hj => ?_, h.nodup, h.bound, h.fr, h.size, h.defers, h.cx, fun i r e => hφ' _ _ (h.keep i r e)⟩
  · by_cases e : j = k
    · subst e
      have hb' : b = ⟨sz, []⟩ := by simp [hklt] at hj; exact hj.symm
      subst hb'
      exact ⟨[], hSk, .inl ⟨by unfold upd; rw [if_pos rfl], rfl, rfl⟩⟩
    · rw [List.getElem?_set_ne (Ne.symm e)] at hj
      obtain ⟨S, h1, h2⟩ := h.heap j b hj
      exact ⟨S, h1, h2.tr hfz (Nat.le_refl _) hφ' (fun _ _ => rfl)⟩
  · simp only [List.length_set] at hj
    unfold upd; rw [if_neg (by omega)]; exact h.fresh j hj

/-! ### operations that make a block -/
def tzero (P : Program) (t : TypeId) : Option (List AV) := match P.info? t with
  | some i => match i.zero with | some z => some (z.cells.toList.map absC) | none => none
  | none => none
def tzeroE (P : Program) (t : TypeId) : Option (Nat × Nat × List AV) := match P.underlying t with
  | some (.slice e) => match P.info? e with
    | some i => match i.zero with
      | some z => if z.cells.size = i.size then some (i.size, i.bytes, z.cells.toList.map absC) else none
      | none => none
    | none => none
  | _ => none
structure AR where
  ok : Prop
  blk : Blk
  sl : Option Nat
def AR.val (r : AR) (n : Nat) : AV := match r.sl with | none => .ptr n 0 0 | some l => .sl n 0 l
def badA : AR := ⟨False, ⟨0, []⟩, none⟩
def fillE (sz : Nat) : List (List AV) → List (Nat × AV) → Option (List (List AV))
  | es, [] => some es
  | es, (i, v) :: rest => match cellsA v with
    | some xs => if xs.length = sz ∧ i < es.length then fillE sz (es.set i xs) rest else none
    | none => none
def evA (P : Program) (ρ : Operand → AV) : Op → AR
  | .alloc t => match tzero P t with
    | some z => ⟨True, ⟨z.length, [z]⟩, none⟩
    | none => badA
  | .box _ x => match cellsA (st1 (ρ x)) with
    | some cs => ⟨gk (ρ x), ⟨cs.length, [cs]⟩, none⟩
    | none => badA
  | .buildSlice t len parts => match tzeroE P t with
    | some (sz, _, z) => match fillE sz (List.replicate len z) (parts.toList.map fun p => (p.1, st1 (ρ p.2))) with
      | some es => ⟨allGk ρ (parts.toList.map (·.2)) ∧ len * sz ≤ 16777216, ⟨sz, es⟩, some len⟩
      | none => badA
    | none => badA
  | .makeSlice t l c => match tzeroE P t, st1 (ρ l), st1 (ρ c) with
    | some (sz, bytes, z), .int _ n, .int _ m => ⟨gk (ρ l) ∧ gk (ρ c) ∧ 0 ≤ n ∧ n ≤ m ∧ m ≤ 140737488355328 ∧ bytes * m ≤ 281474976710656, ⟨sz, List.replicate n.toNat z⟩, some n.toNat⟩
    | _, _, _ => badA
  | _ => badA

/-- What such an operation does to the world. -/
def Made (w w' : World) (own : Nat → Prop) (φ : Refs) (b : Blk) (s : Option Nat) (y : Value) : Prop :=
  ∃ c T vs, w'.heap = w.heap.push (.cells c T (0, 0)) ∧ w'.os = w.os ∧ w'.tape = w.tape ∧ w'.output = w.output ∧ (∀ e ∈ b.es, e.length = b.sz) ∧ b.es.length * b.sz ≤ c.size ∧
    (∀ (n : Nat) (v : Value), vs[n]? = some v → c[n]? = some v) ∧ CR w own φ b.es.flatten vs [] ∧
    match s with
    | none => y = .pointer (some ⟨w.heap.size, 0, none⟩)
    | some l => ∃ cap, y = .slice (some ⟨w.heap.size, 0, none⟩) l cap ∧ l ≤ cap ∧ cap * b.sz ≤ c.size

theorem splice_flat {sz : Nat} {es : List (List AV)} (hu : ∀ e ∈ es, e.length = sz) {i : Nat} (hi : i < es.length) {xs : List AV} (hx : xs.length = sz) :
    (es.set i xs).flatten = splice es.flatten (i * sz) xs := by
  obtain ⟨h1, h2, h3⟩ := flat_split hu hi
  rw [flat_set hi]
  conv => rhs; rw [h1]
  unfold splice
  have e1 : List.take (i * sz) ((es.take i).flatten ++ (es.getD i [] ++ (es.drop (i + 1)).flatten)) = (es.take i).flatten := by rw [← h2, List.take_left]
  have e2 : List.drop (i * sz + xs.length) ((es.take i).flatten ++ (es.getD i [] ++ (es.drop (i + 1)).flatten)) = (es.drop (i + 1)).flatten := by
    have hl : ((es.take i).flatten ++ es.getD i []).length = i * sz + xs.length := by rw [List.length_append, h2, h3, hx]
    rw [← List.append_assoc, ← hl, List.drop_left]
  rw [e1, e2]

theorem fillE_spec {sz : Nat} : ∀ {ps : List (Nat × AV)} {es es' : List (List AV)}, (∀ e ∈ es, e.length = sz) → fillE sz es ps = some es' →
    fillV (fun i => some (i * sz, sz)) es.flatten ps = some es'.flatten ∧ (∀ e ∈ es', e.length = sz) ∧ es'.length = es.length
  | [], es, es', hu, h => by simp [fillE] at h; subst h; exact ⟨rfl, hu, rfl⟩
  | (i, v) :: ps, es, es', hu, h => by
    simp only [fillE] at h
    cases hc : cellsA v with
    | none => simp [hc] at h
    | some xs =>
      simp only [hc] at h
      split at h
      · rename_i hx
        have hu' : ∀ e ∈ es.set i xs, e.length = sz := fun e he => by
          rcases List.mem_or_eq_of_mem_set he with he | rfl
          · exact hu e he
          · exact hx.1
        obtain ⟨h1, h2, h3⟩ := fillE_spec hu' h
        have hle : i * sz + sz ≤ es.flatten.length := by
          rw [flat_length hu]
          have : (i + 1) * sz ≤ es.length * sz := Nat.mul_le_mul_right _ hx.2
          rw [Nat.add_mul] at this; omega
        refine ⟨?_, h2, by simpa using h3⟩
        simp only [fillV, hc]
        rw [if_pos ⟨hx.1, hle⟩, ← splice_flat hu hx.2 hx.1]
        exact h1
      · cases h
end
end HK
