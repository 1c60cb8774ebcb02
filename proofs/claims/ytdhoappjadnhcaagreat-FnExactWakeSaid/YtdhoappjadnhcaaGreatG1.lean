import Derived.Test.YtdhoappjadnhcaaGreatG0
/-
  My own texts (road H): HK9 HK10 HK11 HK12 HK13 HK14 HK15 HK16 HK17 HKC HK18 HK19 HK20 HK21.
-/
set_option maxHeartbeats 8000000
namespace HK
open Go
structure St where
  env : Env
  heap : Heap
abbrev Own (Ss : List (List Nat)) : Nat → Prop := fun b => b ∈ Ss.flatten
structure Fr (w0 : World) (B0 : List Nat) (w : World) : Prop where
  os : w.os = w0.os
  tape : w.tape = w0.tape
  output : w.output = w0.output
  size : w0.heap.size ≤ w.heap.size
  block : ∀ b, b < w0.heap.size → b ∉ B0 → w.heap[b]? = w0.heap[b]?
theorem Fr.refl (w : World) (B : List Nat) : Fr w B w := ⟨rfl, rfl, rfl, Nat.le_refl _, fun _ _ _ => rfl⟩
theorem Fr.trans {a b c : World} {B B' : List Nat} (h : Fr a B b) (k : Fr b B' c) (hB : ∀ x ∈ B', x ∈ B ∨ a.heap.size ≤ x) : Fr a B c :=
  ⟨k.os.trans h.os, k.tape.trans h.tape, k.output.trans h.output, Nat.le_trans h.size k.size, fun x h1 h2 =>
    (k.block x (Nat.lt_of_lt_of_le h1 h.size) (fun h3 => by rcases hB x h3 with h4 | h4 <;> first | exact h2 h4 | omega)).trans (h.block x h1 h2)⟩
structure Sz where
  n : Nat
  b : Nat
structure Cx where
  l : List Nat
  φ : Refs
structure Rel (N : Sz) (w0 : World) (B0 : Cx) (φ : Refs) (Ss : List (List Nat)) (st : St) (a : Act) (w : World) : Prop where
  env : ∀ t, VR w (Own Ss) φ (lk st.env t) (a.tmps.getD t Go.undef) []
  heap : HR w (Own Ss) φ st.heap Ss
  len : Ss.length = st.heap.length
  fresh : ∀ id, st.heap.length ≤ id → φ id = none
  nodup : Ss.flatten.Nodup
  bound : ∀ b ∈ Ss.flatten, b < w.heap.size ∧ (b ∈ B0.l ∨ w0.heap.size ≤ b)
  fr : Fr w0 B0.l w
  size : a.tmps.size = N.n
  defers : a.defers = []
  cx : ∀ id, N.b ≤ id → B0.φ id = none
  keep : ∀ id r, B0.φ id = some r → φ id = some r
def putE (env : Env) (d : Option Tmp) (v : AV) : Env := match d with | some d => (d, v) :: env | none => env
def dOk (N : Sz) : Option Tmp → Bool
  | some d => decide (d < N.n)
  | none => true
section
variable {P : Program} {N : Sz} {w0 : World} {B0 : Cx} {φ : Refs} {Ss : List (List Nat)} {st : St} {a : Act} {w : World}
theorem Rel.put (h : Rel N w0 B0 φ Ss st a w) {d : Option Tmp} (hd : dOk N d = true) {v : AV} {x : Value} (hv : VR w (Own Ss) φ v x []) :
    Rel N w0 B0 φ Ss ⟨putE st.env d v, st.heap⟩ (a.put d x) w := by
  cases d with
  | none => exact h
  | some d =>
    simp only [dOk, decide_eq_true_eq] at hd; refine ⟨fun t => ?_, h.heap, h.len, h.fresh, h.nodup, h.bound, h.fr, by simp [Act.put, h.size], h.defers, h.cx, h.keep⟩; simp only [putE, lk, Act.put]; by_cases e : t = d
    · subst e
      rw [if_pos rfl]
      have : (a.tmps.setIfInBounds t x).getD t Go.undef = x := by
        simp [Array.getD_eq_getD_getElem?, h.size, hd]
      rw [this]; exact hv
    · rw [if_neg e]
      have : (a.tmps.setIfInBounds d x).getD t Go.undef = a.tmps.getD t Go.undef := by
        simp [Array.getD_eq_getD_getElem?, Ne.symm e]
      rw [this]; exact h.env t
theorem Rel.drew (h : Rel N w0 B0 φ Ss st a w) (n : Nat) : Rel N w0 B0 φ Ss st a { w with drawn := n } := by
  have hb : ∀ b : Nat, ({ w with drawn := n } : World).heap[b]? = w.heap[b]? := fun _ => rfl
  refine ⟨fun t => (h.env t).tr (fun b _ ho => ⟨ho, hb b⟩) (Nat.le_refl _) (fun _ _ e => e) (fun b _ => hb b), fun id b hid => ?_, h.len, h.fresh, h.nodup, h.bound, ⟨h.fr.os, h.fr.tape, h.fr.output, h.fr.size, h.fr.block⟩, h.size, h.defers, h.cx, h.keep⟩
  obtain ⟨S, h1, h2⟩ := h.heap id b hid; exact ⟨S, h1, h2.tr (fun b _ ho => ⟨ho, hb b⟩) (Nat.le_refl _) (fun _ _ e => e) (fun b _ => hb b)⟩
theorem Rel.slot (h : Rel N w0 B0 φ Ss st a w) : Rel N w0 B0 φ (Ss ++ [[]]) ⟨st.env, st.heap ++ [none]⟩ a w := by
  have e : (Ss ++ [[]]).flatten = Ss.flatten := by simp
  refine ⟨fun t => ?_, fun id b hid => ?_, by simp [h.len], fun id hid => h.fresh id (by simp at hid; omega), by rw [e]; exact h.nodup, by rw [e]; exact h.bound, h.fr, h.size, h.defers, h.cx, h.keep⟩
  · have := h.env t
    unfold Own at this ⊢; rw [e]; exact this
  · have hlt : id < st.heap.length := by
      rcases Nat.lt_or_ge id st.heap.length with h1 | h1
      · exact h1
      · rw [List.getElem?_append_right h1] at hid
        cases hk : id - st.heap.length with
        | zero => rw [hk] at hid; simp at hid
        | succ n => rw [hk] at hid; simp at hid
    rw [List.getElem?_append_left hlt] at hid; obtain ⟨S, h1, h2⟩ := h.heap id b hid; refine ⟨S, by rw [List.getElem?_append_left (by rw [h.len]; exact hlt)]; exact h1, ?_⟩; unfold Own at h2 ⊢; rw [e]; exact h2
theorem flatten_set {α : Type} {l : List (List α)} {id : Nat} {S : List α} (h : l[id]? = some S) (S' : List α) : ∃ A B, l.flatten = A ++ (S ++ B) ∧ (l.set id S').flatten = A ++ (S' ++ B) := by
  have hlt : id < l.length := (List.getElem?_eq_some_iff.1 h).1
  have he : l[id] = S := (List.getElem?_eq_some_iff.1 h).2
  refine ⟨(l.take id).flatten, (l.drop (id + 1)).flatten, ?_, ?_⟩
  · have : l = l.take id ++ (S :: l.drop (id + 1)) := by
      rw [← he, List.getElem_cons_drop, List.take_append_drop]
    conv => lhs; rw [this]
    simp
  · rw [List.set_eq_take_append_cons_drop, if_pos hlt]; simp
def upd (φ : Refs) (id : Nat) (r : Option Ref) : Refs := fun k => if k = id then some r else φ k
theorem upd_old {φ : Refs} {id : Nat} (h : φ id = none) (r : Option Ref) : ∀ k x, φ k = some x → upd φ id r k = some x := by
  intro k x hk; unfold upd; split
  · rename_i e; subst e; rw [h] at hk; cases hk
  · exact hk
theorem Rel.new (h : Rel N w0 B0 φ Ss st a w) {id : Nat} (hid : st.heap[id]? = some none) (hφ : φ id = none) (hS : Ss[id]? = some []) {w' : World} {c : Array Value} {T : TypeId}
    (hw : w'.heap = w.heap.push (.cells c T (0, 0))) (hos : w'.os = w.os) (htape : w'.tape = w.tape) (hout : w'.output = w.output) (b : Blk) (hu : ∀ e ∈ b.es, e.length = b.sz) (hl : b.es.length * b.sz ≤ c.size)
    {vs : List Value} (hvs : ∀ (n : Nat) (v : Value), vs[n]? = some v → c[n]? = some v) (hc : CR w (Own Ss) φ b.es.flatten vs []) :
    Rel N w0 B0 (upd φ id (some ⟨w.heap.size, 0, c.size, b.sz⟩)) (Ss.set id [w.heap.size]) ⟨st.env, st.heap.set id (some b)⟩ a w' := by
  obtain ⟨A, B, e1, e2⟩ := flatten_set hS [w.heap.size]; simp only [List.nil_append] at e1
  have hold : ∀ b, b < w.heap.size → w'.heap[b]? = w.heap[b]? := fun b hb => by
    rw [hw, Array.getElem?_push, if_neg (by omega)]
  have hnew : w'.heap[w.heap.size]? = some (.cells c T (0, 0)) := by rw [hw]; simp
  have hsz : w.heap.size ≤ w'.heap.size := by rw [hw]; simp
  have hfz : ∀ b, b < w.heap.size → ¬ Own Ss b → ¬ Own (Ss.set id [w.heap.size]) b ∧ w'.heap[b]? = w.heap[b]? := fun b hb ho => by
    refine ⟨?_, hold b hb⟩; unfold Own at ho ⊢; rw [e1] at ho; rw [e2]; simp at ho ⊢; exact ⟨ho.1, by omega, ho.2⟩
  have hφ' := upd_old hφ (some ⟨w.heap.size, 0, c.size, b.sz⟩)
  have hin : ∀ b ∈ Ss.flatten, w'.heap[b]? = w.heap[b]? := fun b hb => hold b (h.bound b hb).1
  refine ⟨fun t => (h.env t).tr hfz hsz hφ' (fun b hb => by cases hb), fun k b' hk => ?_, by simp [h.len], fun k hk => ?_, ?_, ?_, ?_, h.size, h.defers, h.cx, fun i r e => hφ' _ _ (h.keep i r e)⟩
  · by_cases e : k = id
    · subst e
      have hlt : k < st.heap.length := (List.getElem?_eq_some_iff.1 hid).1
      have hb' : b' = b := by simp [hlt] at hk; exact hk.symm
      subst hb'; have hlt2 : k < Ss.length := by rw [h.len]; exact hlt
      refine ⟨[w.heap.size], by simp [hlt2], .inr ⟨_, vs, [], by unfold upd; rw [if_pos rfl], rfl, ⟨c, T, hnew, rfl⟩, hu, by simpa using hl, ?_, ?_, rfl⟩⟩
      · intro n v hv
        rw [add_row]; simp only [World.cell?, hnew, Nat.zero_add]
        simpa using hvs n v hv
      · exact hc.tr hfz hsz hφ' (fun b hb => by cases hb)
    · rw [List.getElem?_set_ne (Ne.symm e)] at hk
      obtain ⟨S, h1, h2⟩ := h.heap k b' hk; refine ⟨S, by rw [List.getElem?_set_ne (Ne.symm e)]; exact h1, h2.tr hfz hsz hφ' (fun b hb => hin b ?_)⟩; exact List.mem_flatten.2 ⟨S, List.mem_of_getElem? h1, hb⟩
  · have hlt : id < st.heap.length := (List.getElem?_eq_some_iff.1 hid).1
    simp only [List.length_set] at hk; unfold upd; rw [if_neg (by omega)]; exact h.fresh k hk
  · have hn := h.nodup
    have hb := h.bound
    rw [e1] at hn hb; rw [e2]; have h1 : w.heap.size ∉ A ++ B := fun hm => by have := (hb _ hm).1; omega
    rw [List.nodup_append] at hn ⊢; simp at h1; refine ⟨hn.1, ?_, ?_⟩
    · simp [h1.2, hn.2.1]
    · intro x hx y hy
      simp at hy; rcases hy with rfl | hy
      · intro e; subst e; exact h1.1 hx
      · exact hn.2.2 x hx y hy
  · intro b hb
    rw [e2] at hb; have hb1 := h.bound
    rw [e1] at hb1; simp at hb; have hf := h.fr.size
    rcases hb with hb | rfl | hb
    · have := hb1 b (by simp [hb]); exact ⟨by omega, this.2⟩
    · refine ⟨by rw [hw]; simp, .inr hf⟩
    · have := hb1 b (by simp [hb]); exact ⟨by omega, this.2⟩
  · exact h.fr.trans (B' := []) ⟨hos, htape, hout, hsz, fun b hb _ => hold b hb⟩ (fun x hx => by cases hx)
end
end HK
namespace HK
open Go
section
variable {P : Program} {N : Sz} {w0 : World} {B0 : Cx} {φ : Refs} {Ss : List (List Nat)} {st : St} {a : Act} {w : World}
theorem hb_spec {h : Heap} {id : Nat} {b : Blk} (e : hb h id = some b) : h[id]? = some (some b) := by
  unfold hb at e; split at e <;> simp_all
theorem setRow_far (w : World) (g : Nat) (c : Array Value) {k : Nat} (hk : k ≠ g) : (w.setRow g c).heap[k]? = w.heap[k]? := by
  unfold World.setRow; rw [Array.getElem?_modify, if_neg (Ne.symm hk)]
theorem Rel.row (h : Rel N w0 B0 φ Ss st a w) {id : Nat} {b : Blk} (hid : st.heap[id]? = some (some b)) {r : Ref} (hr : φ id = some (some r)) {T : List Nat} (hS : Ss[id]? = some (r.rb :: T))
    {c new : Array Value} {ty : TypeId} (hc : w.heap[r.rb]? = some (.cells c ty (0, 0))) (hlimc : c.size = r.lim) (hn : new.size = c.size) (b' : Blk) (hbr : r.sz = b'.sz) (hu : ∀ e ∈ b'.es, e.length = b'.sz) (hl : r.base + b'.es.length * b'.sz ≤ r.lim)
    {vs : List Value} (hvs : ∀ (n : Nat) (v : Value), vs[n]? = some v → new[r.base + n]? = some v) {T' : List Nat} (hcr : CR w (Own Ss) φ b'.es.flatten vs T') (hT : T'.Sublist T) :
    Rel N w0 B0 φ (Ss.set id (r.rb :: T')) ⟨st.env, st.heap.set id (some b')⟩ a (w.setRow r.rb new) := by
  obtain ⟨A, B, e1, e2⟩ := flatten_set hS (r.rb :: T')
  have hsub : (Ss.set id (r.rb :: T')).flatten.Sublist Ss.flatten := by
    rw [e1, e2]; exact (List.Sublist.refl A).append ((List.Sublist.cons_cons _ hT).append (List.Sublist.refl B))
  have hmem : r.rb ∈ Ss.flatten := by rw [e1]; simp
  have hfar : ∀ k, k ≠ r.rb → (w.setRow r.rb new).heap[k]? = w.heap[k]? := fun k hk => setRow_far w r.rb new hk
  have hown : ∀ k, ¬ Own Ss k → ¬ Own (Ss.set id (r.rb :: T')) k := fun k hk hk' => hk (hsub.subset hk')
  have hfz : ∀ k, k < w.heap.size → ¬ Own Ss k → ¬ Own (Ss.set id (r.rb :: T')) k ∧ (w.setRow r.rb new).heap[k]? = w.heap[k]? := fun k _ hk =>
    ⟨hown k hk, hfar k (fun e => hk (by rw [e]; exact hmem))⟩
  have hsz : (w.setRow r.rb new).heap.size = w.heap.size := by simp [World.setRow]
  have hnd := h.nodup
  rw [e1] at hnd
  have hTr : r.rb ∉ T := by
    rw [List.nodup_append] at hnd; have := hnd.2.1
    rw [List.cons_append, List.nodup_cons] at this; exact fun hm => this.1 (List.mem_append_left _ hm)
  have hoth : ∀ k S, k ≠ id → Ss[k]? = some S → r.rb ∉ S := by
    intro k S hk hSk hm; obtain ⟨A', B', f1, f2⟩ := flatten_set (l := Ss.set id []) (id := k) (S := S) (by rw [List.getElem?_set_ne (Ne.symm hk)]; exact hSk) []; obtain ⟨A2, B2, g1, g2⟩ := flatten_set hS []
    have h1 : r.rb ∈ (Ss.set id []).flatten := by rw [f1]; simp [hm]
    rw [g2] at h1; have h2 := h.nodup
    rw [g1, List.nodup_append] at h2; simp at h1; rcases h1 with h1 | h1
    · exact h2.2.2 _ h1 r.rb (by simp) rfl
    · have := h2.2.1
      rw [List.cons_append, List.nodup_cons] at this; exact this.1 (by simp [h1])
  refine ⟨fun t => (h.env t).tr hfz (by rw [hsz]; exact Nat.le_refl _) (fun _ _ e => e) (fun b hb => by cases hb), fun k b2 hk => ?_, by simp [h.len], fun k hk => h.fresh k (by simpa using hk), h.nodup.sublist hsub, fun k hk => ?_, ?_, h.size, h.defers, h.cx, h.keep⟩
  · by_cases e : k = id
    · subst e
      have hlt : k < st.heap.length := (List.getElem?_eq_some_iff.1 hid).1
      have hb' : b2 = b' := by simp [hlt] at hk; exact hk.symm
      subst hb'; have hlt2 : k < Ss.length := by rw [h.len]; exact hlt
      have hrow : (w.setRow r.rb new).heap[r.rb]? = some (.cells new ty (0, 0)) := setRow_heap w r.rb c new ty _ hc
      refine ⟨r.rb :: T', by simp [hlt2], .inr ⟨r, vs, T', hr, hbr, ⟨new, ty, hrow, by rw [hn, hlimc]⟩, hu, hl, ?_, ?_, rfl⟩⟩
      · intro n v hv
        rw [add_row]; simp only [World.cell?, hrow]
        simpa using hvs n v hv
      · exact hcr.tr hfz (by rw [hsz]; exact Nat.le_refl _) (fun _ _ e => e) (fun k hk => hfar k (fun e => hTr (by rw [← e]; exact hT.subset hk)))
    · rw [List.getElem?_set_ne (Ne.symm e)] at hk
      obtain ⟨S, h1, h2⟩ := h.heap k b2 hk; exact ⟨S, by rw [List.getElem?_set_ne (Ne.symm e)]; exact h1, h2.tr hfz (by rw [hsz]; exact Nat.le_refl _) (fun _ _ e => e) (fun x hx => hfar x (fun e' => hoth k S e h1 (by rw [← e']; exact hx)))⟩
  · have := h.bound k (hsub.subset hk)
    rw [hsz]; exact this
  · refine h.fr.trans (B' := [r.rb]) ⟨rfl, rfl, rfl, by rw [hsz]; exact Nat.le_refl _, fun k _ hk => hfar k (by simpa using hk)⟩ (fun x hx => ?_)
    have : x = r.rb := by simpa using hx
    subst this; exact (h.bound _ hmem).2
theorem Rel.move (h : Rel N w0 B0 φ Ss st a w) {id k : Nat} (hk : st.heap[k]? = some none) (hφ : φ k = none) (hSk : Ss[k]? = some []) {S : List Nat} (hS : Ss[id]? = some S) (hne : id ≠ k) (r : Option Ref) (b' : Blk) {S' : List Nat} (hS' : S'.Sublist S)
    (hB : BR w (Own Ss) (upd φ k r) k b' S') : Rel N w0 B0 (upd φ k r) ((Ss.set id []).set k S') ⟨st.env, (st.heap.set id none).set k (some b')⟩ a w := by
  have hS2 : (Ss.set id [])[k]? = some [] := by rw [List.getElem?_set_ne hne]; exact hSk
  obtain ⟨A, B, e1, e2⟩ := flatten_set hS []; obtain ⟨A', B', f1, f2⟩ := flatten_set hS2 S'
  have hperm : ((Ss.set id []).set k S').flatten.Perm (S' ++ (A ++ B)) := by
    have : A' ++ B' = A ++ B := by simpa using f1.symm.trans e2
    rw [f2, ← this]; exact (List.perm_append_comm_assoc ..)
  have hperm0 : Ss.flatten.Perm (S ++ (A ++ B)) := by
    rw [e1]; exact (List.perm_append_comm_assoc ..)
  have hsub : (S' ++ (A ++ B)).Sublist (S ++ (A ++ B)) := hS'.append (List.Sublist.refl _)
  have hnd : (S ++ (A ++ B)).Nodup := (hperm0.nodup_iff).1 h.nodup
  have hown : ∀ x, Own ((Ss.set id []).set k S') x → Own Ss x := fun x hx => (hperm0.mem_iff).2 (hsub.subset ((hperm.mem_iff).1 hx))
  have hfz : ∀ x, x < w.heap.size → ¬ Own Ss x → ¬ Own ((Ss.set id []).set k S') x ∧ w.heap[x]? = w.heap[x]? := fun x _ hx => ⟨fun hx' => hx (hown x hx'), rfl⟩
  have hφ' := upd_old hφ r
  refine ⟨fun t => (h.env t).tr hfz (Nat.le_refl _) hφ' (fun _ _ => rfl), fun j b2 hj => ?_, by simp [h.len], fun j hj => ?_, (hperm.nodup_iff).2 (hnd.sublist hsub), fun x hx => h.bound x (hown x hx), h.fr, h.size, h.defers, h.cx, fun i r e => hφ' _ _ (h.keep i r e)⟩
  · have hklt : k < st.heap.length := (List.getElem?_eq_some_iff.1 hk).1
    by_cases e : j = k
    · subst e
      have hb' : b2 = b' := by simp [hklt] at hj; exact hj.symm
      subst hb'; refine ⟨S', by simp [h.len, hklt], hB.tr (fun x hx ho => ⟨fun hx' => ho (hown x hx'), rfl⟩) (Nat.le_refl _) (fun _ _ e => e) (fun _ _ => rfl)⟩
    · rw [List.getElem?_set_ne (Ne.symm e)] at hj
      by_cases e' : j = id
      · subst e'
        rw [List.getElem?_set] at hj; split at hj
        · split at hj <;> cases hj
        · rename_i hx; exact absurd rfl hx
      · rw [List.getElem?_set_ne (Ne.symm e')] at hj
        obtain ⟨S2, h1, h2⟩ := h.heap j b2 hj; exact ⟨S2, by rw [List.getElem?_set_ne (Ne.symm e), List.getElem?_set_ne (Ne.symm e')]; exact h1, h2.tr hfz (Nat.le_refl _) hφ' (fun _ _ => rfl)⟩
  · have hklt : k < st.heap.length := (List.getElem?_eq_some_iff.1 hk).1
    simp only [List.length_set] at hj; unfold upd; rw [if_neg (by omega)]; exact h.fresh j hj
end
end HK
namespace HK
open Go
section
variable {P : Program} {N : Sz} {w0 : World} {B0 : Cx} {φ : Refs} {Ss : List (List Nat)} {st : St} {a : Act} {w : World}
theorem Rel.move2 (h : Rel N w0 B0 φ Ss st a w) {id k : Nat} (hk : k < st.heap.length) {Sk : List Nat} (hSk : Ss[k]? = some Sk) {S : List Nat} (hS : Ss[id]? = some S) (hne : id ≠ k) (b' : Blk) {S' : List Nat} (hS' : S'.Sublist (Sk ++ S))
    (hB : BR w (Own Ss) φ k b' S') : Rel N w0 B0 φ ((Ss.set id []).set k S') ⟨st.env, (st.heap.set id none).set k (some b')⟩ a w := by
  have hS2 : (Ss.set id [])[k]? = some Sk := by rw [List.getElem?_set_ne hne]; exact hSk
  obtain ⟨A, B, e1, e2⟩ := flatten_set hS []; obtain ⟨A', B', f1, f2⟩ := flatten_set hS2 S'
  have hperm : ((Ss.set id []).set k S').flatten.Perm (S' ++ (A' ++ B')) := by
    rw [f2]; exact (List.perm_append_comm_assoc ..)
  have hperm0 : Ss.flatten.Perm ((Sk ++ S) ++ (A' ++ B')) := by
    rw [e1]; refine (List.perm_append_comm_assoc ..).trans ?_
    have : (A ++ B).Perm (Sk ++ (A' ++ B')) := by
      have : A ++ B = A' ++ (Sk ++ B') := by simpa using e2.symm.trans f1
      rw [this]; exact (List.perm_append_comm_assoc ..)
    refine ((List.Perm.refl S).append this).trans ?_; rw [List.append_assoc]; exact (List.perm_append_comm_assoc ..)
  have hsub : (S' ++ (A' ++ B')).Sublist ((Sk ++ S) ++ (A' ++ B')) := hS'.append (List.Sublist.refl _)
  have hnd : ((Sk ++ S) ++ (A' ++ B')).Nodup := (hperm0.nodup_iff).1 h.nodup
  have hown : ∀ x, Own ((Ss.set id []).set k S') x → Own Ss x := fun x hx => (hperm0.mem_iff).2 (hsub.subset ((hperm.mem_iff).1 hx))
  have hfz : ∀ x, x < w.heap.size → ¬ Own Ss x → ¬ Own ((Ss.set id []).set k S') x ∧ w.heap[x]? = w.heap[x]? := fun x _ hx => ⟨fun hx' => hx (hown x hx'), rfl⟩
  refine ⟨fun t => (h.env t).tr hfz (Nat.le_refl _) (fun _ _ e => e) (fun _ _ => rfl), fun j b2 hj => ?_, by simp [h.len], fun j hj => h.fresh j (by simpa using hj), (hperm.nodup_iff).2 (hnd.sublist hsub), fun x hx => h.bound x (hown x hx), h.fr, h.size, h.defers, h.cx, h.keep⟩
  by_cases e : j = k
  · subst e
    have hb' : b2 = b' := by simp [hk] at hj; exact hj.symm
    subst hb'; refine ⟨S', by simp [h.len, hk], hB.tr hfz (Nat.le_refl _) (fun _ _ e => e) (fun _ _ => rfl)⟩
  · rw [List.getElem?_set_ne (Ne.symm e)] at hj
    by_cases e' : j = id
    · subst e'
      rw [List.getElem?_set] at hj; split at hj
      · split at hj <;> cases hj
      · rename_i hx; exact absurd rfl hx
    · rw [List.getElem?_set_ne (Ne.symm e')] at hj
      obtain ⟨S2, h1, h2⟩ := h.heap j b2 hj; exact ⟨S2, by rw [List.getElem?_set_ne (Ne.symm e), List.getElem?_set_ne (Ne.symm e')]; exact h1, h2.tr hfz (Nat.le_refl _) (fun _ _ e => e) (fun _ _ => rfl)⟩
theorem Rel.kill (h : Rel N w0 B0 φ Ss st a w) (id : Nat) : Rel N w0 B0 φ Ss ⟨st.env, st.heap.set id none⟩ a w := by
  refine ⟨h.env, fun k b hk => ?_, by simp [h.len], fun k hk => h.fresh k (by simpa using hk), h.nodup, h.bound, h.fr, h.size, h.defers, h.cx, h.keep⟩; by_cases e : k = id
  · subst e
    rw [List.getElem?_set] at hk; split at hk
    · split at hk <;> cases hk
    · rename_i hx; exact absurd rfl hx
  · rw [List.getElem?_set_ne (Ne.symm e)] at hk
    exact h.heap k b hk
theorem Rel.null (h : Rel N w0 B0 φ Ss st a w) {k : Nat} (hk : st.heap[k]? = some none) (hφ : φ k = none) (hSk : Ss[k]? = some []) (sz : Nat) :
    Rel N w0 B0 (upd φ k none) Ss ⟨st.env, st.heap.set k (some ⟨sz, []⟩)⟩ a w := by
  have hφ' := upd_old hφ none
  have hfz : ∀ x, x < w.heap.size → ¬ Own Ss x → ¬ Own Ss x ∧ w.heap[x]? = w.heap[x]? := fun x _ hx => ⟨hx, rfl⟩
  have hklt : k < st.heap.length := (List.getElem?_eq_some_iff.1 hk).1
  refine ⟨fun t => (h.env t).tr hfz (Nat.le_refl _) hφ' (fun _ _ => rfl), fun j b hj => ?_, by simp [h.len], fun j hj => ?_, h.nodup, h.bound, h.fr, h.size, h.defers, h.cx, fun i r e => hφ' _ _ (h.keep i r e)⟩
  · by_cases e : j = k
    · subst e
      have hb' : b = ⟨sz, []⟩ := by simp [hklt] at hj; exact hj.symm
      subst hb'; exact ⟨[], hSk, .inl ⟨by unfold upd; rw [if_pos rfl], rfl, rfl⟩⟩
    · rw [List.getElem?_set_ne (Ne.symm e)] at hj
      obtain ⟨S, h1, h2⟩ := h.heap j b hj; exact ⟨S, h1, h2.tr hfz (Nat.le_refl _) hφ' (fun _ _ => rfl)⟩
  · simp only [List.length_set] at hj
    unfold upd; rw [if_neg (by omega)]; exact h.fresh j hj
def tzero (P : Program) (t : TypeId) : Option (List AV) := match P.info? t with
  | some i => match i.zero with | some z => some (z.cells.toList.map absC) | none => none
  | none => none
def tzeroE (P : Program) (t : TypeId) : Option (Nat × Nat × List AV) := match P.underlying t with
  | some (.slice e) => match P.info? e with
    | some i => match i.zero with
      | some z => if z.cells.size = i.size then some (i.size, i.bytes, z.cells.toList.map absC) else none
      | none => none
    | none => none
  | _ => none
structure AR where
  ok : Prop
  blk : Blk
  sl : Option Nat
def AR.val (r : AR) (n : Nat) : AV := match r.sl with | none => .ptr n 0 0 | some l => .sl n 0 l
def badA : AR := ⟨False, ⟨0, []⟩, none⟩
def fillE (sz : Nat) : List (List AV) → List (Nat × AV) → Option (List (List AV))
  | es, [] => some es
  | es, (i, v) :: rest => match cellsA v with
    | some xs => if xs.length = sz ∧ i < es.length then fillE sz (es.set i xs) rest else none
    | none => none
def evA (P : Program) (ρ : Operand → AV) : Op → AR
  | .alloc t => match tzero P t with
    | some z => ⟨True, ⟨z.length, [z]⟩, none⟩
    | none => badA
  | .box _ x => match cellsA (st1 (ρ x)) with
    | some cs => ⟨gk (ρ x), ⟨cs.length, [cs]⟩, none⟩
    | none => badA
  | .buildSlice t len parts => match tzeroE P t with
    | some (sz, _, z) => match fillE sz (List.replicate len z) (parts.toList.map fun p => (p.1, st1 (ρ p.2))) with
      | some es => ⟨allGk ρ (parts.toList.map (·.2)) ∧ len * sz ≤ 16777216, ⟨sz, es⟩, some len⟩
      | none => badA
    | none => badA
  | .makeSlice t l c => match tzeroE P t, st1 (ρ l), st1 (ρ c) with
    | some (sz, bytes, z), .int _ n, .int _ m => ⟨gk (ρ l) ∧ gk (ρ c) ∧ 0 ≤ n ∧ n ≤ m ∧ m ≤ 140737488355328 ∧ bytes * m ≤ 281474976710656, ⟨sz, List.replicate n.toNat z⟩, some n.toNat⟩
    | _, _, _ => badA
  | _ => badA
def Made (w w' : World) (own : Nat → Prop) (φ : Refs) (b : Blk) (s : Option Nat) (y : Value) : Prop :=
  ∃ c T vs, w'.heap = w.heap.push (.cells c T (0, 0)) ∧ w'.os = w.os ∧ w'.tape = w.tape ∧ w'.output = w.output ∧ (∀ e ∈ b.es, e.length = b.sz) ∧ b.es.length * b.sz ≤ c.size ∧
    (∀ (n : Nat) (v : Value), vs[n]? = some v → c[n]? = some v) ∧ CR w own φ b.es.flatten vs [] ∧
    match s with
    | none => y = .pointer (some ⟨w.heap.size, 0, none⟩)
    | some l => ∃ cap, y = .slice (some ⟨w.heap.size, 0, none⟩) l cap ∧ l ≤ cap ∧ cap * b.sz ≤ c.size
theorem splice_flat {sz : Nat} {es : List (List AV)} (hu : ∀ e ∈ es, e.length = sz) {i : Nat} (hi : i < es.length) {xs : List AV} (hx : xs.length = sz) :
    (es.set i xs).flatten = splice es.flatten (i * sz) xs := by
  obtain ⟨h1, h2, h3⟩ := flat_split hu hi; rw [flat_set hi]
  conv => rhs; rw [h1]
  unfold splice; have e1 : List.take (i * sz) ((es.take i).flatten ++ (es.getD i [] ++ (es.drop (i + 1)).flatten)) = (es.take i).flatten := by rw [← h2, List.take_left]
  have e2 : List.drop (i * sz + xs.length) ((es.take i).flatten ++ (es.getD i [] ++ (es.drop (i + 1)).flatten)) = (es.drop (i + 1)).flatten := by
    have hl : ((es.take i).flatten ++ es.getD i []).length = i * sz + xs.length := by rw [List.length_append, h2, h3, hx]
    rw [← List.append_assoc, ← hl, List.drop_left]
  rw [e1, e2]
theorem fillE_spec {sz : Nat} : ∀ {ps : List (Nat × AV)} {es es' : List (List AV)}, (∀ e ∈ es, e.length = sz) → fillE sz es ps = some es' →
    fillV (fun i => some (i * sz, sz)) es.flatten ps = some es'.flatten ∧ (∀ e ∈ es', e.length = sz) ∧ es'.length = es.length
  | [], es, es', hu, h => by simp [fillE] at h; subst h; exact ⟨rfl, hu, rfl⟩
  | (i, v) :: ps, es, es', hu, h => by
    simp only [fillE] at h
    cases hc : cellsA v with
    | none => simp [hc] at h
    | some xs =>
      simp only [hc] at h; split at h
      · rename_i hx
        have hu' : ∀ e ∈ es.set i xs, e.length = sz := fun e he => by
          rcases List.mem_or_eq_of_mem_set he with he | rfl
          · exact hu e he
          · exact hx.1
        obtain ⟨h1, h2, h3⟩ := fillE_spec hu' h
        have hle : i * sz + sz ≤ es.flatten.length := by
          rw [flat_length hu]; have : (i + 1) * sz ≤ es.length * sz := Nat.mul_le_mul_right _ hx.2
          rw [Nat.add_mul] at this; omega
        refine ⟨?_, h2, by simpa using h3⟩; simp only [fillV, hc]; rw [if_pos ⟨hx.1, hle⟩, ← splice_flat hu hx.2 hx.1]; exact h1
      · cases h
end
end HK
namespace HK
open Go
section
variable {P : Program} {own : Nat → Prop} {φ : Refs} {w : World}
theorem rep_get {α : Type} (l : List α) : ∀ (len n : Nat), n < len * l.length → (List.replicate len l).flatten[n]? = l[n % l.length]?
  | 0, n, h => by simp at h
  | len + 1, n, h => by
    rw [List.replicate_succ, List.flatten_cons]; by_cases hn : n < l.length
    · rw [List.getElem?_append_left hn, Nat.mod_eq_of_lt hn]
    · rw [List.getElem?_append_right (by omega), rep_get l len (n - l.length) (by rw [Nat.add_mul] at h; omega), ← Nat.mod_eq_sub_mod (by omega)]
theorem rep_len {α : Type} (l : List α) (len : Nat) : (List.replicate len l).flatten.length = len * l.length := by
  rw [List.length_flatten, List.map_replicate, List.sum_replicate_nat]
theorem zeros_eq (zc : Array Value) (len : Nat) (sz : Nat) (hz : zc.size = sz) (z0 : Array Value) (h0 : len * sz = 0 ∨ z0 = zc) :
    ((Array.range (len * sz)).map (z0[· % z0.size]!)).toList = (List.replicate len zc.toList).flatten := by
  apply List.ext_getElem?
  intro n; have hl : zc.toList.length = sz := by simpa using hz
  by_cases hn : n < len * sz
  · rw [rep_get _ _ _ (by rw [hl]; exact hn), hl]
    have hz0 : z0 = zc := h0.resolve_left (by omega)
    subst hz0
    have hpos : 0 < sz := by rcases Nat.eq_zero_or_pos sz with h | h; · rw [h] at hn; simp at hn
                             · exact h
    have hm : n % sz < z0.size := by rw [hz]; exact Nat.mod_lt _ hpos
    simp only [Array.toList_map, List.getElem?_map, Array.toList_range]
    rw [List.getElem?_eq_getElem (by simpa using hn), List.getElem_range, Option.map_some, hz, getElem!_pos z0 (n % sz) hm, Array.getElem?_toList, Array.getElem?_eq_getElem hm]
  · rw [List.getElem?_eq_none (by simp; omega), List.getElem?_eq_none (by rw [rep_len, hl]; omega)]
theorem cr_rep {z : List AV} {zs : List Value} (h : CR w own φ z zs []) : ∀ n, CR w own φ (List.replicate n z).flatten (List.replicate n zs).flatten []
  | 0 => .nil
  | n + 1 => by
    rw [List.replicate_succ, List.replicate_succ, List.flatten_cons, List.flatten_cons]; exact h.app (cr_rep h n)
theorem run_newRow (e : TypeId) (c : Array Value) : (newRow e c).run P w = .ok ⟨w.heap.size, 0, none⟩ { w with heap := w.heap.push (.cells c e) } := by
  simp [newRow]
theorem evA_sound {ρ : Operand → AV} {r : Operand → Value} {o : Oper} (hops : ∀ x ∈ o.op.operands.toList, VR w own φ (ρ x) (r x) []) (ok : (evA P ρ o.op).ok) :
    ∃ y w', (execOp r o).run P w = .ok (.value y) w' ∧ Made w w' own φ (evA P ρ o.op).blk (evA P ρ o.op).sl y := by
  have lift : ∀ {s : Sem Value} {y : Value} {w' : World}, s.run P w = .ok y w' → (do pure (Next.value (← s)) : Sem Next).run P w = .ok (.value y) w' := by
    intro s y w' hs; simp [hs]
  obtain ⟨dst, op, ty, pos, after, guard⟩ := o; simp only at hops ok ⊢
  cases op with
  | alloc t =>
    simp only [evA] at ok ⊢
    cases ht : tzero P t with
    | none => simp [ht, badA] at ok
    | some z =>
      simp only []; unfold tzero at ht; split at ht
      · rename_i i hi
        split at ht
        · rename_i zv hz
          cases ht
          refine ⟨_, { w with heap := w.heap.push (.cells zv.cells t) }, lift (y := .pointer (some ⟨w.heap.size, 0, none⟩)) ?_, zv.cells, t, zv.cells.toList, rfl, rfl, rfl, rfl, ?_, ?_, ?_, ?_, rfl⟩
          · simp [Instr.alloc, zeroValue, run_info hi, hz, newVar, run_newRow]
          · intro e he; simp at he; subst he; rfl
          · simp
          · intro n v hv; rw [Array.getElem?_toList] at hv; exact hv
          · have : ([List.map absC zv.cells.toList] : List (List AV)).flatten = List.map absC zv.cells.toList := by simp
            rw [this]; exact CR.absC _
        · cases ht
      · cases ht
  | box t x =>
    simp only [evA] at ok ⊢
    cases hc : cellsA (st1 (ρ x)) with
    | none => simp [hc, badA] at ok
    | some cs =>
      simp only [hc] at ok ⊢; have h1 := cellsA_sound ((hops x (by simp [Op.operands])).strip ok) hc
      refine ⟨_, { w with heap := w.heap.push (.cells (r x).cells t) }, lift (y := .pointer (some ⟨w.heap.size, 0, none⟩)) ?_, (r x).cells, t, (r x).cells.toList, rfl, rfl, rfl, rfl, ?_, ?_, ?_, ?_, rfl⟩
      · simp [Instr.box, newVar, run_newRow]
      · intro e he; simp at he; subst he; rfl
      · have := h1.length; simp at this; simp [this]
      · intro n v hv; rw [Array.getElem?_toList] at hv; exact hv
      · simpa using h1
  | buildSlice t len parts =>
    simp only [evA] at ok ⊢
    cases ht : tzeroE P t with
    | none => simp [ht, badA] at ok
    | some x =>
      obtain ⟨sz, bytes, z⟩ := x; simp only [ht] at ok ⊢
      cases hf : fillE sz (List.replicate len z) (parts.toList.map fun p => (p.1, st1 (ρ p.2))) with
      | none => simp [hf, badA] at ok
      | some es =>
        simp only [hf] at ok ⊢; obtain ⟨g, hlim⟩ := ok; unfold tzeroE at ht; split at ht
        · rename_i e hu
          split at ht
          · rename_i i hi
            split at ht
            · rename_i zv hz
              split at ht
              · rename_i hzs
                cases ht
                have hzl : (zv.cells.toList.map absC).length = i.size := by simpa using hzs
                have hu0 : ∀ e ∈ List.replicate len (zv.cells.toList.map absC), e.length = i.size := fun e he => by
                  rw [List.eq_of_mem_replicate he]; exact hzl
                obtain ⟨f1, f2, f3⟩ := fillE_spec hu0 hf; have hzc : CR w own φ (List.replicate len (zv.cells.toList.map absC)).flatten (List.replicate len zv.cells.toList).flatten [] := cr_rep (CR.absC _) len
                obtain ⟨z0, hz0, hd1, hd2⟩ : ∃ z0 : Array Value, (len * i.size = 0 ∨ z0 = zv.cells) ∧ (len * i.size = 0 → z0 = #[]) ∧ (len * i.size ≠ 0 → z0 = zv.cells) := by
                  by_cases h0 : len * i.size = 0
                  · exact ⟨#[], .inl h0, fun _ => rfl, fun h => absurd h0 h⟩
                  · exact ⟨zv.cells, .inr rfl, fun h => absurd h h0, fun _ => rfl⟩
                have hcells := zeros_eq zv.cells len i.size hzs z0 hz0
                rw [← hcells] at hzc
                obtain ⟨rr, hfr, hcr⟩ := fill_sound (w := w) (own := own) (φ := φ) (fun k => some (k * i.size, i.size)) (parts.toList.map fun p => (p.1, st1 (ρ p.2))) (parts.toList.map fun p => (p.1, r p.2)) _ _ es.flatten (by simp)
                  (by
                    intro k p q h1 h2; rw [List.getElem?_map] at h1 h2
                    cases hk : parts.toList[k]? with
                    | none => simp [hk] at h1
                    | some pq =>
                      simp [hk] at h1 h2; subst h1; subst h2; have hm : pq.2 ∈ parts.toList.map (·.2) := List.mem_map.2 ⟨pq, List.mem_of_getElem? hk, rfl⟩
                      exact ⟨rfl, (hops _ (by simpa [Op.operands] using hm)).strip (allGk_mem g _ hm)⟩) hzc f1
                have hrl : rr.size = es.length * i.size := by
                  have := hcr.length; rw [flat_length f2] at this; simpa using this.symm
                refine ⟨_, { w with heap := w.heap.push (.cells rr e) }, lift (y := .slice (some ⟨w.heap.size, 0, none⟩) len len) ?_, rr, e, rr.toList, rfl, rfl, rfl, rfl, f2, by rw [hrl]; exact Nat.le_refl _, ?_, hcr, len, rfl, Nat.le_refl _, by rw [hrl, f3]; simp⟩
                · unfold Instr.buildSlice
                  have e2 : (parts.map fun (i, x) => (i, r x)).toList = parts.toList.map fun p => (p.1, r p.2) := by simp
                  rw [Sem.run_bind, run_underlying hu, Result.andThen_ok]; simp only []; rw [Sem.run_bind, run_sizeI hi, Result.andThen_ok]; rw [if_neg (by omega)]; by_cases h0 : len * i.size = 0
                  · have := hd1 h0; subst this
                    rw [if_pos h0, Sem.run_bind, Sem.run_pure, Result.andThen_ok, e2, hfr]; simp [run_newRow]
                  · have := hd2 h0; subst this
                    rw [if_neg h0]; simp only [Sem.run_bind, zeroValue, run_info hi, hz, Result.andThen_ok, Sem.run_pure, e2, hfr, run_newRow]
                · intro n v hv; rw [Array.getElem?_toList] at hv; exact hv
              · cases ht
            · cases ht
          · cases ht
        · cases ht
  | makeSlice t l c =>
    simp only [evA] at ok ⊢; split at ok
    · rename_i sz bytes z kl n kc m ht hl hc
      obtain ⟨g1, g2, h0, h1, h2, h3⟩ := ok; have hlv := (hops l (by simp [Op.operands])).strip g1
      have hcv := (hops c (by simp [Op.operands])).strip g2
      rw [hl] at hlv; rw [hc] at hcv
      generalize hrl : r l = rl at hlv
      generalize hrc : r c = rc at hcv
      cases hlv
      cases hcv
      unfold tzeroE at ht; split at ht
      · rename_i e hu
        split at ht
        · rename_i i hi
          split at ht
          · rename_i zv hz
            split at ht
            · rename_i hzs
              cases ht
              have hzl : (zv.cells.toList.map absC).length = i.size := by simpa using hzs
              have wl : IntKind.i64.wrap n = n := by
                unfold IntKind.wrap; simp [IntKind.bits, IntKind.signed]; omega
              have wc : IntKind.i64.wrap m = m := by
                unfold IntKind.wrap; simp [IntKind.bits, IntKind.signed]; omega
              obtain ⟨z0, hz0, hd1, hd2⟩ : ∃ z0 : Array Value, (m.toNat * i.size = 0 ∨ z0 = zv.cells) ∧ (m.toNat * i.size = 0 → z0 = #[]) ∧ (m.toNat * i.size ≠ 0 → z0 = zv.cells) := by
                by_cases h0 : m.toNat * i.size = 0
                · exact ⟨#[], .inl h0, fun _ => rfl, fun h => absurd h0 h⟩
                · exact ⟨zv.cells, .inr rfl, fun h => absurd h h0, fun _ => rfl⟩
              have hcells := zeros_eq zv.cells m.toNat i.size hzs z0 hz0
              have hzl2 : zv.cells.toList.length = i.size := by simpa using hzs
              refine ⟨_, { w with heap := w.heap.push (.cells ((Array.range (m.toNat * i.size)).map (z0[· % z0.size]!)) e) }, lift (y := .slice (some ⟨w.heap.size, 0, none⟩) n.toNat m.toNat) ?_, (Array.range (m.toNat * i.size)).map (z0[· % z0.size]!), e, (List.replicate n.toNat zv.cells.toList).flatten, rfl, rfl, rfl, rfl, ?_, ?_, ?_, cr_rep (CR.absC _) _, m.toNat, rfl, by omega, by simp⟩
              · unfold Instr.makeSlice
                rw [hrl, hrc]; simp only [Sem.run_bind, run_underlying hu, Result.andThen_ok, asInt, asIntOf, Sem.run_pure, run_info hi, wl, wc]
                have hneg : (((decide (m < 0) || decide ((i.bytes : Int) * m > 2 ^ 48)) = true ∨ n < 0) ∨ n > m) → False := by
                  intro hh; have : (2 : Int) ^ 48 = 281474976710656 := by decide
                  rcases hh with (hh | hh) | hh
                  · simp at hh; omega
                  · omega
                  · omega
                simp only [Bool.or_eq_true, decide_eq_true_eq] at hneg
                have hneg2 : ¬ ((((decide (m < 0) || decide ((i.bytes : Int) * m > 2 ^ 48)) || decide (n < 0) || decide (n > m)) : Bool) = true) := by
                  simp only [Bool.or_eq_true, decide_eq_true_eq]; exact hneg
                rw [if_neg hneg2]; simp only [Sem.run_bind, run_askRoom, Result.andThen_ok, run_sizeI hi]; by_cases h0 : m.toNat * i.size = 0
                · have := hd1 h0; subst this
                  rw [if_pos h0, Sem.run_bind, Sem.run_pure, Result.andThen_ok]; simp only [Sem.run_bind, run_newRow, Result.andThen_ok, Sem.run_pure]
                · have := hd2 h0; subst this
                  rw [if_neg h0]; simp only [Sem.run_bind, zeroValue, run_info hi, hz, Result.andThen_ok, Sem.run_pure, run_newRow]
              · intro e' he; simp only at he ⊢; rw [List.eq_of_mem_replicate he]; exact hzl
              · simp; exact Nat.mul_le_mul_right _ (by omega)
              · intro k v hv
                have hk : k < n.toNat * i.size := by
                  have := (List.getElem?_eq_some_iff.1 hv).1
                  rw [rep_len, hzl2] at this; exact this
                have hk2 : k < m.toNat * i.size := Nat.lt_of_lt_of_le hk (Nat.mul_le_mul_right _ (by omega))
                rw [← Array.getElem?_toList, hcells, rep_get _ _ _ (by rw [hzl2]; exact hk2)]; rw [rep_get _ _ _ (by rw [hzl2]; exact hk)] at hv; exact hv
            · cases ht
          · cases ht
        · cases ht
      · cases ht
    · exact ok.elim
  | _ => simp [evA, badA] at ok
end
end HK
namespace HK
open Go
section
variable {P : Program} {N : Sz} {w0 : World} {B0 : Cx} {φ : Refs} {Ss : List (List Nat)} {st : St} {a : Act} {w : World}
theorem row_put {c : Array Value} {base o : Nat} {v1 us v3 : List Value} (h1 : ∀ (n : Nat) (v : Value), v1[n]? = some v → c[base + n]? = some v) (h3 : ∀ (n : Nat) (v : Value), v3[n]? = some v → c[o + us.length + n]? = some v)
    (ho : o = base + v1.length) (hl : o + us.length ≤ c.size) : ∀ (n : Nat) (v : Value), (v1 ++ (us ++ v3))[n]? = some v → ((c.toList.take o ++ us ++ c.toList.drop (o + us.length)).toArray)[base + n]? = some v := by
  intro n v hv; have ht : (c.toList.take o).length = o := by rw [List.length_take, Array.length_toList, Nat.min_eq_left (by omega)]
  rw [List.getElem?_toArray, List.append_assoc]; by_cases hn : n < v1.length
  · rw [List.getElem?_append_left hn] at hv
    rw [List.getElem?_append_left (by omega), List.getElem?_take, if_pos (by omega), Array.getElem?_toList]; exact h1 n v hv
  · rw [List.getElem?_append_right (by omega)] at hv
    rw [List.getElem?_append_right (by omega), ht]; have e : base + n - o = n - v1.length := by omega
    rw [e]; by_cases hn2 : n - v1.length < us.length
    · rw [List.getElem?_append_left hn2] at hv ⊢; exact hv
    · rw [List.getElem?_append_right (by omega)] at hv ⊢
      rw [List.getElem?_drop, Array.getElem?_toList]; exact h3 _ v hv
def ocp (v : AV) : Bool := oc v && plain v
theorem oc_one {own : Nat → Prop} {v : AV} {x : Value} {S : List Nat} (h : VR w own φ v x S) (ho : oc v = true) : x.oneCell' = true := by
  cases h <;> first | rfl | simp [oc] at ho
theorem ocp_all {own : Nat → Prop} : ∀ {cs : List AV} {vs : List Value} {S : List Nat}, CR w own φ cs vs S → cs.all ocp = true → (∀ v ∈ vs, v.oneCell' = true) ∧ S = []
  | _, _, _, .nil, _ => ⟨(fun _ h => by cases h), rfl⟩
  | _, _, _, .cons a v S as vs T h h', hp => by
    simp only [List.all_cons, Bool.and_eq_true, ocp] at hp; have hp2 : as.all ocp = true := by simpa [ocp] using hp.2
    obtain ⟨h1, h2⟩ := ocp_all h' hp2; refine ⟨fun y hy => ?_, by rw [plain_nil h hp.1.2, h2]; rfl⟩; rcases List.mem_cons.1 hy with rfl | hy
    · exact oc_one h hp.1.1
    · exact h1 y hy
structure WR where
  ok : Prop
  h : Heap
def evS (P : Program) (h : Heap) (t : TypeId) (pa va : AV) : WR :=
  match st1 pa, tk P t, cellsA (st1 va) with
  | .ptr id i j, some (_, n), some xs => match hb h id with
    | some b => ⟨gk pa ∧ gk va ∧ i < b.es.length ∧ j + n ≤ b.sz ∧ xs.length = n ∧ xs.all ocp = true, h.set id (some ⟨b.sz, b.es.set i (splice (b.es.getD i []) j xs)⟩)⟩
    | none => ⟨False, h⟩
  | _, _, _ => ⟨False, h⟩
theorem row_of {rb base : Nat} {vs : List Value} {c : Array Value} {ty : TypeId} (hs : Seg w ⟨rb, base, none⟩ vs) (hc : w.heap[rb]? = some (.cells c ty (0, 0))) : ∀ (n : Nat) (v : Value), vs[n]? = some v → c[base + n]? = some v := by
  intro n v hv; have := hs n v hv
  rw [add_row] at this
  simpa [World.cell?, hc] using this
theorem store_sound (h : Rel N w0 B0 φ Ss st a w) {t : TypeId} {pa va : AV} {x y : Value} (hx : VR w (Own Ss) φ pa x []) (hy : VR w (Own Ss) φ va y []) (ok : (evS P st.heap t pa va).ok) :
    ∃ w' Ss', (Instr.storeAt t x y).run P w = .ok () w' ∧ Rel N w0 B0 φ Ss' ⟨st.env, (evS P st.heap t pa va).h⟩ a w' := by
  unfold evS at ok ⊢; split at ok
  · rename_i id i j g n xs e1 e2 e3
    cases hb' : hb st.heap id with
    | none => simp [hb'] at ok
    | some b =>
      simp only [hb'] at ok ⊢; obtain ⟨g1, g2, hi, hj, hn, hp⟩ := ok; have hx' := hx.strip g1
      rw [e1] at hx'; have hid := hb_spec hb'
      cases hx' with
      | ptr _ _ _ r hr =>
        obtain ⟨S, hS, hB⟩ := h.heap id b hid; rcases hB with ⟨h1, _, _⟩ | ⟨r', vs, T, h1, h2, ⟨c, ty, hc, hlim⟩, h4, h5, h6, h7, rfl⟩
        · rw [hr] at h1; cases h1
        · rw [hr] at h1; cases h1
          have hu := cellsA_sound (hy.strip g2) e3
          obtain ⟨hone, -⟩ := ocp_all hu hp; obtain ⟨hf, hfl, hfn⟩ := flat_cells h4 hi hj; rw [hf] at h7; obtain ⟨v1, v2', S1, S2', rfl, rfl, c1, c2⟩ := h7.split; obtain ⟨v2, v3, S2, S3, rfl, rfl, c2, c3⟩ := c2.split
          have hv1 : v1.length = i * b.sz + j := by rw [← c1.length, hfl]
          have hv2 : v2.length = n := by rw [← c2.length, hfn]
          have hul : y.cells.toList.length = n := by rw [← hu.length, hn]
          have hrow := row_of h6 hc
          have ho : r.base + (i * r.sz) + j + y.cells.toList.length ≤ c.size := by
            rw [hul, hlim]; have : (i + 1) * b.sz ≤ b.es.length * b.sz := Nat.mul_le_mul_right _ hi
            rw [Nat.add_mul] at this; rw [h2]; omega
          have hrun := run_storeCells_at P r.rb (r.base + i * r.sz + j) ty y.cells.toList 0 c w hc (by simpa using ho) hone
          refine ⟨_, _, ?_, h.row hid hr hS hc hlim (new := (c.toList.take (r.base + i * r.sz + j) ++ y.cells.toList ++ c.toList.drop (r.base + i * r.sz + j + y.cells.toList.length)).toArray) (by simp; simp at ho; omega)
            ⟨b.sz, b.es.set i (splice (b.es.getD i []) j xs)⟩ h2 ?_ (by simpa using h5) (vs := v1 ++ (y.cells.toList ++ v3)) ?_ (T' := S1 ++ ([] ++ S3)) ?_ ?_⟩
          · simp only [Instr.storeAt, Instr.sureAddr, Sem.run_bind, Sem.run_pure, Result.andThen_ok, storeVar, run_size e2]
            have hys : y.cells.size = n := by simpa using hul
            rw [if_neg (by omega)]
            simpa using hrun
          · intro e he
            rcases List.mem_or_eq_of_mem_set he with he | rfl
            · exact h4 e he
            · rw [splice_length]
              · exact (flat_split h4 hi).2.2
              · rw [(flat_split h4 hi).2.2]; omega
          · refine row_put (fun k v hv => hrow k v ?_) (fun k v hv => ?_) (by rw [hv1, h2]; omega) (by simpa using ho)
            · rw [List.getElem?_append_left (List.getElem?_eq_some_iff.1 hv).1]; exact hv
            · have := hrow (v1.length + (v2.length + k)) v (by
                rw [List.getElem?_append_right (by omega), Nat.add_sub_cancel_left, List.getElem?_append_right (by omega), Nat.add_sub_cancel_left]; exact hv)
              rw [← this]
              congr 1
              rw [hv1, hv2, hul, h2]; omega
          · rw [flat_splice hi, hn]
            exact c1.app (hu.app c3)
          · exact (List.Sublist.refl S1).append ((List.nil_sublist S2).append (List.Sublist.refl S3))
  · exact ok.elim
end
end HK
namespace HK
open Go
section
variable {P : Program} {N : Sz} {w0 : World} {B0 : Cx} {φ : Refs} {Ss : List (List Nat)} {st : St} {a : Act} {w : World}
theorem growBy_le (n : Nat) : ∀ (r c : Nat), Builtin.growBy n r c ≤ max c (n + (n + 768) / 4)
  | 0, c => by simp [Builtin.growBy]; omega
  | r + 1, c => by
    simp only [Builtin.growBy]; split
    · omega
    · rename_i h
      have := growBy_le n r (c + (c + 768) / 4)
      omega
theorem nextcap_le {n c : Nat} (h : c < n) : Builtin.nextslicecap n c ≤ 3 * n + 2000 := by
  unfold Builtin.nextslicecap; split
  · omega
  · split
    · omega
    · have := growBy_le n 4 c
      omega
def elemsOf (h : Heap) (sz : Nat) : AV → Option (List (List AV))
  | .nil => some []
  | .fz es => some es
  | .sl id off len => match hb h id with
    | some b => if b.sz = sz ∧ off + len ≤ b.es.length then some ((b.es.drop off).take len) else none
    | none => none
  | _ => none
def evApp (P : Program) (h : Heap) (t xt : TypeId) (sa xa : AV) : Prop × Heap × AV :=
  match tzeroE P t, tel P xt with
  | some (sz, bytes, _), some _ => match elemsOf h sz (st1 xa) with
    | some xs => match st1 sa with
      | .nil => (gk sa ∧ gk xa ∧ (∀ e ∈ xs, e.length = sz) ∧ xs.flatten.all ocp = true ∧ (3 * xs.length + 2000) * (bytes + 1) ≤ 281474976710656, h ++ [some ⟨sz, xs⟩], .sl h.length 0 xs.length)
      | .sl id off len => match hb h id with
        | some b => (gk sa ∧ gk xa ∧ b.sz = sz ∧ off + len ≤ b.es.length ∧ (∀ e ∈ xs, e.length = sz) ∧ xs.flatten.all ocp = true ∧ (3 * (len + xs.length) + 2000) * (bytes + 1) ≤ 281474976710656,
          h.set id none ++ [some ⟨sz, (b.es.drop off).take len ++ xs⟩], .sl h.length 0 (len + xs.length))
        | none => (False, h, .undef)
      | _ => (False, h, .undef)
    | none => (False, h, .undef)
  | _, _ => (False, h, .undef)
theorem es_part {es : List (List AV)} {sz off len : Nat} (hu : ∀ e ∈ es, e.length = sz) (h : off + len ≤ es.length) :
    es.flatten = (es.take off).flatten ++ (((es.drop off).take len).flatten ++ ((es.drop off).drop len).flatten) ∧ (es.take off).flatten.length = off * sz ∧ ((es.drop off).take len).flatten.length = len * sz ∧ ((es.drop off).take len).length = len := by
  have hlen : ((es.drop off).take len).length = len := by simp; omega
  refine ⟨?_, ?_, ?_, hlen⟩
  · rw [← List.flatten_append, ← List.flatten_append, List.take_append_drop, List.take_append_drop]
  · rw [flat_length (sz := sz) fun e he => hu e (List.mem_of_mem_take he), List.length_take, Nat.min_eq_left (by omega)]
  · rw [flat_length (sz := sz) fun e he => hu e (List.mem_of_mem_drop (List.mem_of_mem_take he)), hlen]
theorem seg_mid {A : Addr} {v1 v2 v3 : List Value} (h : Seg w A (v1 ++ (v2 ++ v3))) : Seg w (A.add v1.length) v2 := h.split
theorem run_first {P : Program} {A : Option Addr} {n c sz : Nat} {us : List Value} (hl : us.length = n * sz) (hs : ∀ B, A = some B → Seg w B us) (hA : A = none → us = []) : (Builtin.firstCells sz n (.slice A n c)).run P w = .ok us.toArray w := by
  cases A with
  | none => rw [hA rfl]; simp [Builtin.firstCells]
  | some B =>
    simp only [Builtin.firstCells]; rw [← hl]; exact run_loadCells_list w B us (hs B rfl)
theorem elems_sound {own : Nat → Prop} (hh : HR w own φ st.heap Ss) {v : AV} {x : Value} (hv : VR w own φ v x []) {sz : Nat} {xs : List (List AV)} (e : elemsOf st.heap sz v = some xs) (hx : ∀ e ∈ xs, e.length = sz) :
    ∃ A c us S, x = .slice A xs.length c ∧ us.length = xs.length * sz ∧ (∀ B, A = some B → Seg w B us) ∧ (A = none → us = []) ∧ CR w own φ xs.flatten us S := by
  cases hv with
  | nil A => simp [elemsOf] at e; subst e; exact ⟨A, 0, [], [], rfl, by simp, (fun B _ n v h => by simp at h), (fun _ => rfl), .nil⟩
  | fz0 A cap => simp [elemsOf] at e; subst e; exact ⟨A, cap, [], [], rfl, by simp, (fun B _ n v h => by simp at h), (fun _ => rfl), .nil⟩
  | fz es sz' A cap vs hlt ho hu hcap hs hc =>
    simp [elemsOf] at e; subst e; refine ⟨some A, cap, vs, [], rfl, ?_, (fun B hB => by cases hB; exact hs), (fun h => by cases h), hc.up⟩
    rw [← hc.length, flat_length hx]
  | sl0 id off r A hr =>
    simp only [elemsOf] at e
    cases hb' : hb st.heap id with
    | none => simp [hb'] at e
    | some b =>
      simp [hb'] at e; obtain ⟨_, rfl⟩ := e
      exact ⟨A, 0, [], [], rfl, by simp, (fun B _ n v h => by simp at h), (fun _ => rfl), .nil⟩
  | sl id off len cap r hr hcap hlim =>
    simp only [elemsOf] at e
    cases hb' : hb st.heap id with
    | none => simp [hb'] at e
    | some b =>
      simp only [hb'] at e; split at e
      · rename_i hsz
        cases e
        obtain ⟨hsz, hl⟩ := hsz; obtain ⟨S, hS, hB⟩ := hh id b (hb_spec hb'); rcases hB with ⟨h1, _, _⟩ | ⟨r', vs, T, h1, h2, _, h4, h5, h6, h7, rfl⟩
        · rw [hr] at h1; cases h1
        · rw [hr] at h1; cases h1
          obtain ⟨f1, f2, f3, f4⟩ := es_part h4 hl; rw [f1] at h7; obtain ⟨v1, v2', S1, S2', rfl, rfl, c1, c2⟩ := h7.split; obtain ⟨v2, v3, S2, S3, rfl, rfl, c2, c3⟩ := c2.split
          refine ⟨_, cap, v2, S2, by rw [f4], by rw [← c2.length, f3, f4, hsz], (fun B hB => ?_), (fun h => by cases h), c2⟩; cases hB
          have := seg_mid h6
          rw [add_row, ← c1.length, f2] at this; rw [h2]; exact this
      · cases e
  | _ => simp [elemsOf] at e
def putAt (base : Option Addr) (n : Nat) (us : List Value) : Sem Unit := match base with | some a => storeCells (a.add n) us | none => pure ()
section run
variable {t xt ty e : TypeId} {i : TypeInfo} {zv x : Value} {n m cap c : Nat} {base A : Option Addr} {us : List Value}
theorem run_app_in (hu : P.underlying t = some (.slice e)) (hi : P.info? e = some i) {e2 : TypeId} (hx : P.underlying xt = some (.slice e2)) (hrun : (Builtin.firstCells i.size m (.slice A m c)).run P w = .ok us.toArray w) (hle : n + m ≤ cap) :
    (Builtin.append_ #[t, xt] ty #[.slice base n cap, .slice A m c]).run P w =
      ((putAt base (n * i.size) us).run P w).andThen fun _ w' => .ok (.slice base (n + m) cap) w' := by
  unfold Builtin.append_
  simp only [List.getElem?_toArray, List.getElem?_cons_zero, List.getElem?_cons_succ, Sem.run_bind, run_underlying hu, run_sizeI hi, run_underlying hx, Result.andThen_ok, Sem.run_pure, Builtin.lenOf, Bool.false_eq_true, if_false, Bool.not_false, if_true]
  rw [if_pos hle]; simp only [Sem.run_bind, hrun, Result.andThen_ok]; cases base <;> simp [putAt]
theorem run_app_grow (hu : P.underlying t = some (.slice e)) (hi : P.info? e = some i) (hz : i.zero = some zv) (hzs : zv.cells.size = i.size) {e2 : TypeId} (hx : P.underlying xt = some (.slice e2)) {os : List Value}
    (hold : ∀ d, (Builtin.firstCells i.size n (.slice base n cap)).run P { w with drawn := d } = .ok os.toArray { w with drawn := d }) (hnew : ∀ d, (Builtin.firstCells i.size m (.slice A m c)).run P { w with drawn := d } = .ok us.toArray { w with drawn := d })
    (hlt : cap < n + m) (hb1 : (3 * (n + m) + 2000) * (i.bytes + 1) ≤ 281474976710656) (hol : os.length = n * i.size) (hul : us.length = m * i.size) :
    ∃ nc c' d, n + m ≤ nc ∧ c'.size = nc * i.size ∧ (∀ (k : Nat) (v : Value), (os ++ us)[k]? = some v → c'[k]? = some v) ∧
      (Builtin.append_ #[t, xt] ty #[.slice base n cap, .slice A m c]).run P w = .ok (.slice (some ⟨w.heap.size, 0, none⟩) (n + m) nc) { w with drawn := d, heap := w.heap.push (.cells c' e) } := by
  have h48 : (2 : Nat) ^ 48 = 281474976710656 := by decide
  have hb : (3 * (n + m) + 2000) * i.bytes + (3 * (n + m) + 2000) ≤ 281474976710656 := by rw [Nat.mul_add, Nat.mul_one] at hb1; exact hb1
  have hcap : ¬ (Builtin.nextslicecap (n + m) cap * i.bytes > 2 ^ 48) := by
    have := Nat.mul_le_mul_right i.bytes (nextcap_le hlt)
    omega
  have hmax : ¬ (((n + m : Nat) : Int) > IntKind.i64.max ∧ ((false : Bool) = true ∨ i.bytes = 0)) := by
    intro h; have : IntKind.i64.max = 9223372036854775807 := by decide
    omega
  let nc := (Question.appendCap (n + m) cap e).cut (w.tape w.drawn (.appendCap (n + m) cap e))
  have hnc : n + m ≤ nc := by
    show n + m ≤ (n + m) + _
    omega
  refine ⟨nc, os.toArray ++ us.toArray ++ Builtin.zeroCells zv.cells (nc - (n + m)), w.drawn + 1, hnc, ?_, ?_, ?_⟩
  · simp only [Array.size_append, List.size_toArray, hol, hul, Builtin.zeroCells, Array.size_map, Array.size_range, hzs]
    rw [← Nat.add_mul, ← Nat.add_mul]; congr 1; omega
  · intro k v hv
    have hk : k < (os.toArray ++ us.toArray).size := by
      have := (List.getElem?_eq_some_iff.1 hv).1; simpa using this
    rw [Array.getElem?_append_left hk, ← Array.getElem?_toList]
    simpa using hv
  · unfold Builtin.append_
    simp only [List.getElem?_toArray, List.getElem?_cons_zero, List.getElem?_cons_succ, Sem.run_bind, run_underlying hu, run_sizeI hi, run_underlying hx, Result.andThen_ok, Sem.run_pure, Builtin.lenOf, Bool.false_eq_true, if_false, Bool.not_false, if_true]
    rw [if_neg (by omega)]; simp only [Sem.run_bind, run_info hi, Result.andThen_ok]; rw [if_neg (by simpa using hmax)]; simp only [Sem.run_bind, run_info hi, Result.andThen_ok]; rw [if_neg hcap]
    simp only [Sem.run_bind, run_choose, Question.forced, Bool.false_eq_true, if_false, Result.andThen_ok, run_info hi, run_askRoom, hold, hnew, zeroValue, hz, Sem.run_pure, run_newRow]; rfl
end run
end
end HK
namespace HK
open Go
section
variable {P : Program} {N : Sz} {w0 : World} {B0 : Cx} {φ : Refs} {Ss : List (List Nat)} {st : St} {a : Act} {w : World}
theorem set_end {α : Type} (l : List α) (x y : α) : (l ++ [x]).set l.length y = l ++ [y] := by
  rw [List.set_append_right _ _ (Nat.le_refl _)]; simp
theorem set_low {α : Type} (l : List α) (x : α) {i : Nat} (h : i < l.length) (y : α) : (l ++ [x]).set i y = l.set i y ++ [x] := by
  rw [List.set_append_left _ _ h]
theorem cr_drew {own : Nat → Prop} {cs : List AV} {us : List Value} {S : List Nat} (h : CR w own φ cs us S) (d : Nat) : CR ({ w with drawn := d } : World) own φ cs us S :=
  CR.tr (w := w) (w' := { w with drawn := d }) (φ := φ) (own := own) (own' := own) (fun _ _ ho => ⟨ho, rfl⟩) (Nat.le_refl _) (fun _ _ e => e) h (fun _ _ => rfl)
theorem seg_drew {A : Addr} {us : List Value} (h : Seg w A us) (d : Nat) : Seg ({ w with drawn := d } : World) A us := h
theorem tzeroE_spec {t : TypeId} {sz bytes : Nat} {z : List AV} (h : tzeroE P t = some (sz, bytes, z)) : ∃ e i zv, P.underlying t = some (.slice e) ∧ P.info? e = some i ∧ i.size = sz ∧ i.bytes = bytes ∧ i.zero = some zv ∧ zv.cells.size = i.size := by
  unfold tzeroE at h; split at h
  · rename_i e hu
    split at h
    · rename_i i hi
      split at h
      · rename_i zv hz
        split at h
        · rename_i hs; cases h; exact ⟨e, i, zv, hu, hi, rfl, rfl, hz, hs⟩
        · cases h
      · cases h
    · cases h
  · cases h
theorem app_empty (h : Rel N w0 B0 φ Ss st a w) (sz : Nat) : ∃ φ' Ss', Rel N w0 B0 φ' Ss' ⟨st.env, st.heap ++ [some ⟨sz, []⟩]⟩ a w ∧ φ' st.heap.length = some none := by
  have hφ := h.fresh st.heap.length (Nat.le_refl _)
  have h1 := (h.slot).null (k := st.heap.length) (by simp) hφ (by rw [← h.len]; simp) sz
  simp only [set_end] at h1; exact ⟨_, _, h1, by unfold upd; rw [if_pos rfl]⟩
theorem app_fresh (h : Rel N w0 B0 φ Ss st a w) {d : Nat} {c : Array Value} {e : TypeId} (sz : Nat) (xs : List (List AV)) (hu : ∀ e ∈ xs, e.length = sz) (hl : xs.length * sz ≤ c.size) {us : List Value} (hvs : ∀ (k : Nat) (v : Value), us[k]? = some v → c[k]? = some v) (hc : CR w (Own Ss) φ xs.flatten us []) :
    ∃ φ' Ss', Rel N w0 B0 φ' Ss' ⟨st.env, st.heap ++ [some ⟨sz, xs⟩]⟩ a { w with drawn := d, heap := w.heap.push (.cells c e) } ∧ φ' st.heap.length = some (some ⟨w.heap.size, 0, c.size, sz⟩) ∧
      φ' = upd φ st.heap.length (some ⟨w.heap.size, 0, c.size, sz⟩) ∧ Ss' = Ss ++ [[w.heap.size]] := by
  have hφ := h.fresh st.heap.length (Nat.le_refl _)
  have hs := h.slot
  have hc' : CR w (Own (Ss ++ [[]])) φ xs.flatten us [] := by
    have e : (Ss ++ [[]]).flatten = Ss.flatten := by simp
    unfold Own at hc ⊢; rw [e]; exact hc
  have h1 := (hs.drew d).new (id := st.heap.length) (by simp) hφ (by rw [← h.len]; simp) (w' := { w with drawn := d, heap := w.heap.push (.cells c e) }) (c := c) (T := e) rfl rfl rfl rfl ⟨sz, xs⟩ hu hl hvs (cr_drew hc' d)
  simp only [set_end] at h1; rw [← h.len, set_end, h.len] at h1; exact ⟨_, _, h1, by unfold upd; rw [if_pos rfl], rfl, rfl⟩
theorem app_sound (h : Rel N w0 B0 φ Ss st a w) {t xt ty : TypeId} {sa xa : AV} {sv xv : Value} (hs : VR w (Own Ss) φ sa sv []) (hx : VR w (Own Ss) φ xa xv []) (ok : (evApp P st.heap t xt sa xa).1) :
    ∃ y w' φ' Ss', (Builtin.append_ #[t, xt] ty #[sv, xv]).run P w = .ok y w' ∧ Rel N w0 B0 φ' Ss' ⟨st.env, (evApp P st.heap t xt sa xa).2.1⟩ a w' ∧ VR w' (Own Ss') φ' (evApp P st.heap t xt sa xa).2.2 y [] := by
  unfold evApp at ok ⊢
  cases ht : tzeroE P t with
  | none => simp [ht] at ok
  | some z3 =>
    obtain ⟨sz, bytes, z⟩ := z3
    cases hxt : tel P xt with
    | none => simp [ht, hxt] at ok
    | some x2 =>
      cases hel : elemsOf st.heap sz (st1 xa) with
      | none => simp [ht, hxt, hel] at ok
      | some xs =>
        simp only [ht, hxt, hel] at ok ⊢; obtain ⟨e, i, zv, hu, hi, rfl, rfl, hz, hzs⟩ := tzeroE_spec ht; obtain ⟨e2, i2, hu2, -⟩ := tel_spec (sz := x2.1) (bytes := x2.2) hxt
        have key : gk xa → (∀ e ∈ xs, e.length = i.size) → xs.flatten.all ocp = true → ∃ A c us, xv = .slice A xs.length c ∧ us.length = xs.length * i.size ∧ (∀ B, A = some B → Seg w B us) ∧ (A = none → us = []) ∧ CR w (Own Ss) φ xs.flatten us [] ∧ (∀ v ∈ us, v.oneCell' = true) := by
          intro g hxu hxo; obtain ⟨A, c, us, S, e1, e2, e3, e4, e5⟩ := elems_sound (st := st) h.heap (hx.strip g) hel hxu; obtain ⟨h1, h2⟩ := ocp_all e5 hxo; subst h2; exact ⟨A, c, us, e1, e2, e3, e4, e5, h1⟩
        have first : ∀ {n c : Nat} {A : Option Addr} {us : List Value}, us.length = n * i.size → (∀ B, A = some B → Seg w B us) → (A = none → us = []) → ∀ d, (Builtin.firstCells i.size n (.slice A n c)).run P { w with drawn := d } = .ok us.toArray { w with drawn := d } :=
          fun h1 h2 h3 d => run_first h1 (fun B hB => seg_drew (h2 B hB) d) h3
        have hempty : ∀ {A : Option Addr} {c : Nat}, ∀ d, (Builtin.firstCells i.size 0 (.slice A 0 c)).run P { w with drawn := d } = .ok ([] : List Value).toArray { w with drawn := d } :=
          fun d => run_first (by simp) (fun B _ n v h => by simp at h) (fun _ => rfl)
        have hpure : ∀ (base : Option Addr) (n : Nat), (putAt base n []).run P w = .ok () w := by
          intro base n; cases base <;> simp [storeCells, putAt]
        cases hsv : st1 sa with
        | nil =>
          simp only [hsv] at ok ⊢; obtain ⟨g1, g2, hxu, hxo, hbd⟩ := ok; obtain ⟨A, c, us, rfl, hul, hseg, hnone, hcr, hone⟩ := key g2 hxu hxo; have hs' := hs.strip g1
          rw [hsv] at hs'
          cases hs' with
          | nil A0 =>
            by_cases hm : xs = []
            · subst hm
              obtain ⟨φ', Ss', hR, hk⟩ := app_empty h i.size; have hus : us = [] := List.eq_nil_of_length_eq_zero (by simpa using hul)
              subst hus; refine ⟨_, w, φ', Ss', ?_, hR, .sl0 _ _ _ A0 hk⟩; rw [run_app_in (w := w) hu hi hu2 (first hul hseg hnone w.drawn) (by simp), hpure]; rfl
            · have hpos : 0 < xs.length := List.length_pos_iff.2 hm
              obtain ⟨nc, c', d, h1, h2, h3, h4⟩ := run_app_grow (w := w) (ty := ty) (n := 0) (cap := 0) (base := A0) (os := []) hu hi hz hzs hu2 hempty (first hul hseg hnone) (by omega) (by simpa using hbd) (by simp) hul
              simp only [List.nil_append, Nat.zero_add] at h1 h3 h4; obtain ⟨φ', Ss', hR, hk, -, -⟩ := app_fresh (d := d) (e := e) h i.size xs hxu (by rw [h2]; exact Nat.mul_le_mul_right _ h1) h3 hcr; refine ⟨_, _, φ', Ss', h4, hR, ?_⟩
              have := VR.sl (w := { w with drawn := d, heap := w.heap.push (.cells c' e) }) (own := Own Ss') (φ := φ') st.heap.length 0 xs.length nc _ hk h1 (by simp [h2])
              simpa using this
        | sl id off len =>
          simp only [hsv] at ok ⊢
          cases hb' : hb st.heap id with
          | none => simp [hb'] at ok
          | some b =>
            simp only [hb'] at ok ⊢; obtain ⟨g1, g2, hbs, hol, hxu, hxo, hbd⟩ := ok; obtain ⟨A, c, us, rfl, hul, hseg, hnone, hcr, hone⟩ := key g2 hxu hxo; have hs' := hs.strip g1
            rw [hsv] at hs'; have hid := hb_spec hb'
            have hidlt : id < st.heap.length := (List.getElem?_eq_some_iff.1 hid).1
            cases hs' with
            | sl0 _ _ r A0 hr =>
              simp only [Nat.zero_add, List.take_zero, List.nil_append] at hbd ⊢; by_cases hm : xs = []
              · subst hm
                obtain ⟨φ', Ss', hR, hk⟩ := app_empty h i.size; have hus : us = [] := List.eq_nil_of_length_eq_zero (by simpa using hul)
                subst hus; have hR := hR.kill id
                simp only [set_low _ _ hidlt] at hR; refine ⟨_, w, φ', Ss', ?_, hR, .sl0 _ _ _ A0 hk⟩; rw [run_app_in (w := w) hu hi hu2 (first hul hseg hnone w.drawn) (by simp), hpure]; rfl
              · have hpos : 0 < xs.length := List.length_pos_iff.2 hm
                obtain ⟨nc, c', d, h1, h2, h3, h4⟩ := run_app_grow (w := w) (ty := ty) (n := 0) (cap := 0) (base := A0) (os := []) hu hi hz hzs hu2 hempty (first hul hseg hnone) (by omega) (by simpa using hbd) (by simp) hul
                simp only [List.nil_append, Nat.zero_add] at h1 h3 h4; obtain ⟨φ', Ss', hR, hk, -, -⟩ := app_fresh (d := d) (e := e) h i.size xs hxu (by rw [h2]; exact Nat.mul_le_mul_right _ h1) h3 hcr; have hR := hR.kill id
                simp only [set_low _ _ hidlt] at hR; refine ⟨_, _, φ', Ss', h4, hR, ?_⟩
                have := VR.sl (w := { w with drawn := d, heap := w.heap.push (.cells c' e) }) (own := Own Ss') (φ := φ') st.heap.length 0 xs.length nc _ hk h1 (by simp [h2])
                simpa using this
            | sl _ _ _ cap r hr hcap hlim =>
              obtain ⟨S, hS, hB⟩ := h.heap id b hid; rcases hB with ⟨h1, _, _⟩ | ⟨r', vs, T, h1, h2, ⟨c0, ty0, hc0, hlimc⟩, h4, h5, h6, h7, rfl⟩
              · rw [hr] at h1; cases h1
              · rw [hr] at h1; cases h1
                rw [hbs] at h2 h4 h5; obtain ⟨f1, f2, f3, f4⟩ := es_part h4 hol; rw [f1] at h7; obtain ⟨v1, v2', S1, S2', rfl, rfl, c1, c2⟩ := h7.split; obtain ⟨v2, v3, S2, S3, rfl, rfl, c2, c3⟩ := c2.split
                have hv1 : v1.length = off * i.size := by rw [← c1.length, f2]
                have hv2 : v2.length = len * i.size := by rw [← c2.length, f3]
                have hseg2 := seg_mid h6
                rw [add_row, hv1] at hseg2; have hrow2 := row_of hseg2 hc0
                have hu2' : ∀ e ∈ (b.es.drop off).take len ++ xs, e.length = i.size := fun e he => by
                  rcases List.mem_append.1 he with he | he
                  · exact h4 e (List.mem_of_mem_drop (List.mem_of_mem_take he))
                  · exact hxu e he
                have hlen2 : ((b.es.drop off).take len ++ xs).length = len + xs.length := by rw [List.length_append, f4]
                have hsubS : (r.rb :: S2).Sublist (r.rb :: (S1 ++ (S2 ++ S3))) :=
                  List.Sublist.cons_cons _ ((List.sublist_append_left S2 S3).trans (List.sublist_append_right S1 (S2 ++ S3)))
                have hφk := h.fresh st.heap.length (Nat.le_refl _)
                have hks : (Ss ++ [[]])[st.heap.length]? = some [] := by rw [← h.len]; simp
                have hne : id ≠ st.heap.length := by omega
                have hSlt : id < Ss.length := by rw [h.len]; exact hidlt
                have hS' : (Ss ++ [[]])[id]? = some (r.rb :: (S1 ++ (S2 ++ S3))) := by rw [List.getElem?_append_left hSlt]; exact hS
                have own_e : Own (Ss ++ [[]]) = Own Ss := by unfold Own; simp
                have hheap : ∀ x, ((st.heap ++ [none]).set id none).set st.heap.length (some x) = st.heap.set id none ++ [some x] := fun x => by
                  rw [set_low _ _ hidlt]; have := set_end (st.heap.set id none) none (some x)
                  rwa [List.length_set] at this
                by_cases hle : len + xs.length ≤ cap
                · -- in place
                  let r2 : Ref := ⟨r.rb, r.base + off * i.size, r.lim, i.size⟩
                  have hφ2 : ∀ k x, φ k = some x → upd φ st.heap.length (some r2) k = some x := upd_old hφk _
                  have hmul : (off + cap) * i.size = off * i.size + cap * i.size := Nat.add_mul ..
                  have hmul2 : (len + xs.length) * i.size = len * i.size + xs.length * i.size := Nat.add_mul ..
                  have hmulc : (len + xs.length) * i.size ≤ cap * i.size := Nat.mul_le_mul_right _ hle
                  rw [h2, hmul] at hlim
                  have hBR : BR w (Own (Ss ++ [[]])) (upd φ st.heap.length (some r2)) st.heap.length ⟨i.size, (b.es.drop off).take len⟩ (r.rb :: S2) := by
                    refine .inr ⟨r2, v2, S2, by unfold upd; rw [if_pos rfl], rfl, ⟨c0, ty0, hc0, hlimc⟩, fun e he => hu2' e (List.mem_append_left _ he), by simp only [r2, f4]; omega, hseg2, ?_, rfl⟩; rw [own_e]
                    exact c2.tr (fun _ _ ho => ⟨ho, rfl⟩) (Nat.le_refl _) hφ2 (fun _ _ => rfl)
                  have hm1 := h.slot.move (k := st.heap.length) (by simp) hφk hks hS' hne (some r2) ⟨i.size, (b.es.drop off).take len⟩ hsubS hBR
                  simp only [hheap] at hm1
                  have hk1 : (st.heap.set id none ++ [some (⟨i.size, (b.es.drop off).take len⟩ : Blk)])[st.heap.length]? = some (some ⟨i.size, (b.es.drop off).take len⟩) := by
                    have : (st.heap.set id none).length = st.heap.length := by simp
                    rw [← this]; simp
                  have hSk : (((Ss ++ [[]]).set id []).set st.heap.length (r.rb :: S2))[st.heap.length]? = some (r.rb :: S2) := by
                    rw [List.getElem?_set_self (by simp [h.len])]
                  have hsz : r.base + off * i.size + len * i.size + us.length ≤ c0.size := by rw [hul, hlimc]; omega
                  have hcr2 : CR w (Own (((Ss ++ [[]]).set id []).set st.heap.length (r.rb :: S2))) (upd φ st.heap.length (some r2)) ((b.es.drop off).take len ++ xs).flatten (v2 ++ (us ++ [])) S2 := by
                    rw [List.flatten_append, List.append_nil]; have hnd := h.nodup
                    have hh := c2.app hcr
                    rw [List.append_nil] at hh; refine hh.tr (fun q _ ho => ⟨fun hq => ho ?_, rfl⟩) (Nat.le_refl _) hφ2 (fun _ _ => rfl); obtain ⟨A1, B1, g1, g2⟩ := flatten_set hS' []
                    obtain ⟨A2, B2, g3, g4⟩ := flatten_set (l := (Ss ++ [[]]).set id []) (id := st.heap.length) (S := []) (by rw [List.getElem?_set_ne hne]; exact hks) (r.rb :: S2); rw [← own_e]
                    show q ∈ (Ss ++ [[]]).flatten
                    have hq' : q ∈ A2 ++ ((r.rb :: S2) ++ B2) := by rw [← g4]; exact hq
                    rw [g1]; have hAB : A1 ++ B1 = A2 ++ B2 := by simpa using g2.symm.trans g3
                    rcases List.mem_append.1 hq' with hq' | hq'
                    · have : q ∈ A1 ++ B1 := by rw [hAB]; exact List.mem_append_left _ hq'
                      rcases List.mem_append.1 this with h | h <;> simp [h]
                    · rcases List.mem_append.1 hq' with hq' | hq'
                      · have := hsubS.subset hq'
                        exact List.mem_append_right _ (List.mem_append_left _ this)
                      · have : q ∈ A1 ++ B1 := by rw [hAB]; exact List.mem_append_right _ hq'
                        rcases List.mem_append.1 this with h | h <;> simp [h]
                  have hm2 := hm1.row (id := st.heap.length) hk1 (r := r2) (by unfold upd; rw [if_pos rfl]) hSk hc0 hlimc
                    (new := (c0.toList.take (r.base + off * i.size + len * i.size) ++ us ++ c0.toList.drop (r.base + off * i.size + len * i.size + us.length)).toArray)
                    (by simp; omega) ⟨i.size, (b.es.drop off).take len ++ xs⟩ rfl hu2' (by simp only [r2, hlen2]; omega)
                    (row_put (v3 := []) hrow2 (fun k v hv => by simp at hv) (by rw [hv2]) hsz) hcr2 (List.Sublist.refl _)
                  have hset : (st.heap.set id none ++ [some (⟨i.size, (b.es.drop off).take len⟩ : Blk)]).set st.heap.length (some ⟨i.size, (b.es.drop off).take len ++ xs⟩) = st.heap.set id none ++ [some ⟨i.size, (b.es.drop off).take len ++ xs⟩] := by
                    have := set_end (st.heap.set id none) (some (⟨i.size, (b.es.drop off).take len⟩ : Blk)) (some ⟨i.size, (b.es.drop off).take len ++ xs⟩)
                    rwa [List.length_set] at this
                  simp only [hset] at hm2; refine ⟨.slice (some ⟨r.rb, r.base + off * r.sz, none⟩) (len + xs.length) cap, _, _, _, ?_, hm2, ?_⟩
                  · rw [run_app_in (w := w) hu hi hu2 (first hul hseg hnone w.drawn) hle]
                    have hrun := run_storeCells_at P r.rb (r.base + off * i.size + len * i.size) ty0 us 0 c0 w hc0 (by simpa using hsz) hone
                    simp only [putAt, add_row, h2]; rw [hrun]; rfl
                  · have := VR.sl (w := w.setRow r.rb (c0.toList.take (r.base + off * i.size + len * i.size) ++ us ++ c0.toList.drop (r.base + off * i.size + len * i.size + us.length)).toArray)
                      (own := Own ((((Ss ++ [[]]).set id []).set st.heap.length (r.rb :: S2)).set st.heap.length (r2.rb :: S2))) (φ := upd φ st.heap.length (some r2)) st.heap.length 0 (len + xs.length) cap r2 (by unfold upd; rw [if_pos rfl]) hle (by simp only [r2, Nat.zero_add]; omega)
                    simpa [r2, h2] using this
                · -- a new row
                  have hcapl : len ≤ cap := hcap
                  obtain ⟨nc, c', d, k1, k2, k3, k4⟩ := run_app_grow (w := w) (ty := ty) (n := len) (cap := cap) (base := some ⟨r.rb, r.base + off * r.sz, none⟩) (os := v2) hu hi hz hzs hu2
                    (first hv2 (fun B hB => by cases hB; rw [h2]; exact hseg2) (fun h => by cases h)) (first hul hseg hnone) (by omega) hbd hv2 hul
                  obtain ⟨φ', Ss', hR, hk, hφe, hSe⟩ := app_fresh (d := d) (c := c') (e := e) h i.size [] (fun e he => by cases he) (by simp) (us := []) (fun k v hv => by simp at hv) .nil; have hnd := h.nodup
                  obtain ⟨A1, B1, g1, g2⟩ := flatten_set hS []
                  have hsub2 : ∀ q ∈ S2, q ∈ Ss.flatten := fun q hq => by
                    rw [g1]; exact List.mem_append_right _ (List.mem_append_left _ (hsubS.subset (List.mem_cons_of_mem _ hq)))
                  have hold : ∀ q, q < w.heap.size → (({ w with drawn := d, heap := w.heap.push (.cells c' e) } : World)).heap[q]? = w.heap[q]? := fun q hq => by
                    show (w.heap.push (.cells c' e))[q]? = _
                    rw [Array.getElem?_push, if_neg (by omega)]
                  have hnewrow : (({ w with drawn := d, heap := w.heap.push (.cells c' e) } : World)).heap[w.heap.size]? = some (.cells c' e (0, 0)) := by simp
                  have hcr2 : CR ({ w with drawn := d, heap := w.heap.push (.cells c' e) } : World) (Own Ss') φ' ((b.es.drop off).take len ++ xs).flatten (v2 ++ us) S2 := by
                    rw [List.flatten_append]; have hh := c2.app hcr
                    rw [List.append_nil] at hh; refine CR.tr (w := w) (fun q hq ho => ⟨fun hq' => ?_, hold q hq⟩) (by simp) (fun k x hx => by rw [hφe]; exact upd_old hφk _ k x hx) hh (fun q hq => hold q (h.bound q (hsub2 q hq)).1)
                    have hq' : q ∈ Ss'.flatten := hq'
                    rw [hSe] at hq'; simp at hq'; rcases hq' with ⟨l, hl, hql⟩ | rfl
                    · exact ho (List.mem_flatten.2 ⟨l, hl, hql⟩)
                    · omega
                  have hmulc : (len + xs.length) * i.size ≤ nc * i.size := Nat.mul_le_mul_right _ k1
                  have hBR : BR ({ w with drawn := d, heap := w.heap.push (.cells c' e) } : World) (Own Ss') φ' st.heap.length ⟨i.size, (b.es.drop off).take len ++ xs⟩ (w.heap.size :: S2) := by
                    refine .inr ⟨_, v2 ++ us, S2, hk, rfl, ⟨c', e, hnewrow, rfl⟩, hu2', by simp only [hlen2, k2]; omega, ?_, hcr2, rfl⟩; intro n v hv; rw [add_row]; simp only [World.cell?, hnewrow, Nat.zero_add]
                    simpa using k3 n v hv
                  have hm2 := hR.move2 (id := id) (k := st.heap.length) (by simp) (Sk := [w.heap.size]) (by rw [hSe, ← h.len]; simp) (by rw [hSe, List.getElem?_append_left hSlt]; exact hS) hne _ (S' := w.heap.size :: S2)
                    (by
                      show (w.heap.size :: S2).Sublist (w.heap.size :: (r.rb :: (S1 ++ (S2 ++ S3))))
                      exact List.Sublist.cons_cons _ ((List.sublist_cons_self _ _).trans hsubS)) hBR
                  have hset : ((st.heap ++ [some (⟨i.size, []⟩ : Blk)]).set id none).set st.heap.length (some ⟨i.size, (b.es.drop off).take len ++ xs⟩) = st.heap.set id none ++ [some ⟨i.size, (b.es.drop off).take len ++ xs⟩] := by
                    rw [set_low _ _ hidlt]; have := set_end (st.heap.set id none) (some (⟨i.size, []⟩ : Blk)) (some ⟨i.size, (b.es.drop off).take len ++ xs⟩)
                    rwa [List.length_set] at this
                  simp only [hset] at hm2; refine ⟨_, _, _, _, k4, hm2, ?_⟩
                  have := VR.sl (w := { w with drawn := d, heap := w.heap.push (.cells c' e) }) (own := Own ((Ss'.set id []).set st.heap.length (w.heap.size :: S2))) (φ := φ') st.heap.length 0 (len + xs.length) nc _ hk k1 (by simp [k2])
                  simpa using this
        | _ => simp [hsv] at ok
end
end HK
namespace HK
open Go
def viewN (h : Heap) : Nat → AV → AV
  | 0, _ => .undef
  | d + 1, v => match v with
    | .sl id off len => match hb h id with
      | some b => if off + len ≤ b.es.length then .fz (((b.es.drop off).take len).map (List.map (viewN h d))) else .undef
      | none => .undef
    | .own _ es => .fz (es.map (List.map (viewN h d)))
    | .agg cs => .agg (cs.map (viewN h d))
    | .tup cs => .tup (cs.map (viewN h d))
    | .fn f first cap => .fn f (first.map (viewN h d)) (cap.map (viewN h d))
    | .ptr _ _ _ => .undef
    | .cond _ _ => .undef
    | v => v
theorem map_flatten_uni {sz : Nat} {es : List (List AV)} (hu : ∀ e ∈ es, e.length = sz) (f : AV → AV) : (∀ e ∈ es.map (List.map f), e.length = sz) := by
  intro e he; obtain ⟨x, hx, rfl⟩ := List.mem_map.1 he; rw [List.length_map]; exact hu x hx
section
variable {w : World} {own own2 : Nat → Prop} {φ0 : Refs} {h : Heap} {Ss : List (List Nat)}
theorem cr_map_view {f : AV → AV} {φ : Refs} (hf : ∀ v x F, VR w own φ v x F → (∀ b ∈ F, ¬ own2 b) → VR w own2 nof (f v) x []) : ∀ {cs : List AV} {vs : List Value} {S : List Nat}, CR w own φ cs vs S → (∀ b ∈ S, ¬ own2 b) → CR w own2 nof (cs.map f) vs []
  | [], _, _, k, _ => by cases k; exact .nil
  | c :: cs, _, _, k, hS => by
    obtain ⟨v, us, S1, S2, rfl, rfl, k1, k2⟩ := k.uncons; have := CR.cons _ _ _ _ _ _ (hf _ _ _ k1 (fun b hb => hS b (List.mem_append_left _ hb))) (cr_map_view hf k2 (fun b hb => hS b (List.mem_append_right _ hb)))
    simpa using this
theorem view_sound (ho : ∀ b, own2 b → own b) (hh : HR w own φ0 h Ss) (hd : ∀ (id : Nat) S, (∃ b, h[id]? = some (some b)) → Ss[id]? = some S → ∀ b ∈ S, ¬ own2 b) :
    ∀ (d : Nat) {φ : Refs} (v : AV) (x : Value) (F : List Nat), (∀ id r, φ id = some r → φ0 id = some r) → VR w own φ v x F → (∀ b ∈ F, ¬ own2 b) → VR w own2 nof (viewN h d v) x []
  | 0, _, v, x, F, _, _, _ => .undef _
  | d + 1, φ, v, x, F, hφ, k, hF => by
    have ih : ∀ {φ : Refs} (v : AV) (x : Value) (F : List Nat), (∀ id r, φ id = some r → φ0 id = some r) → VR w own φ v x F → (∀ b ∈ F, ¬ own2 b) → VR w own2 nof (viewN h d v) x [] := fun v x F => view_sound ho hh hd d v x F
    have ihl : ∀ {φ : Refs} {cs : List AV} {vs : List Value} {S : List Nat}, (∀ id r, φ id = some r → φ0 id = some r) → CR w own φ cs vs S → (∀ b ∈ S, ¬ own2 b) → CR w own2 nof (cs.map (viewN h d)) vs [] :=
      fun hφ k hS => cr_map_view (fun v x F k hF => ih v x F hφ k hF) k hS
    cases k with
    | undef _ => exact .undef _
    | nil _ => exact .nil _
    | bool _ => exact .bool _
    | int _ _ => exact .int _ _
    | str _ => exact .str _
    | con _ => exact .con _
    | fz0 _ _ => exact .fz0 _ _
    | fz es sz A cap vs hlt hno hu hcap hs hc =>
      exact .fz es sz A cap vs hlt (fun hb => hno (ho _ hb)) hu hcap hs (hc.tr (fun b _ hb => ⟨fun hb' => hb (ho _ hb'), rfl⟩) (Nat.le_refl _) (fun _ _ e => e) (fun _ _ => rfl))
    | own0 _ _ => exact .fz0 _ _
    | own es sz rb o cap lim vs S hr hu hcap hlim hs hc =>
      simp only [viewN]; have h2 := ihl (fun _ _ e => by cases e) hc (fun b hb => hF b (List.mem_cons_of_mem _ hb))
      rw [List.map_flatten] at h2; obtain ⟨c, T, hrow, -⟩ := hr
      have := VR.fz (w := w) (own := own2) (φ := nof) (es.map (List.map (viewN h d))) sz ⟨rb, o, none⟩ cap vs (Array.getElem?_eq_some_iff.1 hrow).1 (hF rb (List.mem_cons_self ..)) (map_flatten_uni hu _) (by simpa using hcap) hs h2
      simpa using this
    | sl0 id off r A hr =>
      simp only [viewN]; split
      · split
        · simp only [List.take_zero, List.map_nil]; exact .fz0 _ _
        · exact .undef _
      · exact .undef _
    | sl id off len cap r hr hcap hlim =>
      simp only [viewN]
      cases hb' : hb h id with
      | none => exact .undef _
      | some b =>
        simp only []; split
        · rename_i hle
          obtain ⟨S, hS, hB⟩ := hh id b (hb_spec hb'); rcases hB with ⟨h1, _, _⟩ | ⟨r', vs, T, h1, h2, h3, h4, h5, h6, h7, rfl⟩
          · rw [hφ _ _ hr] at h1; cases h1
          · rw [hφ _ _ hr] at h1; cases h1
            have hdis := hd id _ ⟨b, hb_spec hb'⟩ hS
            obtain ⟨f1, f2, f3, f4⟩ := es_part h4 hle; rw [f1] at h7; obtain ⟨v1, v2', S1, S2', rfl, rfl, c1, c2⟩ := h7.split; obtain ⟨v2, v3, S2, S3, rfl, rfl, c2, c3⟩ := c2.split
            have k2 := ihl (fun _ _ e => e) c2 (fun b hb => hdis b (by simp [hb]))
            rw [List.map_flatten] at k2; have hseg := seg_mid h6
            rw [add_row, ← c1.length, f2, ← h2] at hseg; obtain ⟨c, ty, hrow, -⟩ := h3
            have := VR.fz (w := w) (own := own2) (φ := nof) (((b.es.drop off).take len).map (List.map (viewN h d))) b.sz ⟨r.rb, r.base + off * r.sz, none⟩ cap v2 (Array.getElem?_eq_some_iff.1 hrow).1 (hdis r.rb (List.mem_cons_self ..))
              (map_flatten_uni (fun e he => h4 e (List.mem_of_mem_drop (List.mem_of_mem_take he))) _) (by rw [List.length_map, f4]; exact hcap) hseg k2
            rw [List.length_map, f4] at this; exact this
        · exact .undef _
    | ptr _ _ _ _ _ => exact .undef _
    | fptr es sz A vs i j hlt hno hu hs hc =>
      exact .fptr es sz A vs i j hlt (fun hb => hno (ho _ hb)) hu hs (hc.tr (fun b _ hb => ⟨fun hb' => hb (ho _ hb'), rfl⟩) (Nat.le_refl _) (fun _ _ e => e) (fun _ _ => rfl))
    | agg cs vs S hc => exact .agg _ _ _ (ihl hφ hc hF)
    | tup cs vs S hc => exact .tup _ _ _ (ihl hφ hc hF)
    | fn f first cap fs cs hc hc' => exact .fn f _ _ _ _ (ihl hφ hc (fun _ hb => by cases hb)) (ihl hφ hc' (fun _ hb => by cases hb))
    | condT _ _ _ _ => exact .undef _
    | condF _ => exact .undef _
end
def Enter (P : Program) (f : FuncId) : Prop := ∃ fn, P.funcs[f]? = some fn ∧ ¬ fn.name = "runtime.NumGoroutine" ∧ ¬ fn.body = none
def Fn (P : Program) (f : FuncId) (args : List AV) (out : AV) : Prop := Enter P f ∧ ∀ (w : World) (vs : List Value), CR w (fun _ => False) nof args vs [] →
  Calls P f vs.toArray w fun e w' => ∃ v S, e = .returned v ∧ VR w' (fun _ => True) nof out v S ∧ S.Nodup ∧ (∀ b ∈ S, w.heap.size ≤ b ∧ b < w'.heap.size) ∧ Fr w [] w'
def impC : Nat → List AV → List AV × List Blk
  | _, [] => ([], [])
  | n, .own sz es :: l => (.sl n 0 es.length :: (impC (n + 1) l).1, ⟨sz, es⟩ :: (impC (n + 1) l).2)
  | n, v :: l => (v :: (impC n l).1, (impC n l).2)
def impT : Nat → List AV → List AV × List Blk
  | _, [] => ([], [])
  | n, .agg cs :: l => (.agg (impC n cs).1 :: (impT (n + (impC n cs).2.length) l).1, (impC n cs).2 ++ (impT (n + (impC n cs).2.length) l).2)
  | n, .own sz es :: l => (.sl n 0 es.length :: (impT (n + 1) l).1, ⟨sz, es⟩ :: (impT (n + 1) l).2)
  | n, v :: l => (v :: (impT n l).1, (impT n l).2)
def imp (n : Nat) : AV → AV × List Blk
  | .tup vs => (.tup (impT n vs).1, (impT n vs).2)
  | .agg cs => (.agg (impC n cs).1, (impC n cs).2)
  | .own sz es => (.sl n 0 es.length, [⟨sz, es⟩])
  | v => (v, [])
def Named (φ : Refs) (n : Nat) (rs : List (Option Ref)) : Prop := ∀ k r, rs[k]? = some r → φ (n + k) = some r
theorem Named.left {φ : Refs} {n : Nat} {rs rs' : List (Option Ref)} (h : Named φ n (rs ++ rs')) : Named φ n rs := fun k r hk => h k r (by rw [List.getElem?_append_left (List.getElem?_eq_some_iff.1 hk).1]; exact hk)
theorem Named.right {φ : Refs} {n : Nat} {rs rs' : List (Option Ref)} (h : Named φ n (rs ++ rs')) : Named φ (n + rs.length) rs' := fun k r hk => by
  rw [Nat.add_assoc]; exact h _ r (by rw [List.getElem?_append_right (by omega), Nat.add_sub_cancel_left]; exact hk)
def BRs (w : World) (own : Nat → Prop) (φ : Refs) (n : Nat) (bs : List Blk) (Sk : List (List Nat)) : Prop := ∀ (k : Nat) b, bs[k]? = some b → ∃ S, Sk[k]? = some S ∧ BR w own φ (n + k) b S
theorem BRs.app {w : World} {own : Nat → Prop} {φ : Refs} {n : Nat} {bs bs' : List Blk} {Sk Sk' : List (List Nat)} (h : BRs w own φ n bs Sk) (hl : bs.length = Sk.length) (h' : BRs w own φ (n + bs.length) bs' Sk') : BRs w own φ n (bs ++ bs') (Sk ++ Sk') := by
  intro k b hk; by_cases hlt : k < bs.length
  · rw [List.getElem?_append_left hlt] at hk
    obtain ⟨S, h1, h2⟩ := h k b hk; exact ⟨S, by rw [List.getElem?_append_left (by omega)]; exact h1, h2⟩
  · rw [List.getElem?_append_right (by omega)] at hk
    obtain ⟨S, h1, h2⟩ := h' _ b hk; refine ⟨S, by rw [List.getElem?_append_right (by omega), ← hl]; exact h1, ?_⟩
    rwa [show n + bs.length + (k - bs.length) = n + k by omega] at h2
section
variable {w : World} {own : Nat → Prop}
theorem own_imp {sz : Nat} {es : List (List AV)} {x : Value} {S : List Nat} (h : VR w own nof (.own sz es) x S) : ∃ r : Option Ref, ∀ (φ : Refs) (n : Nat), φ n = some r → VR w own φ (.sl n 0 es.length) x [] ∧ BR w own φ n ⟨sz, es⟩ S := by
  cases h with
  | own0 _ A => exact ⟨none, fun φ n hn => ⟨.sl0 _ _ _ _ hn, .inl ⟨hn, rfl, rfl⟩⟩⟩
  | own _ _ rb o cap lim vs S hr hu hcap hlim hs hc =>
    refine ⟨some ⟨rb, o, lim, sz⟩, fun φ n hn => ⟨?_, .inr ⟨_, vs, S, hn, rfl, hr, hu, ?_, hs, hc.up, rfl⟩⟩⟩
    · have := VR.sl (w := w) (own := own) n 0 es.length cap _ hn hcap (by simpa using hlim)
      simpa using this
    · have := Nat.mul_le_mul_right sz hcap
      simp only; omega
def isOwn : AV → Bool
  | .own _ _ => true
  | _ => false
def okC (cs : List AV) : Bool := cs.all fun c => isOwn c || plain c
def okT (cs : List AV) : Bool := cs.all fun c => match c with | .agg l => okC l | c => isOwn c || plain c
def okI : AV → Bool
  | .tup vs => okT vs
  | .agg cs => okC cs
  | c => isOwn c || plain c
theorem impC_other {n : Nat} {c : AV} (h : isOwn c = false) (cs : List AV) : impC n (c :: cs) = (c :: (impC n cs).1, (impC n cs).2) := by
  cases c <;> first | rfl | simp [isOwn] at h
theorem Named.tail {φ : Refs} {n : Nat} {r : Option Ref} {rs : List (Option Ref)} (h : Named φ n (r :: rs)) : φ n = some r ∧ Named φ (n + 1) rs :=
  ⟨by simpa using h 0 r rfl, fun k x hk => by
    have := h (k + 1) x (by simpa using hk)
    rwa [show n + (k + 1) = n + 1 + k by omega] at this⟩
theorem BRs.one {φ : Refs} {n : Nat} {b : Blk} {S : List Nat} (h : BR w own φ n b S) : BRs w own φ n [b] [S] := by
  intro k b' hk
  cases k with
  | zero => simp at hk; subst hk; exact ⟨S, rfl, h⟩
  | succ k => simp at hk
theorem BRs.nil {φ : Refs} {n : Nat} : BRs w own φ n [] [] := fun k b hk => by simp at hk
theorem impC_sound : ∀ {cs : List AV} {xs : List Value} {S : List Nat} (n : Nat), CR w own nof cs xs S → okC cs = true → ∃ (rs : List (Option Ref)) (Sk : List (List Nat)), rs.length = (impC n cs).2.length ∧ Sk.length = (impC n cs).2.length ∧ Sk.flatten = S ∧
    ∀ φ, Named φ n rs → CR w own φ (impC n cs).1 xs [] ∧ BRs w own φ n (impC n cs).2 Sk
  | [], _, _, n, h, _ => by
    cases h
    exact ⟨[], [], rfl, rfl, by simp, fun φ _ => ⟨.nil, .nil⟩⟩
  | c :: cs, _, _, n, h, hok => by
    obtain ⟨v, us, S1, S2, rfl, rfl, h1, h2⟩ := h.uncons; simp only [okC, List.all_cons, Bool.and_eq_true] at hok
    cases ho : isOwn c with
    | true =>
      obtain ⟨sz, es, rfl⟩ : ∃ sz es, c = .own sz es := by cases c <;> simp [isOwn] at ho; exact ⟨_, _, rfl⟩
      obtain ⟨rs, Sk, e1, e2, e3, e4⟩ := impC_sound (n + 1) h2 hok.2; obtain ⟨r, hr⟩ := own_imp h1; refine ⟨r :: rs, S1 :: Sk, by simp [impC, e1], by simp [impC, e2], by simp [e3], fun φ hn => ?_⟩; obtain ⟨hn0, hn'⟩ := hn.tail
      obtain ⟨k1, k2⟩ := hr φ n hn0; obtain ⟨k3, k4⟩ := e4 φ hn'
      exact ⟨CR.cons _ _ _ _ _ _ k1 k3, (BRs.one k2).app rfl k4⟩
    | false =>
      have hp : plain c = true := by simpa [ho] using hok.1
      have := plain_nil h1 hp
      subst this; obtain ⟨rs, Sk, e1, e2, e3, e4⟩ := impC_sound n h2 hok.2; rw [impC_other ho]; refine ⟨rs, Sk, e1, e2, by simpa using e3, fun φ hn => ?_⟩; obtain ⟨k3, k4⟩ := e4 φ hn; exact ⟨CR.cons _ _ _ _ _ _ h1.up k3, k4⟩
theorem impT_sound : ∀ {cs : List AV} {xs : List Value} {S : List Nat} (n : Nat), CR w own nof cs xs S → okT cs = true → ∃ (rs : List (Option Ref)) (Sk : List (List Nat)), rs.length = (impT n cs).2.length ∧ Sk.length = (impT n cs).2.length ∧ Sk.flatten = S ∧
    ∀ φ, Named φ n rs → CR w own φ (impT n cs).1 xs [] ∧ BRs w own φ n (impT n cs).2 Sk
  | [], _, _, n, h, _ => by
    cases h
    exact ⟨[], [], rfl, rfl, by simp, fun φ _ => ⟨.nil, .nil⟩⟩
  | c :: cs, _, _, n, h, hok => by
    obtain ⟨v, us, S1, S2, rfl, rfl, h1, h2⟩ := h.uncons; simp only [okT, List.all_cons, Bool.and_eq_true] at hok; by_cases ha : ∃ l, c = .agg l
    · obtain ⟨l, rfl⟩ := ha
      cases h1 with
      | agg _ vs _ hl =>
        obtain ⟨rs1, Sk1, d1, d2, d3, d4⟩ := impC_sound n hl hok.1; obtain ⟨rs, Sk, e1, e2, e3, e4⟩ := impT_sound (n + (impC n l).2.length) h2 hok.2
        refine ⟨rs1 ++ rs, Sk1 ++ Sk, by simp [impT, e1, d1], by simp [impT, e2, d2], by simp [e3, d3], fun φ hn => ?_⟩; obtain ⟨k1, k2⟩ := d4 φ hn.left; obtain ⟨k3, k4⟩ := e4 φ (by rw [← d1]; exact hn.right)
        exact ⟨CR.cons _ _ _ _ _ _ (.agg _ _ _ k1) k3, k2.app d2.symm k4⟩
    · have hok1 : (isOwn c || plain c) = true := by
        have := hok.1
        split at this
        · rename_i l; exact absurd ⟨l, rfl⟩ ha
        · exact this
      cases ho : isOwn c with
      | true =>
        obtain ⟨sz, es, rfl⟩ : ∃ sz es, c = .own sz es := by cases c <;> simp [isOwn] at ho; exact ⟨_, _, rfl⟩
        obtain ⟨rs, Sk, e1, e2, e3, e4⟩ := impT_sound (n + 1) h2 hok.2; obtain ⟨r, hr⟩ := own_imp h1; refine ⟨r :: rs, S1 :: Sk, by simp [impT, e1], by simp [impT, e2], by simp [e3], fun φ hn => ?_⟩; obtain ⟨hn0, hn'⟩ := hn.tail
        obtain ⟨k1, k2⟩ := hr φ n hn0; obtain ⟨k3, k4⟩ := e4 φ hn'
        exact ⟨CR.cons _ _ _ _ _ _ k1 k3, (BRs.one k2).app rfl k4⟩
      | false =>
        have hp : plain c = true := by simpa [ho] using hok1
        have := plain_nil h1 hp
        subst this; obtain ⟨rs, Sk, e1, e2, e3, e4⟩ := impT_sound n h2 hok.2
        have hI : impT n (c :: cs) = (c :: (impT n cs).1, (impT n cs).2) := by
          cases c <;> first | rfl | exact (ha ⟨_, rfl⟩).elim | (simp [isOwn] at ho; done)
        rw [hI]; refine ⟨rs, Sk, e1, e2, by simpa using e3, fun φ hn => ?_⟩; obtain ⟨k3, k4⟩ := e4 φ hn; exact ⟨CR.cons _ _ _ _ _ _ h1.up k3, k4⟩
theorem imp_sound {v : AV} {x : Value} {S : List Nat} (n : Nat) (h : VR w own nof v x S) (hok : okI v = true) : ∃ (rs : List (Option Ref)) (Sk : List (List Nat)), rs.length = (imp n v).2.length ∧ Sk.length = (imp n v).2.length ∧ Sk.flatten = S ∧
    ∀ φ, Named φ n rs → VR w own φ (imp n v).1 x [] ∧ BRs w own φ n (imp n v).2 Sk := by
  by_cases ha : ∃ l, v = .agg l
  · obtain ⟨l, rfl⟩ := ha
    cases h with
    | agg _ vs _ hl =>
      obtain ⟨rs, Sk, d1, d2, d3, d4⟩ := impC_sound n hl hok; exact ⟨rs, Sk, d1, d2, d3, fun φ hn => ⟨.agg _ _ _ (d4 φ hn).1, (d4 φ hn).2⟩⟩
  · by_cases hb : ∃ l, v = .tup l
    · obtain ⟨l, rfl⟩ := hb
      cases h with
      | tup _ vs _ hl =>
        obtain ⟨rs, Sk, d1, d2, d3, d4⟩ := impT_sound n hl hok; exact ⟨rs, Sk, d1, d2, d3, fun φ hn => ⟨.tup _ _ _ (d4 φ hn).1, (d4 φ hn).2⟩⟩
    · cases ho : isOwn v with
      | true =>
        obtain ⟨sz, es, rfl⟩ : ∃ sz es, v = .own sz es := by cases v <;> simp [isOwn] at ho; exact ⟨_, _, rfl⟩
        obtain ⟨r, hr⟩ := own_imp h; refine ⟨[r], [S], rfl, rfl, by simp, fun φ hn => ?_⟩; obtain ⟨k1, k2⟩ := hr φ n hn.tail.1
        exact ⟨k1, .one k2⟩
      | false =>
        have hok1 : (isOwn v || plain v) = true := by
          cases v <;> first | exact hok | exact (ha ⟨_, rfl⟩).elim | exact (hb ⟨_, rfl⟩).elim | (simp [isOwn] at ho; done)
        have hp : plain v = true := by simpa [ho] using hok1
        have := plain_nil h hp
        subst this; have hI : imp n v = (v, []) := by cases v <;> first | rfl | exact (ha ⟨_, rfl⟩).elim | exact (hb ⟨_, rfl⟩).elim | (simp [isOwn] at ho; done)
        rw [hI]; exact ⟨[], [], rfl, rfl, rfl, fun φ _ => ⟨h.up, .nil⟩⟩
end
end HK
namespace HK
open Go
structure HP (φ : Refs) (Ss : List (List Nat)) (h : Heap) (w : World) : Prop where
  heap : HR w (Own Ss) φ h Ss
  len : Ss.length = h.length
  fresh : ∀ id, h.length ≤ id → φ id = none
  nodup : Ss.flatten.Nodup
  bound : ∀ b ∈ Ss.flatten, b < w.heap.size
def CallS (P : Program) (f : FuncId) (args : List AV) (h : Heap) (Q : AV → Heap → Prop) : Prop := Enter P f ∧ ∀ (φ : Refs) (Ss : List (List Nat)) (w : World) (vs : List Value), HP φ Ss h w → CR w (Own Ss) φ args vs [] →
  Calls P f vs.toArray w fun e w' => ∃ v out h' φ' Ss', e = .returned v ∧ Q out h' ∧ HP φ' Ss' h' w' ∧ VR w' (Own Ss') φ' out v [] ∧ (∀ id r, φ id = some r → φ' id = some r) ∧ (∀ b, Own Ss' b → Own Ss b ∨ w.heap.size ≤ b) ∧ Fr w Ss.flatten w'
section
variable {P : Program} {N : Sz} {w0 : World} {B0 : Cx} {φ : Refs} {Ss : List (List Nat)} {st : St} {a : Act} {w : World}
theorem Rel.hp (h : Rel N w0 B0 φ Ss st a w) : HP φ Ss st.heap w := ⟨h.heap, h.len, h.fresh, h.nodup, fun b hb => (h.bound b hb).1⟩
theorem CallS.mono {f : FuncId} {args : List AV} {h : Heap} {Q Q' : AV → Heap → Prop} (hc : CallS P f args h Q) (hq : ∀ o h', Q o h' → Q' o h') : CallS P f args h Q' :=
  ⟨hc.1, fun φ Ss w vs h1 h2 => (hc.2 φ Ss w vs h1 h2).mono fun _ _ ⟨v, out, h', φ', Ss', e1, e2, r⟩ => ⟨v, out, h', φ', Ss', e1, hq _ _ e2, r⟩⟩
def ext (φ : Refs) (n : Nat) (rs : List (Option Ref)) : Refs := fun id => if id < n then φ id else rs[id - n]?
theorem ext_named {φ : Refs} {n : Nat} {rs : List (Option Ref)} : Named (ext φ n rs) n rs := fun k r hk => by
  unfold ext; rw [if_neg (by omega), Nat.add_sub_cancel_left]; exact hk
theorem ext_old {φ : Refs} {n : Nat} {rs : List (Option Ref)} (h : ∀ id, n ≤ id → φ id = none) : ∀ id r, φ id = some r → ext φ n rs id = some r := fun id r hr => by
  unfold ext; split
  · exact hr
  · rw [h id (by omega)] at hr; cases hr
theorem CallS.of_fn {f : FuncId} {args : List AV} {out : AV} {h : Heap} {d : Nat} (hf : Fn P f (args.map (viewN h d)) out) (hok : okI out = true) :
    CallS P f args h (fun o h' => o = (imp h.length out).1 ∧ h' = h ++ (imp h.length out).2.map some) := by
  refine ⟨hf.1, fun φ Ss w vs hp hc => ?_⟩
  have hv : CR w (fun _ => False) nof (args.map (viewN h d)) vs [] :=
    cr_map_view (own := Own Ss) (own2 := fun _ => False) (φ := φ) (fun v x F k _ => view_sound (own := Own Ss) (φ0 := φ) (Ss := Ss) (fun _ hb => hb.elim) hp.heap (fun _ _ _ _ _ _ hb => hb) d v x F (fun _ _ e => e) k (fun _ _ hb => hb)) hc (fun _ _ hb => hb)
  refine (hf.2 w vs hv).mono fun e w' ⟨v, S, e1, e2, e3, e4, e5⟩ => ?_; obtain ⟨rs, Sk, d1, d2, d3, d4⟩ := imp_sound h.length e2 hok
  have hown : ∀ b, Own (Ss ++ Sk) b → Own Ss b ∨ w.heap.size ≤ b := fun b hb => by
    have hb' : b ∈ (Ss ++ Sk).flatten := hb
    rw [List.flatten_append, d3] at hb'; rcases List.mem_append.1 hb' with h1 | h1
    · exact .inl h1
    · exact .inr (e4 b h1).1
  have hfz : ∀ b, b < w.heap.size → ¬ Own Ss b → ¬ Own (Ss ++ Sk) b ∧ w'.heap[b]? = w.heap[b]? := fun b hb ho =>
    ⟨fun h1 => (hown b h1).elim (fun h2 => ho h2) (fun h2 => by omega), e5.block b hb (by simp)⟩
  have hall : ∀ b, b < w'.heap.size → ¬ (fun _ : Nat => True) b → ¬ Own (Ss ++ Sk) b ∧ w'.heap[b]? = w'.heap[b]? := fun _ _ hb => absurd trivial hb
  obtain ⟨k1, k2⟩ := d4 _ (ext_named (φ := φ)); have hold := ext_old (rs := rs) hp.fresh
  refine ⟨v, _, _, ext φ h.length rs, Ss ++ Sk, e1, ⟨rfl, rfl⟩, ⟨?_, by simp [hp.len, d2], ?_, ?_, ?_⟩, k1.tr hall (Nat.le_refl _) (fun _ _ e => e) (fun _ _ => rfl), hold, hown, ⟨e5.os, e5.tape, e5.output, e5.size, fun b hb _ => e5.block b hb (by simp)⟩⟩
  · intro id b hid
    by_cases hlt : id < h.length
    · rw [List.getElem?_append_left hlt] at hid
      obtain ⟨S', q1, q2⟩ := hp.heap id b hid
      refine ⟨S', by rw [List.getElem?_append_left (by rw [hp.len]; exact hlt)]; exact q1, q2.tr hfz e5.size hold (fun x hx => e5.block x (hp.bound x (List.mem_flatten.2 ⟨S', List.mem_of_getElem? q1, hx⟩)) (by simp))⟩
    · rw [List.getElem?_append_right (by omega), List.getElem?_map] at hid
      cases hb : (imp h.length out).2[id - h.length]? with
      | none => rw [hb] at hid; cases hid
      | some b' =>
        rw [hb] at hid; simp only [Option.map_some, Option.some.injEq] at hid; subst hid; obtain ⟨S', q1, q2⟩ := k2 _ _ hb; rw [show h.length + (id - h.length) = id by omega] at q2
        exact ⟨S', by rw [List.getElem?_append_right (by rw [hp.len]; omega), hp.len]; exact q1, q2.tr hall (Nat.le_refl _) (fun _ _ e => e) (fun _ _ => rfl)⟩
  · intro id hid
    simp only [List.length_append, List.length_map] at hid; unfold ext; rw [if_neg (by omega), List.getElem?_eq_none (by omega)]
  · rw [List.flatten_append, d3, List.nodup_append]
    exact ⟨hp.nodup, e3, fun x hx y hy e => by subst e; have := hp.bound x hx; have := (e4 x hy).1; omega⟩
  · intro b hb
    rw [List.flatten_append, d3] at hb; rcases List.mem_append.1 hb with h1 | h1
    · have := hp.bound b h1; have := e5.size; omega
    · exact (e4 b h1).2
theorem CallS.of_fn_fz {f : FuncId} {args : List AV} {out : AV} {h : Heap} {d d' : Nat} (hf : Fn P f (args.map (viewN h d)) out) :
    CallS P f args h (fun o h' => o = viewN [] d' out ∧ h' = h) := by
  refine ⟨hf.1, fun φ Ss w vs hp hc => ?_⟩
  have hv : CR w (fun _ => False) nof (args.map (viewN h d)) vs [] :=
    cr_map_view (own := Own Ss) (own2 := fun _ => False) (φ := φ) (fun v x F k _ => view_sound (own := Own Ss) (φ0 := φ) (Ss := Ss) (fun _ hb => hb.elim) hp.heap (fun _ _ _ _ _ _ hb => hb) d v x F (fun _ _ e => e) k (fun _ _ hb => hb)) hc (fun _ _ hb => hb)
  refine (hf.2 w vs hv).mono fun e w' ⟨v, S, e1, e2, e3, e4, e5⟩ => ?_; have hfz : ∀ b, b < w.heap.size → ¬ Own Ss b → ¬ Own Ss b ∧ w'.heap[b]? = w.heap[b]? := fun b hb ho => ⟨ho, e5.block b hb (by simp)⟩
  refine ⟨v, _, _, φ, Ss, e1, ⟨rfl, rfl⟩, ⟨?_, hp.len, hp.fresh, hp.nodup, fun b hb => Nat.lt_of_lt_of_le (hp.bound b hb) e5.size⟩, ?_, fun _ _ e => e, fun b hb => .inl hb, ⟨e5.os, e5.tape, e5.output, e5.size, fun b hb _ => e5.block b hb (by simp)⟩⟩
  · intro id b hid
    obtain ⟨S', q1, q2⟩ := hp.heap id b hid; exact ⟨S', q1, q2.tr hfz e5.size (fun _ _ e => e) (fun x hx => e5.block x (hp.bound x (List.mem_flatten.2 ⟨S', List.mem_of_getElem? q1, hx⟩)) (by simp))⟩
  · have := view_sound (w := w') (own := fun _ => True) (own2 := Own Ss) (φ0 := nof) (h := []) (Ss := []) (fun _ _ => trivial) (fun id b hid => by simp at hid) (fun id S ⟨b, hb⟩ => by simp at hb) d' out v S (fun _ _ e => e) e2 (fun b hb ho => by
      have := (e4 b hb).1; have := hp.bound b ho; omega)
    exact this.up
theorem Rel.call (h : Rel N w0 B0 φ Ss st a w) {w' : World} {h' : Heap} {φ' : Refs} {Ss' : List (List Nat)} (hp : HP φ' Ss' h' w') (hφ : ∀ id r, φ id = some r → φ' id = some r) (hown : ∀ b, Own Ss' b → Own Ss b ∨ w.heap.size ≤ b) (hfr : Fr w Ss.flatten w') :
    Rel N w0 B0 φ' Ss' ⟨st.env, h'⟩ a w' := by
  have hfz : ∀ b, b < w.heap.size → ¬ Own Ss b → ¬ Own Ss' b ∧ w'.heap[b]? = w.heap[b]? := fun b hb ho =>
    ⟨fun h1 => (hown b h1).elim (fun h2 => ho h2) (fun h2 => by omega), hfr.block b hb ho⟩
  refine ⟨fun t => (h.env t).tr hfz hfr.size hφ (fun b hb => by cases hb), hp.heap, hp.len, hp.fresh, hp.nodup, fun b hb => ⟨hp.bound b hb, ?_⟩, h.fr.trans hfr (fun x hx => (h.bound x hx).2), h.size, h.defers, h.cx, fun i r e => hφ _ _ (h.keep i r e)⟩
  rcases hown b hb with h1 | h1
  · exact (h.bound b h1).2
  · right; have := h.fr.size; omega
end
end HK
set_option linter.unusedSimpArgs false
set_option linter.unusedVariables false
namespace HK
open Go
def evClr (P : Program) (h : Heap) (t : TypeId) (xa : AV) : Prop × Heap := match tzeroE P t, st1 xa with
  | some (sz, _, z), .sl id off len => match hb h id with
    | some b => (gk xa ∧ b.sz = sz ∧ off + len ≤ b.es.length ∧ z.all ocp = true, h.set id (some ⟨b.sz, b.es.take off ++ List.replicate len z ++ b.es.drop (off + len)⟩))
    | none => (False, h)
  | _, _ => (False, h)
theorem tzeroE_z {P : Program} {t : TypeId} {sz bytes : Nat} {z : List AV} (h : tzeroE P t = some (sz, bytes, z)) : ∃ e i zv, P.underlying t = some (.slice e) ∧ P.info? e = some i ∧ i.size = sz ∧ i.zero = some zv ∧ zv.cells.size = i.size ∧ z = zv.cells.toList.map absC := by
  unfold tzeroE at h; split at h
  · rename_i e hu
    split at h
    · rename_i i hi
      split at h
      · rename_i zv hz
        split at h
        · rename_i hs; cases h; exact ⟨e, i, zv, hu, hi, rfl, hz, hs, rfl⟩
        · cases h
      · cases h
    · cases h
  · cases h
theorem set_self {h : Heap} {id : Nat} {b : Blk} (e : h[id]? = some (some b)) : h.set id (some b) = h := by
  refine List.ext_getElem? fun i => ?_; rw [List.getElem?_set]; split
  · rename_i hi
    subst hi; split
    · exact e.symm
    · rw [List.getElem?_eq_none (by omega)]
  · rfl
section
variable {P : Program} {N : Sz} {w0 : World} {B0 : Cx} {φ : Refs} {Ss : List (List Nat)} {st : St} {a : Act} {w : World}
theorem clr_sound (h : Rel N w0 B0 φ Ss st a w) {t ty : TypeId} {xa : AV} {x : Value} (hx : VR w (Own Ss) φ xa x []) (ok : (evClr P st.heap t xa).1) :
    ∃ w' Ss', (Builtin.clear_ #[t] ty #[x]).run P w = .ok (.tuple #[]) w' ∧ Rel N w0 B0 φ Ss' ⟨st.env, (evClr P st.heap t xa).2⟩ a w' := by
  unfold evClr at ok ⊢; split at ok
  · rename_i sz bytes z id off len ht hs
    cases hb' : hb st.heap id with
    | none => simp [hb'] at ok
    | some b =>
      simp only [hb'] at ok ⊢; obtain ⟨g1, hsz, hle, hp⟩ := ok; obtain ⟨e, i, zv, hu, hi, hisz, hz, hzs, rfl⟩ := tzeroE_z ht; have hx' := hx.strip g1
      rw [hs] at hx'; have hid := hb_spec hb'
      cases hx' with
      | sl0 _ _ r A hr =>
        refine ⟨w, Ss, by simp [Builtin.clear_, run_underlying hu]; cases A <;> simp, ?_⟩; simp only [List.replicate_zero, List.append_nil, Nat.add_zero, List.take_append_drop]; rw [set_self hid]
        exact h
      | sl _ _ _ cap r hr hcap hlim =>
        by_cases hl0 : len = 0
        · subst hl0
          refine ⟨w, Ss, by simp [Builtin.clear_, run_underlying hu], ?_⟩; simp only [List.replicate_zero, List.append_nil, Nat.add_zero, List.take_append_drop]; rw [set_self hid]; exact h
        obtain ⟨S, hS, hB⟩ := h.heap id b hid; rcases hB with ⟨h1, _, _⟩ | ⟨r', vs, T, h1, h2, ⟨c, ty', hc, hlim'⟩, h4, h5, h6, h7, rfl⟩
        · rw [hr] at h1; cases h1
        · rw [hr] at h1; cases h1
          have f1 : b.es.flatten = (b.es.take off).flatten ++ (((b.es.drop off).take len).flatten ++ (b.es.drop (off + len)).flatten) := by
            rw [← List.flatten_append, ← List.flatten_append, ← List.drop_drop, List.take_append_drop, List.take_append_drop]
          rw [f1] at h7; obtain ⟨v1, v2', S1, S2', rfl, rfl, c1, c2⟩ := h7.split; obtain ⟨v2, v3, S2, S3, rfl, rfl, c2, c3⟩ := c2.split; have hzl : (zv.cells.toList.map absC).length = b.sz := by rw [hsz, ← hisz]; simpa using hzs
          have hv1 : v1.length = off * b.sz := by
            rw [← c1.length, flat_length (sz := b.sz) fun e he => h4 e (List.mem_of_mem_take he), List.length_take, Nat.min_eq_left (by omega)]
          have hv2 : v2.length = len * b.sz := by
            rw [← c2.length, flat_length (sz := b.sz) fun e he => h4 e (List.mem_of_mem_drop (List.mem_of_mem_take he)), List.length_take, List.length_drop, Nat.min_eq_left (by omega)]
          have hzc : CR w (Own Ss) φ (zv.cells.toList.map absC) zv.cells.toList [] := CR.absC _
          have hzr := cr_rep hzc len
          obtain ⟨hone1, -⟩ := ocp_all hzc hp
          have hone : ∀ v ∈ (List.replicate len zv.cells.toList).flatten, v.oneCell' = true := fun v hv => by
            obtain ⟨l, hl, hvl⟩ := List.mem_flatten.1 hv; rw [List.eq_of_mem_replicate hl] at hvl; exact hone1 v hvl
          have hzlen : (List.replicate len zv.cells.toList).flatten.length = len * b.sz := by
            rw [rep_len]; congr 1; simpa using hzl
          have hrow := row_of h6 hc
          have hlen : (off + len) * b.sz ≤ b.es.length * b.sz := Nat.mul_le_mul_right _ hle
          have ho : r.base + off * r.sz + (List.replicate len zv.cells.toList).flatten.length ≤ c.size := by
            rw [hzlen, hlim', h2]; rw [Nat.add_mul] at hlen; omega
          have hrun := run_storeCells_at P r.rb (r.base + off * r.sz) ty' (List.replicate len zv.cells.toList).flatten 0 c w hc (by simpa using ho) hone
          have hzv : ((Array.range (len * b.sz)).map (zv.cells[· % zv.cells.size]!)).toList = (List.replicate len zv.cells.toList).flatten := zeros_eq zv.cells len b.sz (by rw [hzs, hisz, hsz]) zv.cells (.inr rfl)
          refine ⟨_, _, ?_, h.row hid hr hS hc hlim' (new := (c.toList.take (r.base + off * r.sz) ++ (List.replicate len zv.cells.toList).flatten ++ c.toList.drop (r.base + off * r.sz + (List.replicate len zv.cells.toList).flatten.length)).toArray) (by simp; simp at ho; omega)
            ⟨b.sz, b.es.take off ++ List.replicate len (zv.cells.toList.map absC) ++ b.es.drop (off + len)⟩ h2 ?_ ?_ (vs := v1 ++ ((List.replicate len zv.cells.toList).flatten ++ v3)) ?_ (T' := S1 ++ ([] ++ S3)) ?_ ?_⟩
          · obtain ⟨n, rfl⟩ : ∃ n, len = n + 1 := ⟨len - 1, by omega⟩
            have e1 : (Builtin.zeroCells zv.cells (n + 1)).toList = (List.replicate (n + 1) zv.cells.toList).flatten := by
              unfold Builtin.zeroCells; rw [← hzv, hzs, hisz, hsz]
            simp only [Builtin.clear_, List.getElem?_toArray, List.getElem?_cons_zero, Sem.run_bind, run_underlying hu, Result.andThen_ok, zeroValue, run_info hi, hz, Sem.run_pure, e1]; simp only [Nat.add_zero, Nat.zero_add] at hrun
            simp at hrun ⊢; rw [hrun]; simp
          · intro e he
            simp only [List.append_assoc, List.mem_append] at he; rcases he with he | he | he
            · exact h4 e (List.mem_of_mem_take he)
            · rw [List.eq_of_mem_replicate he]; exact hzl
            · exact h4 e (List.mem_of_mem_drop he)
          · have : (b.es.take off ++ List.replicate len (zv.cells.toList.map absC) ++ b.es.drop (off + len)).length = b.es.length := by simp; omega
            simp only [this]; exact h5
          · refine row_put (fun k v hv => hrow k v ?_) (fun k v hv => ?_) (by rw [hv1, h2]) (by simpa using ho)
            · rw [List.getElem?_append_left (List.getElem?_eq_some_iff.1 hv).1]; exact hv
            · have := hrow (v1.length + (v2.length + k)) v (by
                rw [List.getElem?_append_right (by omega), Nat.add_sub_cancel_left, List.getElem?_append_right (by omega), Nat.add_sub_cancel_left]; exact hv)
              rw [← this]
              congr 1
              rw [hv1, hv2, hzlen, h2]; omega
          · simp only [List.flatten_append, List.append_assoc]
            exact c1.app (hzr.app c3)
          · exact (List.Sublist.refl S1).append ((List.nil_sublist S2).append (List.Sublist.refl S3))
  · exact ok.elim
end
end HK
namespace HK
open Go
inductive Cls where
  | pure | alloc | store | app | clr | call | bad
def clsC : Call → Cls
  | { callee := .builtin .append, .. } => .app
  | { callee := .builtin .clear, .. } => .clr
  | { callee := .builtin _, .. } => .pure
  | { callee := .value _, .. } => .call
  | { callee := .invoke _ _, .. } => .bad
def cls : Op → Cls
  | .alloc _ | .box _ _ | .buildSlice _ _ _ | .makeSlice _ _ _ => .alloc
  | .store _ _ _ => .store
  | .call c => clsC c
  | _ => .pure
inductive GV where
  | free
  | on (g : Bool)
  | bad
def gb (want b : Bool) : Bool := if want then b else !b
def gval (ds : List (Option Tmp)) (env : Env) : Option (Nat × Bool) → GV
  | none => .free
  | some (j, want) => match ds[j]? with
    | some (some t) => match lk env t with
      | .bool b => .on (gb want b)
      | .cond g (.bool b) => .on (g && gb want b)
      | _ => .bad
    | _ => .bad
def calleeOf (env : Env) (c : Call) : Option (FuncId × List AV) := match c.callee with
  | .value f => match st1 (ev env f) with
    | .fn (.func fid) first cap => some (fid, first ++ (c.args.toList.map fun x => st1 (ev env x)) ++ cap)
    | _ => none
  | _ => none
def calleeGk (env : Env) (c : Call) : Prop := match c.callee with
  | .value f => gk (ev env f) ∧ allGk (ev env) c.args.toList
  | _ => False
def runA (P : Program) (N : Sz) (ds : List (Option Tmp)) : List Oper → St → (St → Prop) → Prop
  | [], st, K => K st
  | o :: rest, st, K => dOk N o.dst = true ∧ match gval ds st.env o.guard with
    | .free => match cls o.op with
      | .pure => (evP P st.heap (ev st.env) o.op).1 ∧ runA P N ds rest ⟨putE st.env o.dst (evP P st.heap (ev st.env) o.op).2, st.heap⟩ K
      | .alloc => (evA P (ev st.env) o.op).ok ∧ runA P N ds rest ⟨putE st.env o.dst ((evA P (ev st.env) o.op).val st.heap.length), st.heap ++ [some (evA P (ev st.env) o.op).blk]⟩ K
      | .store => match o.op with
        | .store t a v => (evS P st.heap t (ev st.env a) (ev st.env v)).ok ∧ runA P N ds rest ⟨putE st.env o.dst .undef, (evS P st.heap t (ev st.env a) (ev st.env v)).h⟩ K
        | _ => False
      | .app => match o.op with
        | .call c => match c.args.toList, c.argTypes.toList with
          | [s, x], [t, xt] => (evApp P st.heap t xt (ev st.env s) (ev st.env x)).1 ∧
            runA P N ds rest ⟨putE st.env o.dst (evApp P st.heap t xt (ev st.env s) (ev st.env x)).2.2, (evApp P st.heap t xt (ev st.env s) (ev st.env x)).2.1⟩ K
          | _, _ => False
        | _ => False
      | .clr => match o.op with
        | .call c => match c.args.toList, c.argTypes.toList with
          | [x], [t] => (evClr P st.heap t (ev st.env x)).1 ∧ runA P N ds rest ⟨putE st.env o.dst .undef, (evClr P st.heap t (ev st.env x)).2⟩ K
          | _, _ => False
        | _ => False
      | .call => match o.op with
        | .call c => match calleeOf st.env c with
          | some (fid, as) => calleeGk st.env c ∧ CallS P fid as st.heap (fun out h' => runA P N ds rest ⟨putE st.env o.dst out, h'⟩ K)
          | none => False
        | _ => False
      | .bad => False
    | .on g => match cls o.op with
      | .pure => (g = true → (evP P st.heap (ev st.env) o.op).1) ∧ runA P N ds rest ⟨putE st.env o.dst (.cond g (evP P st.heap (ev st.env) o.op).2), st.heap⟩ K
      | .call => match o.op with
        | .call c => match calleeOf st.env c with
          | some (fid, as) => ∃ out, (g = true → calleeGk st.env c ∧ CallS P fid as st.heap (fun o h' => o = out ∧ h' = st.heap)) ∧ runA P N ds rest ⟨putE st.env o.dst (.cond g out), st.heap⟩ K
          | none => False
        | _ => False
      | _ => False
    | .bad => False
def QR (N : Sz) (w0 : World) (B0 : Cx) (Q : Exit → St → Prop) : Exit → Act → World → Prop := fun e a w => ∃ st φ Ss, Q e st ∧ Rel N w0 B0 φ Ss st a w
section
variable {P : Program} {N : Sz} {w0 : World} {B0 : Cx} {φ : Refs} {Ss : List (List Nat)} {st : St} {a : Act} {w : World}
theorem act_eval (h : Rel N w0 B0 φ Ss st a w) (x : Operand) : VR w (Own Ss) φ (ev st.env x) (a.eval x) [] := by
  cases x with
  | tmp t => exact h.env t
  | const v => exact VR.absV v
  | global g => exact .con _
  | func f => exact .fn (.func f) [] [] [] [] .nil .nil
theorem gval_free {ops : Array Oper} {o : Oper} (hg : gval (ops.toList.map (·.dst)) st.env o.guard = .free) : Region.wanted o (yielded ops a.tmps) = true := by
  unfold gval at hg; split at hg
  · rename_i h; simp [Region.wanted, h]
  · split at hg
    · split at hg <;> cases hg
    · cases hg
theorem getD_bool {tmps : Array Value} {t : Nat} {b : Bool} (h : tmps.getD t Go.undef = .bool b) : tmps[t]? = some (.bool b) := by
  rw [Array.getD_eq_getD_getElem?] at h
  cases hx : tmps[t]? with
  | none => rw [hx] at h; cases h
  | some v => rw [hx] at h; simp at h; rw [h]
theorem gval_on (h : Rel N w0 B0 φ Ss st a w) {ops : Array Oper} {o : Oper} {g : Bool} (hg : gval (ops.toList.map (·.dst)) st.env o.guard = .on g) : Region.wanted o (yielded ops a.tmps) = g := by
  unfold gval at hg; split at hg
  · cases hg
  · rename_i j want hgu
    split at hg
    · rename_i t ht
      have hd : (ops[j]?).bind (·.dst) = some t := by
        rw [List.getElem?_map, Array.getElem?_toList] at ht
        cases hj : ops[j]? with
        | none => rw [hj] at ht; cases ht
        | some o' => rw [hj] at ht; simpa using ht
      have hv := h.env t
      have hy : yielded ops a.tmps j = match a.tmps[t]? with | some (.bool b) => some b | _ => none := by
        unfold yielded; rw [hd]; rfl
      split at hg
      · rename_i b hb
        cases hg
        rw [hb] at hv
        generalize hx : a.tmps.getD t Go.undef = x at hv
        cases hv
        have := getD_bool hx
        simp only [Region.wanted, hgu, hy, this]; cases want <;> cases b <;> rfl
      · rename_i g' b hb
        cases hg
        rw [hb] at hv
        generalize hx : a.tmps.getD t Go.undef = x at hv
        cases hv with
        | condT _ _ _ hv =>
          cases hv
          have := getD_bool hx
          simp only [Region.wanted, hgu, hy, this]
          cases want <;> cases b <;> rfl
        | condF _ =>
          simp only [Region.wanted, hgu, hy, Bool.false_and]; rw [Array.getD_eq_getD_getElem?] at hx
          cases hq : a.tmps[t]? with
          | none => cases want <;> rfl
          | some v => rw [hq] at hx; simp at hx; subst hx; cases want <;> rfl
      · cases hg
    · cases hg
theorem pure_upon (h : Rel N w0 B0 φ Ss st a w) {o : Oper} (ok : (evP P st.heap (ev st.env) o.op).1) :
    ∃ y, (execOp a.eval o).run P w = .ok (.value y) w ∧ VR w (Own Ss) φ (evP P st.heap (ev st.env) o.op).2 y [] :=
  evP_sound h.heap (fun x _ => act_eval h x) ok
theorem Rel.made (h : Rel N w0 B0 φ Ss st a w) {w' : World} {b : Blk} {s : Option Nat} {y : Value} (hm : Made w w' (Own Ss) φ b s y) :
    ∃ φ' Ss', Rel N w0 B0 φ' Ss' ⟨st.env, st.heap ++ [some b]⟩ a w' ∧ VR w' (Own Ss') φ' (AR.val ⟨True, b, s⟩ st.heap.length) y [] := by
  obtain ⟨c, T, vs, h1, h2, h3, h4, h5, h6, h7, h8, h9⟩ := hm; have hφ := h.fresh st.heap.length (Nat.le_refl _)
  have e : (Ss ++ [[]]).flatten = Ss.flatten := by simp
  have h8' : CR w (Own (Ss ++ [[]])) φ b.es.flatten vs [] := by unfold Own at h8 ⊢; rw [e]; exact h8
  have hR := h.slot.new (id := st.heap.length) (by simp) hφ (by rw [← h.len]; simp) h1 h2 h3 h4 b h5 h6 h7 h8'
  simp only [set_end] at hR; refine ⟨_, _, hR, ?_⟩; have hk : upd φ st.heap.length (some ⟨w.heap.size, 0, c.size, b.sz⟩) st.heap.length = some (some ⟨w.heap.size, 0, c.size, b.sz⟩) := by unfold upd; rw [if_pos rfl]
  cases s with
  | none =>
    subst h9; have := VR.ptr (w := w') (own := Own ((Ss ++ [[]]).set st.heap.length [w.heap.size])) st.heap.length 0 0 _ hk
    simpa [AR.val] using this
  | some l =>
    obtain ⟨cap, rfl, hl, hc⟩ := h9; have := VR.sl (w := w') (own := Own ((Ss ++ [[]]).set st.heap.length [w.heap.size])) st.heap.length 0 l cap _ hk hl (by simpa using hc)
    simpa [AR.val] using this
theorem callFunc_run {f : FuncId} (he : Enter P f) (args : Array Value) : (callFunc f args).run P w = .ok (.enter f args) w := by
  obtain ⟨fn, h1, h2, h3⟩ := he; simp [callFunc, h1, h2, h3]
theorem call_run (h : Rel N w0 B0 φ Ss st a w) {o : Oper} {c : Call} (ho : o.op = .call c) {fid : FuncId} {as : List AV} (hc : calleeOf st.env c = some (fid, as)) (hg : calleeGk st.env c) (he : Enter P fid) :
    ∃ vs : List Value, (execOp a.eval o).run P w = .ok (.enter fid vs.toArray) w ∧ CR w (Own Ss) φ as vs [] := by
  unfold calleeOf at hc; unfold calleeGk at hg; split at hc
  · rename_i f hcal
    split at hc
    · rename_i fid' first cap hf
      cases hc
      rw [hcal] at hg; simp only at hg; have hv := (act_eval h f).strip hg.1
      rw [hf] at hv
      generalize hx : a.eval f = x at hv
      cases hv with
      | fn _ _ _ fs cs k1 k2 =>
        have k3 := cr_map (w := w) (own := Own Ss) (φ := φ) (ρ := ev st.env) (r := a.eval) (l := c.args.toList) (fun y _ => act_eval h y) hg.2
        refine ⟨fs ++ c.args.toList.map a.eval ++ cs, ?_, by simpa using (k1.app k3).app k2⟩; obtain ⟨dst, op, ty, pos, after, guard⟩ := o; simp only at ho; subst ho; obtain ⟨callee, args, ats⟩ := c; simp only at hcal; subst hcal
        have e : (fs.toArray ++ Array.map a.eval args ++ cs.toArray) = (fs ++ args.toList.map a.eval ++ cs).toArray := by
          apply Array.ext'; simp
        simp only [execOp, resolve, hx, Deferred.ofValue, Sem.run_bind, Sem.run_pure, Result.andThen_ok, invoke, e]; exact callFunc_run he _
    · cases hc
  · cases hc
theorem runA_sound {ops : Array Oper} {Q : Exit → St → Prop} {K : St → Prop} (hK : ∀ st, K st → Q .normal st) :
    ∀ (l : List Oper) {φ : Refs} {Ss : List (List Nat)} {st : St} {a : Act} {w : World}, Rel N w0 B0 φ Ss st a w → runA P N (ops.toList.map (·.dst)) l st K → wpList P ops (QR N w0 B0 Q) l a w
  | [], _, _, _, _, _, h, hr => ⟨_, _, _, hK _ hr, h⟩
  | o :: rest, φ, Ss, st, a, w, h, hr => by
    have ih := fun {φ : Refs} {Ss : List (List Nat)} {st : St} {a : Act} {w : World} => runA_sound (ops := ops) hK rest (φ := φ) (Ss := Ss) (st := st) (a := a) (w := w)
    simp only [runA] at hr; obtain ⟨hd, hr⟩ := hr; unfold wpList
    cases hgv : gval (ops.toList.map (·.dst)) st.env o.guard with
    | bad => rw [hgv] at hr; exact hr.elim
    | free =>
      rw [hgv] at hr; simp only at hr; rw [if_pos (gval_free hgv)]
      left
      unfold Oper.wp
      cases hcl : cls o.op with
      | bad => rw [hcl] at hr; exact hr.elim
      | pure =>
        rw [hcl] at hr; simp only at hr; obtain ⟨y, hy, hv⟩ := pure_upon h hr.1; rw [hy]
        exact ih (h.put hd hv) hr.2
      | alloc =>
        rw [hcl] at hr; simp only at hr; obtain ⟨y, w', hy, hm⟩ := evA_sound (own := Own Ss) (φ := φ) (w := w) (o := o) (fun x _ => act_eval h x) hr.1; obtain ⟨φ', Ss', hR, hv⟩ := h.made hm; rw [hy]
        exact ih (hR.put hd hv) hr.2
      | store =>
        rw [hcl] at hr; simp only at hr; split at hr
        · rename_i t pa va hop
          obtain ⟨w', Ss', hrun, hR⟩ := store_sound (P := P) h (act_eval h pa) (act_eval h va) hr.1
          have : (execOp a.eval o).run P w = .ok .skip w' := by
            unfold execOp; rw [hop]; simp only [Sem.run_bind, hrun, Result.andThen_ok, Sem.run_pure]
          rw [this]; exact ih (hR.put hd (.undef _)) hr.2
        · exact hr.elim
      | app =>
        rw [hcl] at hr; simp only at hr; split at hr
        · rename_i c hop
          split at hr
          · rename_i s x t xt ha ht
            obtain ⟨y, w', φ', Ss', hrun, hR, hv⟩ := app_sound (P := P) (ty := o.type) h (act_eval h s) (act_eval h x) hr.1
            have : (execOp a.eval o).run P w = .ok (.value y) w' := by
              have hcc : c.callee = .builtin .append := by
                rw [hop] at hcl; obtain ⟨callee, args, ats⟩ := c; unfold cls clsC at hcl
                cases callee with
                | value _ => cases hcl
                | invoke _ _ => cases hcl
                | builtin b => cases b <;> first | rfl | (simp at hcl)
              obtain ⟨callee, args, ats⟩ := c; simp only at ha ht hcc; subst hcc; have ea : args = #[s, x] := by rw [← Array.toArray_toList (xs := args), ha]
              have et : ats = #[t, xt] := by rw [← Array.toArray_toList (xs := ats), ht]
              subst ea; subst et; unfold execOp; rw [hop]; simp [resolve, invoke, builtin, hrun]
            rw [this]; exact ih (hR.put hd hv) hr.2
          · exact hr.elim
        · exact hr.elim
      | clr =>
        rw [hcl] at hr; simp only at hr; split at hr
        · rename_i c hop
          split at hr
          · rename_i x t ha ht
            obtain ⟨w', Ss', hrun, hR⟩ := clr_sound (P := P) (ty := o.type) h (act_eval h x) hr.1
            have : (execOp a.eval o).run P w = .ok (.value (.tuple #[])) w' := by
              have hcc : c.callee = .builtin .clear := by
                rw [hop] at hcl; obtain ⟨callee, args, ats⟩ := c; unfold cls clsC at hcl
                cases callee with
                | value _ => cases hcl
                | invoke _ _ => cases hcl
                | builtin b => cases b <;> first | rfl | (simp at hcl)
              obtain ⟨callee, args, ats⟩ := c; simp only at ha ht hcc; subst hcc; have ea : args = #[x] := by rw [← Array.toArray_toList (xs := args), ha]
              have et : ats = #[t] := by rw [← Array.toArray_toList (xs := ats), ht]
              subst ea; subst et; unfold execOp; rw [hop]; simp [resolve, invoke, builtin, hrun]
            rw [this]; exact ih (hR.put hd (.undef _)) hr.2
          · exact hr.elim
        · exact hr.elim
      | call =>
        rw [hcl] at hr; simp only at hr; split at hr
        · rename_i c hop
          split at hr
          · rename_i fid as hc
            obtain ⟨vs, hrun, hcr⟩ := call_run h hop hc hr.1 hr.2.1; rw [hrun]; refine (hr.2.2 φ Ss w vs h.hp hcr).mono fun e w' ⟨v, out, h', φ', Ss', e1, e2, e3, e4, e5, e6, e7⟩ => ?_; subst e1; exact ih ((h.call e3 e5 e6 e7).put hd e4) e2
          · exact hr.elim
        · exact hr.elim
    | on g =>
      rw [hgv] at hr; simp only at hr; have hw := gval_on h hgv
      rw [hw]
      cases hcl : cls o.op with
      | bad => rw [hcl] at hr; exact hr.elim
      | alloc => rw [hcl] at hr; exact hr.elim
      | store => rw [hcl] at hr; exact hr.elim
      | app => rw [hcl] at hr; exact hr.elim
      | clr => rw [hcl] at hr; exact hr.elim
      | pure =>
        rw [hcl] at hr; simp only at hr
        cases g with
        | true =>
          rw [if_pos rfl]
          left
          obtain ⟨y, hy, hv⟩ := pure_upon h (hr.1 rfl); unfold Oper.wp; rw [hy]
          exact ih (h.put hd (.condT _ _ _ hv)) hr.2
        | false =>
          rw [if_neg (by simp)]
          exact ih (h.put hd (.condF _)) hr.2
      | call =>
        rw [hcl] at hr; simp only at hr; split at hr
        · rename_i c hop
          split at hr
          · rename_i fid as hc
            obtain ⟨out, hr1, hr2⟩ := hr
            cases g with
            | true =>
              rw [if_pos rfl]
              left
              obtain ⟨hg, hcs⟩ := hr1 rfl; obtain ⟨vs, hrun, hcr⟩ := call_run h hop hc hg hcs.1; unfold Oper.wp; rw [hrun]; refine (hcs.2 φ Ss w vs h.hp hcr).mono fun e w' ⟨v, out', h', φ', Ss', e1, e2, e3, e4, e5, e6, e7⟩ => ?_
              obtain ⟨rfl, rfl⟩ := e2; subst e1
              exact ih ((h.call e3 e5 e6 e7).put hd (.condT _ _ _ e4)) hr2
            | false =>
              rw [if_neg (by simp)]; exact ih (h.put hd (.condF _)) hr2
          · exact hr.elim
        · exact hr.elim
end
end HK
namespace HK
open Go
def SW (P : Program) (N : Sz) (c : Code) (Q : Exit → St → Prop) (st : St) : Prop := ∀ w0 B0 φ Ss a w, Rel N w0 B0 φ Ss st a w → c.wp P (QR N w0 B0 Q) a w
def Wk (N : Sz) (st st' : St) : Prop := ∀ w0 B0 φ Ss a w, Rel N w0 B0 φ Ss st a w → ∃ φ' Ss', Rel N w0 B0 φ' Ss' st' a w
def Ex.then (K : St → Prop) (Q : Exit → St → Prop) : Exit → St → Prop
  | .normal, st => K st
  | e, st => Q e st
def Ex.ib (id : Nat) (Q : Exit → St → Prop) : Exit → St → Prop
  | .exit id', st => if id' = id then Q .normal st else Q (.exit id') st
  | e, st => Q e st
section
variable {P : Program} {N : Sz} {Q : Exit → St → Prop} {st : St}
theorem Wk.refl (N : Sz) (st : St) : Wk N st st := fun _ _ φ Ss _ _ h => ⟨φ, Ss, h⟩
theorem Wk.trans {a b c : St} (h : Wk N a b) (k : Wk N b c) : Wk N a c := fun w0 B0 φ Ss a w hR =>
  let ⟨φ', Ss', hR'⟩ := h w0 B0 φ Ss a w hR
  k w0 B0 φ' Ss' a w hR'
theorem SW.wk {c : Code} {st' : St} (h : Wk N st st') (k : SW P N c Q st') : SW P N c Q st := fun w0 B0 φ Ss a w hR =>
  let ⟨φ', Ss', hR'⟩ := h w0 B0 φ Ss a w hR
  k w0 B0 φ' Ss' a w hR'
theorem SW.mono {c : Code} {Q' : Exit → St → Prop} (h : SW P N c Q st) (hq : ∀ e s, Q e s → Q' e s) : SW P N c Q' st := fun w0 B0 φ Ss a w hR =>
  wp_mono (h w0 B0 φ Ss a w hR) fun _ _ _ ⟨s, φ', Ss', h1, h2⟩ => ⟨s, φ', Ss', hq _ _ h1, h2⟩
theorem SW.skip (h : Q .normal st) : SW P N .skip Q st := fun _ _ φ Ss _ _ hR => wp_skip ⟨st, φ, Ss, h, hR⟩
theorem SW.exit {id : Nat} (h : Q (.exit id) st) : SW P N (.exit id) Q st := fun _ _ φ Ss _ _ hR => wp_exit ⟨st, φ, Ss, h, hR⟩
theorem SW.ret (h : Q .ret st) : SW P N .ret Q st := fun _ _ φ Ss _ _ hR => wp_ret ⟨st, φ, Ss, h, hR⟩
theorem SW.seq {x y : Code} (h : SW P N x (Ex.then (SW P N y Q) Q) st) : SW P N (.seq x y) Q st := fun w0 B0 φ Ss a w hR =>
  wp_seq (wp_mono (h w0 B0 φ Ss a w hR) fun e a' w' ⟨s, φ', Ss', h1, h2⟩ => by
    cases e <;> first | exact h1 w0 B0 φ' Ss' a' w' h2 | exact ⟨s, φ', Ss', h1, h2⟩)
theorem SW.cond {c : Operand} {x y : Code} (b : Bool) (hc : st1 (ev st.env c) = .bool b) (hg : gk (ev st.env c)) (ht : b = true → SW P N x Q st) (hf : b = false → SW P N y Q st) : SW P N (.cond c x y) Q st := fun w0 B0 φ Ss a w hR => by
  have hv := (act_eval hR c).strip hg
  rw [hc] at hv
  generalize hx : a.eval c = v at hv
  cases hv
  exact wp_cond_split hx (fun e => ht e w0 B0 φ Ss a w hR) (fun e => hf e w0 B0 φ Ss a w hR)
theorem SW.block {id : Nat} {c : Code} (h : SW P N c (Ex.ib id Q) st) : SW P N (.block id c) Q st := fun w0 B0 φ Ss a w hR =>
  wp_block (wp_mono (h w0 B0 φ Ss a w hR) fun e a' w' ⟨s, φ', Ss', h1, h2⟩ => by
    cases e with
    | exit id' =>
      simp only [Ex.ib] at h1; simp only [Exit.inBlock]; split at h1
      · rename_i he; rw [if_pos he]; exact ⟨s, φ', Ss', h1, h2⟩
      · rename_i he; rw [if_neg he]; exact ⟨s, φ', Ss', h1, h2⟩
    | _ => exact ⟨s, φ', Ss', h1, h2⟩)
theorem SW.loop {α : Type} {c : Code} (inv : α → St) (p : α → Prop) (m : α → Nat) (x0 : α) (hp : p x0) (h0 : Wk N st (inv x0))
    (hr : ∀ x, p x → SW P N c (Ex.then (fun s => ∃ y, p y ∧ m y < m x ∧ Wk N s (inv y)) Q) (inv x)) : SW P N (.loop c) Q st := by
  intro w0 B0 φ0 Ss0 a0 w1 hR0; obtain ⟨φ1, Ss1, hR1⟩ := h0 w0 B0 φ0 Ss0 a0 w1 hR0; intro b k cs
  have key : ∀ n x φ Ss a w, m x = n → p x → Rel N w0 B0 φ Ss (inv x) a w →
      ∃ e a' w', QR N w0 B0 Q e a' w' ∧ Arrives P (lone (b.at a (.code c :: .inLoop c :: k)) cs w) b k cs e a' w' := by
    intro n
    induction n using Nat.strongRecOn with
    | _ n ih =>
      intro x φ Ss a w hm hpx hR; obtain ⟨e, a₁, w₁, ⟨s, φ', Ss', hq, hR'⟩, harr⟩ := hr x hpx w0 B0 φ Ss a w hR b (.inLoop c :: k) cs
      cases e with
      | normal =>
        obtain ⟨y, hpy, hlt, hwk⟩ := hq; obtain ⟨φ2, Ss2, hR2⟩ := hwk w0 B0 φ' Ss' a₁ w₁ hR'; obtain ⟨e₂, a₂, w₂, hq₂, harr₂⟩ := ih (m y) (hm ▸ hlt) y φ2 Ss2 a₁ w₁ rfl hpy hR2
        exact ⟨e₂, a₂, w₂, hq₂, .of_steps (Steps.trans harr (.one step_inLoop)) harr₂⟩
      | exit id => exact ⟨_, a₁, w₁, ⟨s, φ', Ss', hq, hR'⟩, .pass (x := .inLoop c) rfl (fun _ _ => .inl (by simp)) harr⟩
      | goto l => exact ⟨_, a₁, w₁, ⟨s, φ', Ss', hq, hR'⟩, .pass (x := .inLoop c) rfl (fun _ _ => .inl (by simp)) harr⟩
      | ret => exact ⟨_, a₁, w₁, ⟨s, φ', Ss', hq, hR'⟩, .pass (x := .inLoop c) rfl (fun _ _ => .inl (by simp)) harr⟩
      | panic ch => exact ⟨_, a₁, w₁, ⟨s, φ', Ss', hq, hR'⟩, .pass (x := .inLoop c) rfl (fun _ _ => .inl (by simp)) harr⟩
      | outgrown => exact ⟨_, a₁, w₁, ⟨s, φ', Ss', hq, hR'⟩, .pass (x := .inLoop c) rfl (fun _ _ => .inl (by simp)) harr⟩
  obtain ⟨e, a', w', hq, harr⟩ := key _ x0 φ1 Ss1 a0 w1 rfl hp hR1; exact ⟨e, a', w', hq, .of_steps (.one step_loop) harr⟩
theorem SW.region {id : Nat} {l : List Oper} (h : runA P N (l.map (·.dst)) l st (Q .normal)) : SW P N (.region id l.toArray false) Q st := fun w0 B0 φ Ss a w hR =>
  wp_region_lit (runA_sound (ops := l.toArray) (K := Q .normal) (fun _ h => h) l hR (by simpa using h))
def subE (env : Env) : Env → Prop
  | [] => True
  | (k, v) :: e => lk env k = v ∧ subE env e
theorem subE_lk {env : Env} : ∀ {e : Env}, subE env e → ∀ t, lk e t = lk env t ∨ lk e t = .undef
  | [], _, _ => .inr rfl
  | (k, v) :: e, h, t => by
    simp only [lk]; split
    · rename_i hk; subst hk; exact .inl h.1.symm
    · exact subE_lk h.2 t
def lowN : Nat → Nat → AV → Bool
  | 0, _, _ => false
  | d + 1, n, v => match v with
    | .sl id _ _ | .ptr id _ _ => decide (id < n)
    | .agg cs | .tup cs => cs.all (lowN d n)
    | .fn _ f c => f.all (lowN d n) && c.all (lowN d n)
    | .cond _ v => lowN d n v
    | _ => true
section
variable {w : World} {own : Nat → Prop} {n : Nat}
theorem cr_low {φ φ' : Refs} {p : AV → Bool} (hf : ∀ v x S, VR w own φ v x S → p v = true → VR w own φ' v x S) : ∀ {cs : List AV} {vs : List Value} {S : List Nat}, CR w own φ cs vs S → cs.all p = true → CR w own φ' cs vs S
  | [], _, _, k, _ => by cases k; exact .nil
  | c :: cs, _, _, k, h => by
    obtain ⟨v, us, S1, S2, rfl, rfl, k1, k2⟩ := k.uncons; simp only [List.all_cons, Bool.and_eq_true] at h; exact .cons _ _ _ _ _ _ (hf _ _ _ k1 h.1) (cr_low hf k2 h.2)
theorem VR.low : ∀ (d : Nat) {φ φ' : Refs} {v : AV} {x : Value} {S : List Nat}, (∀ id, id < n → φ' id = φ id) → VR w own φ v x S → lowN d n v = true → VR w own φ' v x S
  | 0, _, _, _, _, _, _, _, hl => by simp [lowN] at hl
  | d + 1, _, _, _, _, _, hφ, k, hl => by
    cases k with
    | undef _ => exact .undef _
    | nil A => exact .nil A
    | bool b => exact .bool b
    | int k n => exact .int k n
    | str s => exact .str s
    | con _ => exact .con _
    | fz0 A cap => exact .fz0 A cap
    | fz es sz A cap vs hlt ho hu hcap hs hc => exact .fz es sz A cap vs hlt ho hu hcap hs hc
    | own0 sz A => exact .own0 sz A
    | own es sz rb o cap lim vs S hr hu hcap hlim hs hc => exact .own es sz rb o cap lim vs S hr hu hcap hlim hs hc
    | sl0 id off r A hr => simp only [lowN, decide_eq_true_eq] at hl; exact .sl0 id off r A ((hφ id hl).trans hr)
    | sl id off len cap r hr hcap hlim => simp only [lowN, decide_eq_true_eq] at hl; exact .sl id off len cap r ((hφ id hl).trans hr) hcap hlim
    | ptr id i j r hr => simp only [lowN, decide_eq_true_eq] at hl; exact .ptr id i j r ((hφ id hl).trans hr)
    | fptr es sz A vs i j hlt ho hu hs hc => exact .fptr es sz A vs i j hlt ho hu hs hc
    | agg cs vs S hc => simp only [lowN] at hl; exact .agg _ _ _ (cr_low (fun v x S k h => VR.low d hφ k h) hc hl)
    | tup cs vs S hc => simp only [lowN] at hl; exact .tup _ _ _ (cr_low (fun v x S k h => VR.low d hφ k h) hc hl)
    | fn f first cap fs cs hc hc' =>
      simp only [lowN, Bool.and_eq_true] at hl
      exact .fn _ _ _ _ _ (cr_low (fun v x S k h => VR.low d hφ k h) hc hl.1) (cr_low (fun v x S k h => VR.low d hφ k h) hc' hl.2)
    | condT y x S hv => simp only [lowN] at hl; exact .condT _ _ _ (VR.low d hφ hv hl)
    | condF y => exact .condF y
end
def cutH : Heap → Heap → Prop
  | _, [] => True
  | [], _ :: _ => False
  | x :: h, y :: h' => (y = x ∨ y = none) ∧ cutH h h'
theorem cutH_spec : ∀ {h h' : Heap}, cutH h h' → h'.length ≤ h.length ∧ ∀ (id : Nat) (b : Blk), h'[id]? = some (some b) → h[id]? = some (some b)
  | _, [], _ => ⟨by simp, fun id b hb => by simp at hb⟩
  | [], _ :: _, h => h.elim
  | x :: h, y :: h', hc => by
    obtain ⟨h1, h2⟩ := cutH_spec hc.2; refine ⟨by simp; exact h1, fun id b hb => ?_⟩
    cases id with
    | zero =>
      simp at hb; rcases hc.1 with e | e
      · simp [← e, hb]
      · rw [e] at hb; cases hb
    | succ id => simpa using h2 id b (by simpa using hb)
def lowE (n : Nat) : Env → Bool
  | [] => true
  | (_, v) :: e => lowN 4 n v && lowE n e
theorem lowE_lk {n : Nat} : ∀ {e : Env}, lowE n e = true → ∀ t, lowN 4 n (lk e t) = true
  | [], _, _ => by simp [lk, lowN]
  | (k, v) :: e, h, t => by
    simp only [lowE, Bool.and_eq_true] at h; simp only [lk]; split
    · exact h.1
    · exact lowE_lk h.2 t
def lowB (n : Nat) : Option Blk → Bool
  | none => true
  | some b => b.es.all fun e => e.all (lowN 2 n)
theorem Wk.cut {env' : Env} {h' : Heap} (h0 : N.b ≤ h'.length) (h1 : subE st.env env') (h2 : cutH st.heap h') (h3 : lowE h'.length env' = true) (h4 : ∀ x ∈ h', lowB h'.length x = true) : Wk N st ⟨env', h'⟩ := by
  intro w0 B0 φ Ss a w hR; obtain ⟨hl, hc⟩ := cutH_spec h2
  let φ' : Refs := fun id => if id < h'.length then φ id else none
  have hφ : ∀ id, id < h'.length → φ' id = φ id := fun id hid => by simp only [φ']; rw [if_pos hid]
  have hsub : (Ss.take h'.length).flatten.Sublist Ss.flatten := by
    conv => rhs; rw [← List.take_append_drop h'.length Ss, List.flatten_append]
    exact List.sublist_append_left _ _
  have hfz : ∀ b, b < w.heap.size → ¬ Own Ss b → ¬ Own (Ss.take h'.length) b ∧ w.heap[b]? = w.heap[b]? := fun b _ ho => ⟨fun hb => ho (hsub.subset hb), rfl⟩
  refine ⟨φ', Ss.take h'.length, fun t => ?_, fun id b hid => ?_, by rw [List.length_take, hR.len, Nat.min_eq_left hl], fun id hid => if_neg (Nat.not_lt.2 hid), hR.nodup.sublist hsub, fun b hb => hR.bound b (hsub.subset hb), hR.fr, hR.size, hR.defers, hR.cx, fun i r e => ?_⟩
  · have hv : VR w (Own Ss) φ' (lk env' t) (a.tmps.getD t Go.undef) [] := by
      rcases subE_lk h1 t with e | e
      · exact VR.low 4 hφ (by rw [e]; exact hR.env t) (lowE_lk h3 t)
      · rw [e]; exact .undef _
    exact hv.tr hfz (Nat.le_refl _) (fun _ _ e => e) (fun _ _ => rfl)
  · obtain ⟨S, q1, q2⟩ := hR.heap id b (hc id b hid)
    have hidl : id < h'.length := (List.getElem?_eq_some_iff.1 hid).1
    refine ⟨S, by rw [List.getElem?_take, if_pos hidl]; exact q1, ?_⟩; have hlow : (b.es.all fun e => e.all (lowN 2 h'.length)) = true := h4 _ (List.mem_of_getElem? hid)
    have q3 : BR w (Own Ss) φ' id b S := by
      rcases q2 with ⟨e1, e2, e3⟩ | ⟨r, vs, T, e1, e2, e3, e4, e5, e6, e7, e8⟩
      · exact .inl ⟨(hφ id hidl).trans e1, e2, e3⟩
      · refine .inr ⟨r, vs, T, (hφ id hidl).trans e1, e2, e3, e4, e5, e6, cr_low (fun v x S k h => VR.low 2 hφ k h) e7 ?_, e8⟩
        rw [List.all_eq_true] at hlow ⊢; intro v hv; obtain ⟨e, he, hve⟩ := List.mem_flatten.1 hv; exact List.all_eq_true.1 (hlow e he) v hve
    exact q3.tr hfz (Nat.le_refl _) (fun _ _ e => e) (fun _ _ => rfl)
  · have hi : i < h'.length := by
      rcases Nat.lt_or_ge i N.b with hlt | hge
      · omega
      · rw [hR.cx i hge] at e; cases e
    exact (hφ i hi).trans (hR.keep i r e)
end
end HK
namespace HK
open Go
def resL (P : Program) (h : Heap) (env : Env) : List ResultVar → Prop × List AV
  | [] => (True, [])
  | .tmp t :: l => (gk (lk env t) ∧ (resL P h env l).1, st1 (lk env t) :: (resL P h env l).2)
  | .cell a t :: l => match tk P t with
    | some (g, n) => ((loadV h g n (lk env a)).1 ∧ (resL P h env l).1, (loadV h g n (lk env a)).2 :: (resL P h env l).2)
    | none => (False, [])
def tupA : List AV → AV
  | [v] => v
  | vs => .tup vs
def strN : Nat → AV → Bool
  | 0, _ => false
  | d + 1, v => match v with
    | .own _ es => es.all fun e => e.all (strN d)
    | .fz [] | .nil | .bool _ | .int _ _ | .str _ | .undef => true
    | _ => false
def pkC (h : Heap) : AV → AV
  | .sl id off len => match hb h id with
    | some b => .own b.sz ((b.es.drop off).take len)
    | none => .undef
  | v => v
def pk1 (h : Heap) : AV → AV
  | .agg cs => .agg (cs.map (pkC h))
  | v => pkC h v
def pk (h : Heap) : AV → AV
  | .tup vs => .tup (vs.map (pk1 h))
  | v => pk1 h v
def okC' (h : Heap) : AV → Prop
  | .sl id off len => match hb h id with
    | some b => off + len ≤ b.es.length ∧ ((b.es.drop off).take len).all (fun e => e.all (strN 4)) = true
    | none => False
  | v => strN 4 v = true
def okCs (h : Heap) : List AV → Prop
  | [] => True
  | v :: l => okC' h v ∧ okCs h l
def ok1 (h : Heap) : AV → Prop
  | .agg cs => okCs h cs
  | v => okC' h v
def ok1s (h : Heap) : List AV → Prop
  | [] => True
  | v :: l => ok1 h v ∧ ok1s h l
def okPk (h : Heap) : AV → Prop
  | .tup vs => ok1s h vs
  | v => ok1 h v
def idC : AV → List Nat
  | .sl id _ _ => [id]
  | _ => []
def id1 : AV → List Nat
  | .agg cs => cs.flatMap idC
  | v => idC v
def idP : AV → List Nat
  | .tup vs => vs.flatMap id1
  | v => id1 v
section
variable {w : World} {own : Nat → Prop} {φ : Refs} {h : Heap} {Ss : List (List Nat)}
abbrev All : Nat → Prop := fun _ => True
theorem cr_str {φ φ' : Refs} {p : AV → Bool} {own' : Nat → Prop} (hf : ∀ v x S, VR w own φ v x S → p v = true → VR w own' φ' v x S) : ∀ {cs : List AV} {vs : List Value} {S : List Nat}, CR w own φ cs vs S → cs.all p = true → CR w own' φ' cs vs S
  | [], _, _, k, _ => by cases k; exact .nil
  | c :: cs, _, _, k, h => by
    obtain ⟨v, us, S1, S2, rfl, rfl, k1, k2⟩ := k.uncons; simp only [List.all_cons, Bool.and_eq_true] at h; exact .cons _ _ _ _ _ _ (hf _ _ _ k1 h.1) (cr_str hf k2 h.2)
theorem VR.strict : ∀ (d : Nat) {φ : Refs} {v : AV} {x : Value} {S : List Nat}, VR w own φ v x S → strN d v = true → VR w All nof v x S
  | 0, _, _, _, _, _, hl => by simp [strN] at hl
  | d + 1, _, _, _, _, k, hl => by
    cases k with
    | undef _ => exact .undef _
    | nil A => exact .nil A
    | bool b => exact .bool b
    | int k n => exact .int k n
    | str s => exact .str s
    | fz0 A cap => exact .fz0 A cap
    | own0 sz A => exact .own0 sz A
    | own es sz rb o cap lim vs S hr hu hcap hlim hs hc =>
      refine .own es sz rb o cap lim vs S hr hu hcap hlim hs (cr_str (fun v x S k h => VR.strict d k h) hc ?_); simp only [strN] at hl; rw [List.all_eq_true] at hl ⊢; intro v hv; obtain ⟨e, he, hve⟩ := List.mem_flatten.1 hv
      exact List.all_eq_true.1 (hl e he) v hve
    | fz es _ _ _ _ _ _ _ _ _ _ => cases es with
      | nil => exact .fz0 _ _
      | cons _ _ => simp [strN] at hl
    | _ => simp [strN] at hl
theorem nodup_disj {Ss : List (List Nat)} (hn : Ss.flatten.Nodup) {i j : Nat} {S S' : List Nat} (hi : Ss[i]? = some S) (hj : Ss[j]? = some S') (hne : i ≠ j) {b : Nat} (hb : b ∈ S) : b ∉ S' := by
  intro hb'; obtain ⟨A, B, e1, e2⟩ := flatten_set hi []; obtain ⟨A', B', f1, f2⟩ := flatten_set (l := Ss.set i []) (id := j) (S := S') (by rw [List.getElem?_set_ne hne]; exact hj) []
  have h1 : b ∈ A ++ B := by
    have : b ∈ (Ss.set i []).flatten := by rw [f1]; simp [hb']
    rw [e2] at this; simpa using this
  rw [e1, List.nodup_append] at hn; rcases List.mem_append.1 h1 with h | h
  · exact hn.2.2 b h b (List.mem_append_left _ hb) rfl
  · have := hn.2.1
    rw [List.nodup_append] at this; exact this.2.2 b hb b h rfl
def Under (Ss : List (List Nat)) (ids : List Nat) (S : List Nat) : Prop := S.Nodup ∧ ∀ b ∈ S, ∃ id ∈ ids, ∃ T, Ss[id]? = some T ∧ b ∈ T
theorem Under.app (hn : Ss.flatten.Nodup) {i j : List Nat} {S T : List Nat} (h : Under Ss i S) (k : Under Ss j T) (hd : (i ++ j).Nodup) : Under Ss (i ++ j) (S ++ T) := by
  refine ⟨?_, fun b hb => ?_⟩
  · rw [List.nodup_append]
    refine ⟨h.1, k.1, fun x hx y hy e => ?_⟩; subst e; obtain ⟨a, ha, A, e1, e2⟩ := h.2 x hx; obtain ⟨c, hc, C, f1, f2⟩ := k.2 x hy; rw [List.nodup_append] at hd; exact nodup_disj hn e1 f1 (hd.2.2 a ha c hc) e2 f2
  · rcases List.mem_append.1 hb with hb | hb
    · obtain ⟨a, ha, r⟩ := h.2 b hb; exact ⟨a, List.mem_append_left _ ha, r⟩
    · obtain ⟨a, ha, r⟩ := k.2 b hb; exact ⟨a, List.mem_append_right _ ha, r⟩
theorem pkC_sound (hh : HR w own φ h Ss) (hn : Ss.flatten.Nodup) {v : AV} {x : Value} (k : VR w own φ v x []) (ok : okC' h v) : ∃ S, VR w All nof (pkC h v) x S ∧ Under Ss (idC v) S := by
  by_cases hs : ∃ id off len, v = .sl id off len
  · obtain ⟨id, off, len, rfl⟩ := hs
    simp only [okC'] at ok
    cases hb' : hb h id with
    | none => simp [hb'] at ok
    | some b =>
      simp only [hb'] at ok; obtain ⟨hle, hst⟩ := ok; simp only [pkC, hb', idC]
      cases k with
      | sl0 _ _ r A hr => exact ⟨[], by simp only [List.take_zero]; exact .own0 _ _, by simp, by simp⟩
      | sl _ _ _ cap r hr hcap hlim =>
        obtain ⟨S, hS, hB⟩ := hh id b (hb_spec hb'); rcases hB with ⟨h1, _, _⟩ | ⟨r', vs, T, h1, h2, h3, h4, h5, h6, h7, rfl⟩
        · rw [hr] at h1; cases h1
        · rw [hr] at h1; cases h1
          obtain ⟨f1, f2, f3, f4⟩ := es_part h4 hle; rw [f1] at h7; obtain ⟨v1, v2', S1, S2', rfl, rfl, c1, c2⟩ := h7.split; obtain ⟨v2, v3, S2, S3, rfl, rfl, c2, c3⟩ := c2.split; have hseg := seg_mid h6
          rw [add_row, ← c1.length, f2, ← h2] at hseg
          have hc : CR w All nof ((b.es.drop off).take len).flatten v2 S2 := by
            refine cr_str (fun v x S k h => VR.strict 4 k h) c2 ?_; rw [List.all_eq_true] at hst ⊢; intro v hv; obtain ⟨e, he, hve⟩ := List.mem_flatten.1 hv; exact List.all_eq_true.1 (hst e he) v hve
          have hsub : (r.rb :: S2).Sublist (r.rb :: (S1 ++ (S2 ++ S3))) :=
            List.Sublist.cons_cons _ ((List.sublist_append_left S2 S3).trans (List.sublist_append_right S1 (S2 ++ S3)))
          have hnd : (r.rb :: (S1 ++ (S2 ++ S3))).Nodup := by
            obtain ⟨A, B, e1, _⟩ := flatten_set hS []; rw [e1, List.nodup_append] at hn; exact (List.nodup_append.1 hn.2.1).1
          refine ⟨r.rb :: S2, ?_, hnd.sublist hsub, fun y hy => ⟨id, by simp, _, hS, hsub.subset hy⟩⟩
          have := VR.own (w := w) (own := All) (φ := nof) ((b.es.drop off).take len) b.sz r.rb (r.base + off * r.sz) cap r.lim v2 S2 h3 (fun e he => h4 e (List.mem_of_mem_drop (List.mem_of_mem_take he))) (by rw [f4]; exact hcap)
            (by rw [← h2]; rw [Nat.add_mul] at hlim; omega) hseg hc
          rwa [f4] at this
  · have e1 : pkC h v = v := by cases v <;> first | rfl | exact (hs ⟨_, _, _, rfl⟩).elim
    have e2 : okC' h v = (strN 4 v = true) := by cases v <;> first | rfl | exact (hs ⟨_, _, _, rfl⟩).elim
    rw [e2] at ok; rw [e1]; exact ⟨[], VR.strict 4 k ok, by simp, by simp⟩
theorem pkCs_sound (hh : HR w own φ h Ss) (hn : Ss.flatten.Nodup) : ∀ {cs : List AV} {xs : List Value} {S : List Nat}, CR w own φ cs xs S → S = [] → okCs h cs → (cs.flatMap idC).Nodup → ∃ S', CR w All nof (cs.map (pkC h)) xs S' ∧ Under Ss (cs.flatMap idC) S'
  | [], _, _, k, _, _, _ => by cases k; exact ⟨[], .nil, by simp, by simp⟩
  | c :: cs, _, _, k, hS, ok, hd => by
    obtain ⟨v, us, S1, S2, rfl, rfl, k1, k2⟩ := k.uncons; obtain ⟨rfl, rfl⟩ := List.append_eq_nil_iff.1 hS; simp only [List.flatMap_cons] at hd ⊢; obtain ⟨T1, q1, q2⟩ := pkC_sound hh hn k1 ok.1
    obtain ⟨T2, q3, q4⟩ := pkCs_sound hh hn k2 rfl ok.2 (List.nodup_append.1 hd).2.1; exact ⟨T1 ++ T2, by simpa using CR.cons _ _ _ _ _ _ q1 q3, q2.app hn q4 hd⟩
theorem pk1_sound (hh : HR w own φ h Ss) (hn : Ss.flatten.Nodup) {v : AV} {x : Value} (k : VR w own φ v x []) (ok : ok1 h v) (hd : (id1 v).Nodup) : ∃ S, VR w All nof (pk1 h v) x S ∧ Under Ss (id1 v) S := by
  by_cases ha : ∃ cs, v = .agg cs
  · obtain ⟨cs, rfl⟩ := ha
    cases k with
    | agg _ vs _ hc =>
      obtain ⟨S, q1, q2⟩ := pkCs_sound hh hn hc rfl ok hd; exact ⟨S, .agg _ _ _ q1, q2⟩
  · have e1 : pk1 h v = pkC h v := by cases v <;> first | rfl | exact (ha ⟨_, rfl⟩).elim
    have e2 : ok1 h v = okC' h v := by cases v <;> first | rfl | exact (ha ⟨_, rfl⟩).elim
    have e3 : id1 v = idC v := by cases v <;> first | rfl | exact (ha ⟨_, rfl⟩).elim
    rw [e2] at ok; rw [e1, e3]; exact pkC_sound hh hn k ok
theorem pk1s_sound (hh : HR w own φ h Ss) (hn : Ss.flatten.Nodup) : ∀ {cs : List AV} {xs : List Value} {S : List Nat}, CR w own φ cs xs S → S = [] → ok1s h cs → (cs.flatMap id1).Nodup → ∃ S', CR w All nof (cs.map (pk1 h)) xs S' ∧ Under Ss (cs.flatMap id1) S'
  | [], _, _, k, _, _, _ => by cases k; exact ⟨[], .nil, by simp, by simp⟩
  | c :: cs, _, _, k, hS, ok, hd => by
    obtain ⟨v, us, S1, S2, rfl, rfl, k1, k2⟩ := k.uncons; obtain ⟨rfl, rfl⟩ := List.append_eq_nil_iff.1 hS; simp only [List.flatMap_cons] at hd ⊢; obtain ⟨T1, q1, q2⟩ := pk1_sound hh hn k1 ok.1 (List.nodup_append.1 hd).1
    obtain ⟨T2, q3, q4⟩ := pk1s_sound hh hn k2 rfl ok.2 (List.nodup_append.1 hd).2.1; exact ⟨T1 ++ T2, by simpa using CR.cons _ _ _ _ _ _ q1 q3, q2.app hn q4 hd⟩
theorem pk_sound (hh : HR w own φ h Ss) (hn : Ss.flatten.Nodup) {v : AV} {x : Value} (k : VR w own φ v x []) (ok : okPk h v) (hd : (idP v).Nodup) : ∃ S, VR w All nof (pk h v) x S ∧ Under Ss (idP v) S := by
  by_cases ha : ∃ cs, v = .tup cs
  · obtain ⟨cs, rfl⟩ := ha
    cases k with
    | tup _ vs _ hc =>
      obtain ⟨S, q1, q2⟩ := pk1s_sound hh hn hc rfl ok hd; exact ⟨S, .tup _ _ _ q1, q2⟩
  · have e1 : pk h v = pk1 h v := by cases v <;> first | rfl | exact (ha ⟨_, rfl⟩).elim
    have e2 : okPk h v = ok1 h v := by cases v <;> first | rfl | exact (ha ⟨_, rfl⟩).elim
    have e3 : idP v = id1 v := by cases v <;> first | rfl | exact (ha ⟨_, rfl⟩).elim
    rw [e2] at ok; rw [e3] at hd; rw [e1, e3]; exact pk1_sound hh hn k ok hd
end
section
variable {P : Program} {N : Sz} {w0 : World} {B0 : Cx} {φ : Refs} {Ss : List (List Nat)} {st : St} {a : Act} {w : World}
theorem loadVar_sound (hh : HR w (Own Ss) φ st.heap Ss) {t : TypeId} {g : Bool} {n : Nat} (ht : tk P t = some (g, n)) {v : AV} {x : Value} (hv : VR w (Own Ss) φ v x []) (ok : (loadV st.heap g n v).1) :
    ∃ A y, x = .pointer (some A) ∧ (loadVar t A).run P w = .ok y w ∧ VR w (Own Ss) φ (loadV st.heap g n v).2 y [] := by
  obtain ⟨y, h1, h2⟩ := loadV_sound (P := P) hh ht hv ok
  cases hv with
  | ptr id i j r hr => exact ⟨_, y, rfl, by simpa [Instr.loadAt, Instr.sureAddr] using h1, h2⟩
  | fptr es sz A vs i j hlt ho hu hs hc => exact ⟨_, y, rfl, by simpa [Instr.loadAt, Instr.sureAddr] using h1, h2⟩
  | _ => simp [loadV] at ok
def rvF (tmps : Array Value) : ResultVar → Sem Value
  | .tmp t => pure (tmps.getD t Go.undef)
  | .cell c t => do loadVar t (← asAddr (tmps.getD c Go.undef))
theorem results_eq (fn : Func) (tmps : Array Value) : results fn tmps = (do let vs ← fn.results.mapM (rvF tmps); pure (if h : vs.size = 1 then vs[0] else .tuple vs)) := by
  unfold results
  congr 1
theorem resL_sound (h : Rel N w0 B0 φ Ss st a w) : ∀ (l : List ResultVar), (resL P st.heap st.env l).1 →
    ∃ ys, (l.mapM (rvF a.tmps)).run P w = .ok ys w ∧ CR w (Own Ss) φ (resL P st.heap st.env l).2 ys []
  | [], _ => ⟨[], by simp, .nil⟩
  | .tmp t :: l, ok => by
    simp only [resL] at ok ⊢; obtain ⟨ys, h1, h2⟩ := resL_sound h l ok.2; refine ⟨a.tmps.getD t Go.undef :: ys, ?_, ?_⟩
    · rw [List.mapM_cons, Sem.run_bind]
      simp only [rvF, Sem.run_pure, Result.andThen_ok, Sem.run_bind, h1]
    · have := CR.cons _ _ _ _ _ _ ((h.env t).strip ok.1) h2
      simpa using this
  | .cell c t :: l, ok => by
    simp only [resL] at ok ⊢
    cases ht : tk P t with
    | none => simp [ht] at ok
    | some gn =>
      obtain ⟨g, n⟩ := gn; simp only [ht] at ok ⊢; obtain ⟨ys, h1, h2⟩ := resL_sound h l ok.2; obtain ⟨A, y, e1, e2, e3⟩ := loadVar_sound (P := P) h.heap ht (h.env c) ok.1; refine ⟨y :: ys, ?_, ?_⟩
      · rw [List.mapM_cons, Sem.run_bind]
        have h3 : (rvF a.tmps (.cell c t)).run P w = .ok y w := by simp only [rvF, e1, asAddr, Sem.run_bind, Sem.run_pure, Result.andThen_ok, e2]
        simp only [h3, Sem.run_bind, Sem.run_pure, Result.andThen_ok, h1]
      · have := CR.cons _ _ _ _ _ _ e3 h2
        simpa using this
theorem results_sound (h : Rel N w0 B0 φ Ss st a w) {fn : Func} (ok : (resL P st.heap st.env fn.results.toList).1) :
    ∃ y, (results fn a.tmps).run P w = .ok y w ∧ VR w (Own Ss) φ (tupA (resL P st.heap st.env fn.results.toList).2) y [] := by
  obtain ⟨ys, h1, h2⟩ := resL_sound h _ ok
  have hm : (fn.results.mapM (rvF a.tmps)).run P w = .ok ys.toArray w := by
    rw [← Array.toList_mapM] at h1
    have : ∀ {α} (s : Sem (Array α)) (l : List α), ((Array.toList <$> s).run P w = .ok l w) → s.run P w = .ok l.toArray w := by
      intro α s l hs; simp only [Sem.run_map] at hs
      cases hs' : s.run P w with
      | ok a w' => rw [hs'] at hs; simp at hs; obtain ⟨rfl, rfl⟩ := hs; simp
      | halt x w' => rw [hs'] at hs; simp at hs
    exact this _ _ h1
  refine ⟨if h : ys.toArray.size = 1 then ys.toArray[0] else .tuple ys.toArray, ?_, ?_⟩
  · rw [results_eq, Sem.run_bind, hm]
    simp only [Result.andThen_ok, Sem.run_pure]
  · generalize hl : (resL P st.heap st.env fn.results.toList).2 = l at h2
    match l, ys, h2 with
    | [v], [y], h2 =>
      obtain ⟨y', e, hv⟩ := h2.head; cases e
      simpa [tupA] using hv
    | [], [], h2 => exact .tup _ _ _ h2
    | v :: v' :: l, y :: y' :: ys, h2 =>
      have := VR.tup _ _ _ h2
      simpa [tupA] using this
    | [v], [], h2 => cases h2
    | [v], y :: y' :: ys, h2 => have := h2.length; simp at this
    | v :: v' :: l, [], h2 => cases h2
    | v :: v' :: l, [y], h2 => have := h2.length; simp at this
end
def envOf : List AV → Nat → Env
  | [], _ => []
  | a :: l, n => (n, a) :: envOf l (n + 1)
theorem envOf_lk : ∀ (l : List AV) (n t : Nat), lk (envOf l n) t = if n ≤ t then l.getD (t - n) .undef else .undef
  | [], n, t => by simp [envOf, lk]
  | a :: l, n, t => by
    simp only [envOf, lk]; by_cases e : t = n
    · subst e; simp
    · rw [if_neg e, envOf_lk l (n + 1) t]
      by_cases h : n ≤ t
      · rw [if_pos (by omega), if_pos h, show t - n = (t - (n + 1)) + 1 by omega]; simp
      · rw [if_neg (by omega), if_neg h]
def isRet : Exit → Prop
  | .ret | .normal => True
  | _ => False
section
variable {P : Program}
theorem rel_enter {φ : Refs} {Ss : List (List Nat)} {h : Heap} {w : World} (hp : HP φ Ss h w) {args : List AV} {vs : List Value} (hc : CR w (Own Ss) φ args vs []) {n : Nat} (hn : args.length ≤ n) :
    Rel ⟨n, h.length⟩ w ⟨Ss.flatten, φ⟩ φ Ss ⟨envOf args 0, h⟩ { tmps := vs.toArray ++ Array.replicate (n - vs.toArray.size) Go.undef, defers := [] } w := by
  have hl := hc.length
  refine ⟨fun t => ?_, hp.heap, hp.len, hp.fresh, hp.nodup, fun b hb => ⟨hp.bound b hb, .inl hb⟩, .refl _ _, by simp; omega, rfl, hp.fresh, fun _ _ e => e⟩; rw [envOf_lk, if_pos (Nat.zero_le _), Nat.sub_zero]; by_cases ht : t < args.length
  · have : args[t]? = some (args.getD t .undef) := by rw [List.getD_eq_getElem?_getD, List.getElem?_eq_getElem ht]; rfl
    obtain ⟨v, S', h1, h2, h3⟩ := hc.get this
    have hS : S' = [] := by cases S' with
      | nil => rfl
      | cons b _ => exact absurd (h3 b (List.mem_cons_self ..)) (by simp)
    subst hS
    have e : (vs.toArray ++ Array.replicate (n - vs.toArray.size) Go.undef).getD t Go.undef = v := by
      rw [Array.getD_eq_getD_getElem?, Array.getElem?_append_left (by simp; omega)]; simp [h1]
    show VR w (Own Ss) φ (args.getD t .undef) ((vs.toArray ++ Array.replicate (n - vs.toArray.size) Go.undef).getD t Go.undef) []
    rw [e]; exact h2
  · rw [List.getD_eq_getElem?_getD, List.getElem?_eq_none (by omega)]
    exact .undef _
theorem CallS.intro {n : Nat} {f : FuncId} {fn : Func} {c : Code} {args : List AV} {h : Heap} {Q : AV → Heap → Prop} (hf : P.funcs[f]? = some fn) (hn : ¬ fn.name = "runtime.NumGoroutine") (hb : fn.body = some c) {rs : List ResultVar} (hrs : fn.results.toList = rs) (hnt : fn.ntmps = n) (hN : args.length ≤ n)
    (hs : SW P ⟨n, h.length⟩ c (fun e st => isRet e ∧ (resL P st.heap st.env rs).1 ∧ Q (tupA (resL P st.heap st.env rs).2) st.heap) ⟨envOf args 0, h⟩) : CallS P f args h Q := by
  subst hrs; subst hnt; refine ⟨⟨fn, hf, hn, by rw [hb]; simp⟩, fun φ Ss w vs hp hc => calls_of_wp hf hb ?_⟩; refine wp_mono (hs w ⟨Ss.flatten, φ⟩ φ Ss _ w (rel_enter hp hc hN)) fun e a' w' ⟨st, φ', Ss', ⟨h1, h2, h3⟩, hR⟩ => ?_
  obtain ⟨y, hy, hv⟩ := results_sound (P := P) hR h2
  have fin : a'.defers = [] ∧ ∃ v, (results fn a'.tmps).run P w' = .ok v w' ∧ ∃ v' out h' φ' Ss', Ending.returned v = .returned v' ∧ Q out h' ∧ HP φ' Ss' h' w' ∧ VR w' (Own Ss') φ' out v' [] ∧ (∀ id r, φ id = some r → φ' id = some r) ∧ (∀ b, Own Ss' b → Own Ss b ∨ w.heap.size ≤ b) ∧ Fr w Ss.flatten w' :=
    ⟨hR.defers, y, hy, y, _, _, φ', Ss', rfl, h3, hR.hp, hv, hR.keep, fun b hb => (hR.bound b hb).2, hR.fr⟩
  cases e <;> first | exact fin | exact h1.elim
theorem Fn.intro {n : Nat} {f : FuncId} {fn : Func} {c : Code} {args : List AV} {out : AV} (hf : P.funcs[f]? = some fn) (hn : ¬ fn.name = "runtime.NumGoroutine") (hb : fn.body = some c) {rs : List ResultVar} (hrs : fn.results.toList = rs) (hnt : fn.ntmps = n) (hN : args.length ≤ n)
    (hs : SW P ⟨n, 0⟩ c (fun e st => isRet e ∧ (resL P st.heap st.env rs).1 ∧ okPk st.heap (tupA (resL P st.heap st.env rs).2) ∧ (idP (tupA (resL P st.heap st.env rs).2)).Nodup ∧
      pk st.heap (tupA (resL P st.heap st.env rs).2) = out) ⟨envOf args 0, []⟩) : Fn P f args out := by
  have hC := CallS.intro (args := args) (h := []) (Q := fun o h' => okPk h' o ∧ (idP o).Nodup ∧ pk h' o = out) hf hn hb hrs hnt hN (by simpa using hs)
  refine ⟨hC.1, fun w vs hc => ?_⟩; have hp : HP nof [] [] w := ⟨fun id b hb => by simp at hb, rfl, fun _ _ => rfl, by simp, fun b hb => by simp at hb⟩
  have hc' : CR w (Own []) nof args vs [] := hc.tr (fun b _ ho => ⟨fun hb => by simp [Own] at hb, rfl⟩) (Nat.le_refl _) (fun _ _ e => e) (fun _ _ => rfl)
  refine (hC.2 nof [] w vs hp hc').mono fun e w' ⟨v, o, h', φ', Ss', e1, ⟨q1, q2, q3⟩, e3, e4, _, e6, e7⟩ => ?_; obtain ⟨S, k1, k2⟩ := pk_sound e3.heap e3.nodup e4 q1 q2; refine ⟨v, S, e1, by rw [← q3]; exact k1, k2.1, fun b hb => ?_, e7⟩
  obtain ⟨id, _, T, h1, h2⟩ := k2.2 b hb; have hm : b ∈ Ss'.flatten := List.mem_flatten.2 ⟨T, List.mem_of_getElem? h1, h2⟩
  refine ⟨?_, e3.bound b hm⟩; rcases e6 b hm with h | h
  · simp [Own] at h
  · exact h
end
end HK
namespace HK
open Go
section
variable {P : Program} {N : Sz} {Q : Exit → St → Prop} {st : St}
theorem SW.seqK {x y : Code} (h : ∀ K : St → Prop, (∀ st, SW P N y Q st → K st) → SW P N x (Ex.then K Q) st) : SW P N (.seq x y) Q st := SW.seq (h _ fun _ h => h)
theorem SW.rg {id : Nat} {l : List Oper} {y : Code} (h : ∀ K : St → Prop, (∀ st, SW P N y Q st → K st) → runA P N (l.map (·.dst)) l st K) : SW P N (.seq (.region id l.toArray false) y) Q st :=
  SW.seq (SW.region (h _ fun _ h => h))
theorem SW.regionE {id : Nat} {l : List Oper} (h : ∀ K : St → Prop, (∀ st, Q .normal st → K st) → runA P N (l.map (·.dst)) l st K) : SW P N (.region id l.toArray false) Q st :=
  SW.region (h _ fun _ h => h)
theorem SW.ra {id : Nat} {l : List Oper} {y : Code} {st' : St} (k : SW P N y Q st') (h : ∀ K : St → Prop, K st' → runA P N (l.map (·.dst)) l st K := by (intro K hK; simp -implicitDefEqProofs; (repeat refine ⟨by omega, ?_⟩); exact hK)) : SW P N (.seq (.region id l.toArray false) y) Q st := SW.seq (SW.region (h _ k))
theorem SW.rb {id : Nat} {l : List Oper} {y : Code} {st' : St} (k : SW P N y Q st') (h : ∀ K : St → Prop, K st' → runA P N (l.map (·.dst)) l st K := by (intro K hK; simp -implicitDefEqProofs; (repeat (refine And.intro (by clear hK; first | omega | (intros; simp_all; done) | (intros; grind)) ?_)); exact hK)) : SW P N (.seq (.region id l.toArray false) y) Q st := SW.seq (SW.region (h _ k))
theorem SW.rc {id : Nat} {l : List Oper} {y : Code} {st' : St} (k : SW P N y Q st') (h : ∀ K : St → Prop, K st' → runA P N (l.map (·.dst)) l st K := by (intro K hK; simp -implicitDefEqProofs; first | exact hK | (refine ⟨?_, hK⟩; (first | omega | (clear hK; grind) | (intros; simp_all; done))) | (refine ⟨?_, ?_, hK⟩; iterate 2 (first | omega | (clear hK; grind) | (intros; simp_all; done))))) : SW P N (.seq (.region id l.toArray false) y) Q st := SW.seq (SW.region (h _ k))
theorem SW.ea {id : Nat} {l : List Oper} {st' : St} (k : Q .normal st') (h : ∀ K : St → Prop, K st' → runA P N (l.map (·.dst)) l st K := by (intro K hK; simp -implicitDefEqProofs; (repeat refine ⟨by omega, ?_⟩); exact hK)) : SW P N (.region id l.toArray false) Q st := SW.region (h _ k)
theorem SW.eb {id : Nat} {l : List Oper} {st' : St} (k : Q .normal st') (h : ∀ K : St → Prop, K st' → runA P N (l.map (·.dst)) l st K := by (intro K hK; simp -implicitDefEqProofs; (repeat (refine And.intro (by clear hK; first | omega | (intros; simp_all; done) | (intros; grind)) ?_)); exact hK)) : SW P N (.region id l.toArray false) Q st := SW.region (h _ k)
theorem SW.ec {id : Nat} {l : List Oper} {st' : St} (k : Q .normal st') (h : ∀ K : St → Prop, K st' → runA P N (l.map (·.dst)) l st K := by (intro K hK; simp -implicitDefEqProofs; first | exact hK | (refine ⟨?_, hK⟩; (first | omega | (clear hK; grind) | (intros; simp_all; done))) | (refine ⟨?_, ?_, hK⟩; iterate 2 (first | omega | (clear hK; grind) | (intros; simp_all; done))))) : SW P N (.region id l.toArray false) Q st := SW.region (h _ k)
variable {ds : List (Option Tmp)} {rest : List Oper} {K : St → Prop} {d : Option Tmp} {ty : TypeId} {pos : String} {af : Array Edge} {env : Env} {h : Heap} {j : Nat} {wt : Bool}
@[simp] theorem runA_nil : runA P N ds [] st K = K st := rfl
@[simp] theorem runA_store {t : TypeId} {a v : Operand} : runA P N ds (⟨d, .store t a v, ty, pos, af, none⟩ :: rest) ⟨env, h⟩ K = (dOk N d = true ∧ (evS P h t (ev env a) (ev env v)).ok ∧ runA P N ds rest ⟨putE env d .undef, (evS P h t (ev env a) (ev env v)).h⟩ K) := rfl
@[simp] theorem runA_app {s x : Operand} {t xt : TypeId} : runA P N ds (⟨d, .call ⟨.builtin .append, #[s, x], #[t, xt]⟩, ty, pos, af, none⟩ :: rest) ⟨env, h⟩ K =
    (dOk N d = true ∧ (evApp P h t xt (ev env s) (ev env x)).1 ∧ runA P N ds rest ⟨putE env d (evApp P h t xt (ev env s) (ev env x)).2.2, (evApp P h t xt (ev env s) (ev env x)).2.1⟩ K) := rfl
def CallK (P : Program) (N : Sz) (ds : List (Option Tmp)) (rest : List Oper) (d : Option Tmp) (env : Env) (h : Heap) (K : St → Prop) (fid : FuncId) (as : List AV) : Prop := CallS P fid as h (fun out h' => runA P N ds rest ⟨putE env d out, h'⟩ K)
theorem runA_call {f : FuncId} {args : Array Operand} {ats : Array TypeId} : runA P N ds (⟨d, .call ⟨.value (.func f), args, ats⟩, ty, pos, af, none⟩ :: rest) ⟨env, h⟩ K =
    (dOk N d = true ∧ (True ∧ allGk (ev env) args.toList) ∧ CallK P N ds rest d env h K f ([] ++ (args.toList.map fun x => st1 (ev env x)) ++ [])) := rfl
def gRun (P : Program) (N : Sz) (ds : List (Option Tmp)) (rest : List Oper) (d : Option Tmp) (env : Env) (h : Heap) (K : St → Prop) (gv : GV) (ok : Prop) (v : AV) : Prop := match gv with
  | .free => False
  | .on g => (g = true → ok) ∧ runA P N ds rest ⟨putE env d (.cond g v), h⟩ K
  | .bad => False
@[simp] theorem gRun_on {g : Bool} {ok : Prop} {v : AV} : gRun P N ds rest d env h K (.on g) ok v = ((g = true → ok) ∧ runA P N ds rest ⟨putE env d (.cond g v), h⟩ K) := rfl
theorem runA_pure_g {op : Op} (hc : cls op = .pure) : runA P N ds (⟨d, op, ty, pos, af, some (j, wt)⟩ :: rest) ⟨env, h⟩ K = (dOk N d = true ∧ gRun P N ds rest d env h K (gval ds env (some (j, wt))) (evP P h (ev env) op).1 (evP P h (ev env) op).2) := by
  simp only [runA, hc]; cases hg : gval ds env (some (j, wt)) <;> first | rfl | skip
  · unfold gval at hg; simp only at hg; split at hg
    · split at hg <;> cases hg
    · cases hg
def CallG (P : Program) (N : Sz) (ds : List (Option Tmp)) (rest : List Oper) (d : Option Tmp) (env : Env) (h : Heap) (K : St → Prop) (fid : FuncId) (g : Bool) (gks : Prop) (as : List AV) : Prop :=
  ∃ out, (g = true → gks ∧ CallS P fid as h (fun o h' => o = out ∧ h' = h)) ∧ runA P N ds rest ⟨putE env d (.cond g out), h⟩ K
def gCall (P : Program) (N : Sz) (ds : List (Option Tmp)) (rest : List Oper) (d : Option Tmp) (env : Env) (h : Heap) (K : St → Prop) (fid : FuncId) (gv : GV) (gks : Prop) (as : List AV) : Prop := match gv with
  | .on g => CallG P N ds rest d env h K fid g gks as
  | _ => False
@[simp] theorem gCall_on {fid : FuncId} {g : Bool} {gks : Prop} {as : List AV} : gCall P N ds rest d env h K fid (.on g) gks as = CallG P N ds rest d env h K fid g gks as := rfl
@[simp] theorem run_call_g {f : FuncId} {args : Array Operand} {ats : Array TypeId} : runA P N ds (⟨d, .call ⟨.value (.func f), args, ats⟩, ty, pos, af, some (j, wt)⟩ :: rest) ⟨env, h⟩ K = (dOk N d = true ∧
    gCall P N ds rest d env h K f (gval ds env (some (j, wt))) (allGk (ev env) args.toList) (args.toList.map fun x => st1 (ev env x))) := by
  simp only [runA, cls, clsC, calleeOf, calleeGk, ev, st1, gk]; cases hg : gval ds env (some (j, wt)) <;> first | rfl | skip
  · unfold gval at hg; simp only at hg; split at hg
    · split at hg <;> cases hg
    · cases hg
  · simp [gCall, CallG]
@[simp] theorem run_call {f : FuncId} {args : Array Operand} {ats : Array TypeId} : runA P N ds (⟨d, .call ⟨.value (.func f), args, ats⟩, ty, pos, af, none⟩ :: rest) ⟨env, h⟩ K =
    (dOk N d = true ∧ allGk (ev env) args.toList ∧ CallK P N ds rest d env h K f (args.toList.map fun x => st1 (ev env x))) := by
  rw [runA_call]; simp
theorem CallK.fz {fid : FuncId} {as : List AV} {out : AV} (hf : Fn P fid (as.map (viewN h 6)) out) (k : runA P N ds rest ⟨putE env d (viewN [] 6 out), h⟩ K) : CallK P N ds rest d env h K fid as :=
  (CallS.of_fn_fz (d' := 6) hf).mono fun o h' ⟨e1, e2⟩ => by subst e1; subst e2; exact k
theorem CallK.im {fid : FuncId} {as : List AV} {out : AV} (hf : Fn P fid (as.map (viewN h 6)) out) (hok : okI out = true) (k : runA P N ds rest ⟨putE env d (imp h.length out).1, h ++ (imp h.length out).2.map some⟩ K) : CallK P N ds rest d env h K fid as :=
  (CallS.of_fn hf hok).mono fun o h' ⟨e1, e2⟩ => by subst e1; subst e2; exact k
theorem CallG.fz {fid : FuncId} {as : List AV} {out : AV} {g : Bool} {gks : Prop} (hg : g = true → gks) (hf : g = true → Fn P fid (as.map (viewN h 6)) out) (k : runA P N ds rest ⟨putE env d (.cond g (viewN [] 6 out)), h⟩ K) : CallG P N ds rest d env h K fid g gks as :=
  ⟨_, fun e => ⟨hg e, CallS.of_fn_fz (d' := 6) (hf e)⟩, k⟩
@[simp] theorem run_move {x : Operand} : runA P N ds (⟨d, .move x, ty, pos, af, none⟩ :: rest) ⟨env, h⟩ K = (dOk N d = true ∧ (evP P h (ev env) (.move x)).1 ∧ runA P N ds rest ⟨putE env d (evP P h (ev env) (.move x)).2, h⟩ K) := rfl
@[simp] theorem run_move_g {x : Operand} : runA P N ds (⟨d, .move x, ty, pos, af, some (j, wt)⟩ :: rest) ⟨env, h⟩ K = (dOk N d = true ∧ gRun P N ds rest d env h K (gval ds env (some (j, wt))) (evP P h (ev env) (.move x)).1 (evP P h (ev env) (.move x)).2) := runA_pure_g rfl
@[simp] theorem run_assign {x : Operand} : runA P N ds (⟨d, .assign x, ty, pos, af, none⟩ :: rest) ⟨env, h⟩ K = (dOk N d = true ∧ (evP P h (ev env) (.assign x)).1 ∧ runA P N ds rest ⟨putE env d (evP P h (ev env) (.assign x)).2, h⟩ K) := rfl
@[simp] theorem run_assign_g {x : Operand} : runA P N ds (⟨d, .assign x, ty, pos, af, some (j, wt)⟩ :: rest) ⟨env, h⟩ K = (dOk N d = true ∧ gRun P N ds rest d env h K (gval ds env (some (j, wt))) (evP P h (ev env) (.assign x)).1 (evP P h (ev env) (.assign x)).2) := runA_pure_g rfl
@[simp] theorem run_pick {c a b : Operand} : runA P N ds (⟨d, .pick c a b, ty, pos, af, none⟩ :: rest) ⟨env, h⟩ K = (dOk N d = true ∧ (evP P h (ev env) (.pick c a b)).1 ∧ runA P N ds rest ⟨putE env d (evP P h (ev env) (.pick c a b)).2, h⟩ K) := rfl
@[simp] theorem run_pick_g {c a b : Operand} : runA P N ds (⟨d, .pick c a b, ty, pos, af, some (j, wt)⟩ :: rest) ⟨env, h⟩ K = (dOk N d = true ∧ gRun P N ds rest d env h K (gval ds env (some (j, wt))) (evP P h (ev env) (.pick c a b)).1 (evP P h (ev env) (.pick c a b)).2) := runA_pure_g rfl
@[simp] theorem run_load {t : TypeId} {x : Operand} : runA P N ds (⟨d, .load t x, ty, pos, af, none⟩ :: rest) ⟨env, h⟩ K = (dOk N d = true ∧ (evP P h (ev env) (.load t x)).1 ∧ runA P N ds rest ⟨putE env d (evP P h (ev env) (.load t x)).2, h⟩ K) := rfl
@[simp] theorem run_load_g {t : TypeId} {x : Operand} : runA P N ds (⟨d, .load t x, ty, pos, af, some (j, wt)⟩ :: rest) ⟨env, h⟩ K = (dOk N d = true ∧ gRun P N ds rest d env h K (gval ds env (some (j, wt))) (evP P h (ev env) (.load t x)).1 (evP P h (ev env) (.load t x)).2) := runA_pure_g rfl
@[simp] theorem run_fieldAddr {t : TypeId} {x : Operand} {f : Nat} : runA P N ds (⟨d, .fieldAddr t x f, ty, pos, af, none⟩ :: rest) ⟨env, h⟩ K = (dOk N d = true ∧ (evP P h (ev env) (.fieldAddr t x f)).1 ∧ runA P N ds rest ⟨putE env d (evP P h (ev env) (.fieldAddr t x f)).2, h⟩ K) := rfl
@[simp] theorem run_field {t : TypeId} {x : Operand} {f : Nat} : runA P N ds (⟨d, .field t x f, ty, pos, af, none⟩ :: rest) ⟨env, h⟩ K = (dOk N d = true ∧ (evP P h (ev env) (.field t x f)).1 ∧ runA P N ds rest ⟨putE env d (evP P h (ev env) (.field t x f)).2, h⟩ K) := rfl
@[simp] theorem run_fieldAddr_g {t : TypeId} {x : Operand} {f : Nat} : runA P N ds (⟨d, .fieldAddr t x f, ty, pos, af, some (j, wt)⟩ :: rest) ⟨env, h⟩ K = (dOk N d = true ∧ gRun P N ds rest d env h K (gval ds env (some (j, wt))) (evP P h (ev env) (.fieldAddr t x f)).1 (evP P h (ev env) (.fieldAddr t x f)).2) := runA_pure_g rfl
@[simp] theorem run_field_g {t : TypeId} {x : Operand} {f : Nat} : runA P N ds (⟨d, .field t x f, ty, pos, af, some (j, wt)⟩ :: rest) ⟨env, h⟩ K = (dOk N d = true ∧ gRun P N ds rest d env h K (gval ds env (some (j, wt))) (evP P h (ev env) (.field t x f)).1 (evP P h (ev env) (.field t x f)).2) := runA_pure_g rfl
@[simp] theorem run_indexAddr {t : TypeId} {x i : Operand} : runA P N ds (⟨d, .indexAddr t x i, ty, pos, af, none⟩ :: rest) ⟨env, h⟩ K = (dOk N d = true ∧ (evP P h (ev env) (.indexAddr t x i)).1 ∧ runA P N ds rest ⟨putE env d (evP P h (ev env) (.indexAddr t x i)).2, h⟩ K) := rfl
@[simp] theorem run_indexAddr_g {t : TypeId} {x i : Operand} : runA P N ds (⟨d, .indexAddr t x i, ty, pos, af, some (j, wt)⟩ :: rest) ⟨env, h⟩ K = (dOk N d = true ∧ gRun P N ds rest d env h K (gval ds env (some (j, wt))) (evP P h (ev env) (.indexAddr t x i)).1 (evP P h (ev env) (.indexAddr t x i)).2) := runA_pure_g rfl
@[simp] theorem run_index {t : TypeId} {x i : Operand} : runA P N ds (⟨d, .index t x i, ty, pos, af, none⟩ :: rest) ⟨env, h⟩ K = (dOk N d = true ∧ (evP P h (ev env) (.index t x i)).1 ∧ runA P N ds rest ⟨putE env d (evP P h (ev env) (.index t x i)).2, h⟩ K) := rfl
@[simp] theorem run_index_g {t : TypeId} {x i : Operand} : runA P N ds (⟨d, .index t x i, ty, pos, af, some (j, wt)⟩ :: rest) ⟨env, h⟩ K = (dOk N d = true ∧ gRun P N ds rest d env h K (gval ds env (some (j, wt))) (evP P h (ev env) (.index t x i)).1 (evP P h (ev env) (.index t x i)).2) := runA_pure_g rfl
@[simp] theorem run_slice {t : TypeId} {x : Operand} {lo hi : Option Operand} : runA P N ds (⟨d, .slice t x lo hi none, ty, pos, af, none⟩ :: rest) ⟨env, h⟩ K = (dOk N d = true ∧ (evP P h (ev env) (.slice t x lo hi none)).1 ∧ runA P N ds rest ⟨putE env d (evP P h (ev env) (.slice t x lo hi none)).2, h⟩ K) := rfl
@[simp] theorem run_slice_g {t : TypeId} {x : Operand} {lo hi : Option Operand} : runA P N ds (⟨d, .slice t x lo hi none, ty, pos, af, some (j, wt)⟩ :: rest) ⟨env, h⟩ K = (dOk N d = true ∧ gRun P N ds rest d env h K (gval ds env (some (j, wt))) (evP P h (ev env) (.slice t x lo hi none)).1 (evP P h (ev env) (.slice t x lo hi none)).2) := runA_pure_g rfl
@[simp] theorem run_extract {x : Operand} {i : Nat} : runA P N ds (⟨d, .extract x i, ty, pos, af, none⟩ :: rest) ⟨env, h⟩ K = (dOk N d = true ∧ (evP P h (ev env) (.extract x i)).1 ∧ runA P N ds rest ⟨putE env d (evP P h (ev env) (.extract x i)).2, h⟩ K) := rfl
@[simp] theorem run_extract_g {x : Operand} {i : Nat} : runA P N ds (⟨d, .extract x i, ty, pos, af, some (j, wt)⟩ :: rest) ⟨env, h⟩ K = (dOk N d = true ∧ gRun P N ds rest d env h K (gval ds env (some (j, wt))) (evP P h (ev env) (.extract x i)).1 (evP P h (ev env) (.extract x i)).2) := runA_pure_g rfl
@[simp] theorem run_binOp {op : BinOp} {t : TypeId} {x y : Operand} {yt : TypeId} : runA P N ds (⟨d, .binOp op t x y yt, ty, pos, af, none⟩ :: rest) ⟨env, h⟩ K = (dOk N d = true ∧ (evP P h (ev env) (.binOp op t x y yt)).1 ∧ runA P N ds rest ⟨putE env d (evP P h (ev env) (.binOp op t x y yt)).2, h⟩ K) := rfl
@[simp] theorem run_binOp_g {op : BinOp} {t : TypeId} {x y : Operand} {yt : TypeId} : runA P N ds (⟨d, .binOp op t x y yt, ty, pos, af, some (j, wt)⟩ :: rest) ⟨env, h⟩ K = (dOk N d = true ∧ gRun P N ds rest d env h K (gval ds env (some (j, wt))) (evP P h (ev env) (.binOp op t x y yt)).1 (evP P h (ev env) (.binOp op t x y yt)).2) := runA_pure_g rfl
@[simp] theorem run_unOp {op : UnOp} {t : TypeId} {x : Operand} : runA P N ds (⟨d, .unOp op t x, ty, pos, af, none⟩ :: rest) ⟨env, h⟩ K = (dOk N d = true ∧ (evP P h (ev env) (.unOp op t x)).1 ∧ runA P N ds rest ⟨putE env d (evP P h (ev env) (.unOp op t x)).2, h⟩ K) := rfl
@[simp] theorem run_unOp_g {op : UnOp} {t : TypeId} {x : Operand} : runA P N ds (⟨d, .unOp op t x, ty, pos, af, some (j, wt)⟩ :: rest) ⟨env, h⟩ K = (dOk N d = true ∧ gRun P N ds rest d env h K (gval ds env (some (j, wt))) (evP P h (ev env) (.unOp op t x)).1 (evP P h (ev env) (.unOp op t x)).2) := runA_pure_g rfl
@[simp] theorem run_convert {s t : TypeId} {x : Operand} : runA P N ds (⟨d, .convert s t x, ty, pos, af, none⟩ :: rest) ⟨env, h⟩ K = (dOk N d = true ∧ (evP P h (ev env) (.convert s t x)).1 ∧ runA P N ds rest ⟨putE env d (evP P h (ev env) (.convert s t x)).2, h⟩ K) := rfl
@[simp] theorem run_convert_g {s t : TypeId} {x : Operand} : runA P N ds (⟨d, .convert s t x, ty, pos, af, some (j, wt)⟩ :: rest) ⟨env, h⟩ K = (dOk N d = true ∧ gRun P N ds rest d env h K (gval ds env (some (j, wt))) (evP P h (ev env) (.convert s t x)).1 (evP P h (ev env) (.convert s t x)).2) := runA_pure_g rfl
@[simp] theorem run_nilCheck {x : Operand} : runA P N ds (⟨d, .nilCheck x, ty, pos, af, none⟩ :: rest) ⟨env, h⟩ K = (dOk N d = true ∧ (evP P h (ev env) (.nilCheck x)).1 ∧ runA P N ds rest ⟨putE env d (evP P h (ev env) (.nilCheck x)).2, h⟩ K) := rfl
@[simp] theorem run_nilCheck_g {x : Operand} : runA P N ds (⟨d, .nilCheck x, ty, pos, af, some (j, wt)⟩ :: rest) ⟨env, h⟩ K = (dOk N d = true ∧ gRun P N ds rest d env h K (gval ds env (some (j, wt))) (evP P h (ev env) (.nilCheck x)).1 (evP P h (ev env) (.nilCheck x)).2) := runA_pure_g rfl
@[simp] theorem run_build {t : TypeId} {ps : Array (Nat × Operand)} : runA P N ds (⟨d, .build t ps, ty, pos, af, none⟩ :: rest) ⟨env, h⟩ K = (dOk N d = true ∧ (evP P h (ev env) (.build t ps)).1 ∧ runA P N ds rest ⟨putE env d (evP P h (ev env) (.build t ps)).2, h⟩ K) := rfl
@[simp] theorem run_build_g {t : TypeId} {ps : Array (Nat × Operand)} : runA P N ds (⟨d, .build t ps, ty, pos, af, some (j, wt)⟩ :: rest) ⟨env, h⟩ K = (dOk N d = true ∧ gRun P N ds rest d env h K (gval ds env (some (j, wt))) (evP P h (ev env) (.build t ps)).1 (evP P h (ev env) (.build t ps)).2) := runA_pure_g rfl
@[simp] theorem run_makeFunc {fn : Go.Fn} {fi ca : Array Operand} : runA P N ds (⟨d, .makeFunc fn fi ca, ty, pos, af, none⟩ :: rest) ⟨env, h⟩ K = (dOk N d = true ∧ (evP P h (ev env) (.makeFunc fn fi ca)).1 ∧ runA P N ds rest ⟨putE env d (evP P h (ev env) (.makeFunc fn fi ca)).2, h⟩ K) := rfl
@[simp] theorem run_makeFunc_g {fn : Go.Fn} {fi ca : Array Operand} : runA P N ds (⟨d, .makeFunc fn fi ca, ty, pos, af, some (j, wt)⟩ :: rest) ⟨env, h⟩ K = (dOk N d = true ∧ gRun P N ds rest d env h K (gval ds env (some (j, wt))) (evP P h (ev env) (.makeFunc fn fi ca)).1 (evP P h (ev env) (.makeFunc fn fi ca)).2) := runA_pure_g rfl
@[simp] theorem run_len {x : Operand} {t : TypeId} : runA P N ds (⟨d, .call ⟨.builtin .len, #[x], #[t]⟩, ty, pos, af, none⟩ :: rest) ⟨env, h⟩ K = (dOk N d = true ∧ (evP P h (ev env) (.call ⟨.builtin .len, #[x], #[t]⟩)).1 ∧ runA P N ds rest ⟨putE env d (evP P h (ev env) (.call ⟨.builtin .len, #[x], #[t]⟩)).2, h⟩ K) := rfl
@[simp] theorem run_len_g {x : Operand} {t : TypeId} : runA P N ds (⟨d, .call ⟨.builtin .len, #[x], #[t]⟩, ty, pos, af, some (j, wt)⟩ :: rest) ⟨env, h⟩ K = (dOk N d = true ∧ gRun P N ds rest d env h K (gval ds env (some (j, wt))) (evP P h (ev env) (.call ⟨.builtin .len, #[x], #[t]⟩)).1 (evP P h (ev env) (.call ⟨.builtin .len, #[x], #[t]⟩)).2) := runA_pure_g rfl
@[simp] theorem run_min {x y : Operand} {ts : Array TypeId} : runA P N ds (⟨d, .call ⟨.builtin .min, #[x, y], ts⟩, ty, pos, af, none⟩ :: rest) ⟨env, h⟩ K = (dOk N d = true ∧ (evP P h (ev env) (.call ⟨.builtin .min, #[x, y], ts⟩)).1 ∧ runA P N ds rest ⟨putE env d (evP P h (ev env) (.call ⟨.builtin .min, #[x, y], ts⟩)).2, h⟩ K) := rfl
@[simp] theorem run_min_g {x y : Operand} {ts : Array TypeId} : runA P N ds (⟨d, .call ⟨.builtin .min, #[x, y], ts⟩, ty, pos, af, some (j, wt)⟩ :: rest) ⟨env, h⟩ K = (dOk N d = true ∧ gRun P N ds rest d env h K (gval ds env (some (j, wt))) (evP P h (ev env) (.call ⟨.builtin .min, #[x, y], ts⟩)).1 (evP P h (ev env) (.call ⟨.builtin .min, #[x, y], ts⟩)).2) := runA_pure_g rfl
@[simp] theorem run_max {x y : Operand} {ts : Array TypeId} : runA P N ds (⟨d, .call ⟨.builtin .max, #[x, y], ts⟩, ty, pos, af, none⟩ :: rest) ⟨env, h⟩ K = (dOk N d = true ∧ (evP P h (ev env) (.call ⟨.builtin .max, #[x, y], ts⟩)).1 ∧ runA P N ds rest ⟨putE env d (evP P h (ev env) (.call ⟨.builtin .max, #[x, y], ts⟩)).2, h⟩ K) := rfl
@[simp] theorem run_max_g {x y : Operand} {ts : Array TypeId} : runA P N ds (⟨d, .call ⟨.builtin .max, #[x, y], ts⟩, ty, pos, af, some (j, wt)⟩ :: rest) ⟨env, h⟩ K = (dOk N d = true ∧ gRun P N ds rest d env h K (gval ds env (some (j, wt))) (evP P h (ev env) (.call ⟨.builtin .max, #[x, y], ts⟩)).1 (evP P h (ev env) (.call ⟨.builtin .max, #[x, y], ts⟩)).2) := runA_pure_g rfl
@[simp] theorem run_alloc {t : TypeId} : runA P N ds (⟨d, .alloc t, ty, pos, af, none⟩ :: rest) ⟨env, h⟩ K = (dOk N d = true ∧ (evA P (ev env) (.alloc t)).ok ∧ runA P N ds rest ⟨putE env d ((evA P (ev env) (.alloc t)).val h.length), h ++ [some (evA P (ev env) (.alloc t)).blk]⟩ K) := rfl
@[simp] theorem run_box {t : TypeId} {x : Operand} : runA P N ds (⟨d, .box t x, ty, pos, af, none⟩ :: rest) ⟨env, h⟩ K = (dOk N d = true ∧ (evA P (ev env) (.box t x)).ok ∧ runA P N ds rest ⟨putE env d ((evA P (ev env) (.box t x)).val h.length), h ++ [some (evA P (ev env) (.box t x)).blk]⟩ K) := rfl
@[simp] theorem run_buildSlice {t : TypeId} {n : Nat} {ps : Array (Nat × Operand)} : runA P N ds (⟨d, .buildSlice t n ps, ty, pos, af, none⟩ :: rest) ⟨env, h⟩ K = (dOk N d = true ∧ (evA P (ev env) (.buildSlice t n ps)).ok ∧ runA P N ds rest ⟨putE env d ((evA P (ev env) (.buildSlice t n ps)).val h.length), h ++ [some (evA P (ev env) (.buildSlice t n ps)).blk]⟩ K) := rfl
@[simp] theorem run_makeSlice {t : TypeId} {l c : Operand} : runA P N ds (⟨d, .makeSlice t l c, ty, pos, af, none⟩ :: rest) ⟨env, h⟩ K = (dOk N d = true ∧ (evA P (ev env) (.makeSlice t l c)).ok ∧ runA P N ds rest ⟨putE env d ((evA P (ev env) (.makeSlice t l c)).val h.length), h ++ [some (evA P (ev env) (.makeSlice t l c)).blk]⟩ K) := rfl
@[simp] theorem pb_ff (t x : Bool) : pb t x false = (t && x) := by cases t <;> rfl
@[simp] theorem pb_tt (t y : Bool) : pb t true y = (t || y) := by cases t <;> rfl
@[simp] theorem gb_t (b : Bool) : gb true b = b := rfl
@[simp] theorem gb_f (b : Bool) : gb false b = !b := rfl
end
section
variable {h : Heap} {d : Nat}
@[simp] theorem view_undef : viewN h (d + 1) .undef = .undef := rfl
@[simp] theorem view_nil : viewN h (d + 1) .nil = .nil := rfl
@[simp] theorem view_bool {b : Bool} : viewN h (d + 1) (.bool b) = .bool b := rfl
@[simp] theorem view_int {k : IntKind} {n : Int} : viewN h (d + 1) (.int k n) = .int k n := rfl
@[simp] theorem view_str {s : ByteArray} : viewN h (d + 1) (.str s) = .str s := rfl
@[simp] theorem view_con {v : Value} : viewN h (d + 1) (.con v) = .con v := rfl
@[simp] theorem view_fz {es : List (List AV)} : viewN h (d + 1) (.fz es) = .fz es := rfl
@[simp] theorem view_fptr {es : List (List AV)} {i j : Nat} : viewN h (d + 1) (.fptr es i j) = .fptr es i j := rfl
@[simp] theorem view_own {sz : Nat} {es : List (List AV)} : viewN h (d + 1) (.own sz es) = .fz (es.map (List.map (viewN h d))) := rfl
@[simp] theorem view_sl {id off len : Nat} : viewN h (d + 1) (.sl id off len) = (match hb h id with | some b => if off + len ≤ b.es.length then .fz (((b.es.drop off).take len).map (List.map (viewN h d))) else .undef | none => .undef) := rfl
@[simp] theorem view_agg {cs : List AV} : viewN h (d + 1) (.agg cs) = .agg (cs.map (viewN h d)) := rfl
@[simp] theorem view_tup {cs : List AV} : viewN h (d + 1) (.tup cs) = .tup (cs.map (viewN h d)) := rfl
@[simp] theorem view_fn {f : Go.Fn} {a b : List AV} : viewN h (d + 1) (.fn f a b) = .fn f (a.map (viewN h d)) (b.map (viewN h d)) := rfl
@[simp] theorem view_ptr {id i j : Nat} : viewN h (d + 1) (.ptr id i j) = .undef := rfl
@[simp] theorem view_cond {g : Bool} {v : AV} : viewN h (d + 1) (.cond g v) = .undef := rfl
end
attribute [simp] evP evA evS evApp loadV fieldV indexV sliceV lenV minV maxV binV binI binS unV cvV pickV lk putE st1 gk ev absV absC allGk gval dOk hb cellsAt asV plain oc ocp cellsA fillV fillE splice elemsOf bnd AR.val imp impC impT okI okC okT isOwn isRet resL tupA pk pk1 pkC okPk ok1 ok1s okCs okC' idP id1 idC strN envOf eqc eqk
end HK
