/-
  My own text (road H): HK17.
-/
import Derived.Test.YtflanhfpjgcfbaaHK16
namespace HK
open Go

/-- The abstract heap is real. -/
structure HP (φ : Refs) (Ss : List (List Nat)) (h : Heap) (w : World) : Prop where
  heap : HR w (Own Ss) φ h Ss
  len : Ss.length = h.length
  fresh : ∀ id, h.length ≤ id → φ id = none
  nodup : Ss.flatten.Nodup
  bound : ∀ b ∈ Ss.flatten, b < w.heap.size

/-- Called in this heap with these values, the function comes back with a value and a heap of which Q is said. -/
def CallS (P : Program) (f : FuncId) (args : List AV) (h : Heap) (Q : AV → Heap → Prop) : Prop := Enter P f ∧ ∀ (φ : Refs) (Ss : List (List Nat)) (w : World) (vs : List Value), HP φ Ss h w → CR w (Own Ss) φ args vs [] →
  Calls P f vs.toArray w fun e w' => ∃ v out h' φ' Ss', e = .returned v ∧ Q out h' ∧ HP φ' Ss' h' w' ∧ VR w' (Own Ss') φ' out v [] ∧ (∀ id r, φ id = some r → φ' id = some r) ∧ (∀ b, Own Ss' b → Own Ss b ∨ w.heap.size ≤ b) ∧ Fr w Ss.flatten w'

section
variable {P : Program} {N : Sz} {w0 : World} {B0 : Cx} {φ : Refs} {Ss : List (List Nat)} {st : St} {a : Act} {w : World}

theorem Rel.hp (h : Rel N w0 B0 φ Ss st a w) : HP φ Ss st.heap w := ⟨h.heap, h.len, h.fresh, h.nodup, fun b hb => (h.bound b hb).1⟩

theorem CallS.mono {f : FuncId} {args : List AV} {h : Heap} {Q Q' : AV → Heap → Prop} (hc : CallS P f args h Q) (hq : ∀ o h', Q o h' → Q' o h') : CallS P f args h Q' :=
  ⟨hc.1, fun φ Ss w vs h1 h2 => (hc.2 φ Ss w vs h1 h2).mono fun _ _ ⟨v, out, h', φ', Ss', e1, e2, r⟩ => ⟨v, out, h', φ', Ss', e1, hq _ _ e2, r⟩⟩

def ext (φ : Refs) (n : Nat) (rs : List (Option Ref)) : Refs := fun id => if id < n then φ id else rs[id - n]?
theorem ext_named {φ : Refs} {n : Nat} {rs : List (Option Ref)} : Named (ext φ n rs) n rs := fun k r hk => by
  unfold ext; rw [if_neg (by omega), Nat.add_sub_cancel_left]; exact hk
theorem ext_old {φ : Refs} {n : Nat} {rs : List (Option Ref)} (h : ∀ id, n ≤ id → φ id = none) : ∀ id r, φ id = some r → ext φ n rs id = some r := fun id r hr => by
  unfold ext
  split
  · exact hr
  · rw [h id (by omega)] at hr; cases hr

/-- A contract at frozen values, in any heap: the result's slices get names. -/
theorem CallS.of_fn {f : FuncId} {args : List AV} {out : AV} {h : Heap} {d : Nat} (hf : Fn P f (args.map (viewN h d)) out) (hok : okI out = true) :
    CallS P f args h (fun o h' => o = (imp h.length out).1 ∧ h' = h ++ (imp h.length out).2.map some) := by
  refine ⟨hf.1, fun φ Ss w vs hp hc => ?_⟩
  have hv : CR w (fun _ => False) nof (args.map (viewN h d)) vs [] :=
    cr_map_view (own := Own Ss) (own2 := fun _ => False) (φ := φ) (fun v x F k _ => view_sound (own := Own Ss) (φ0 := φ) (Ss := Ss) (fun _ hb => hb.elim) hp.heap (fun _ _ _ _ _ _ hb => hb) d v x F (fun _ _ e => e) k (fun _ _ hb => hb)) hc (fun _ _ hb => hb)
  refine (hf.2 w vs hv).mono fun e w' ⟨v, S, e1, e2, e3, e4, e5⟩ => ?_
  obtain ⟨rs, Sk, d1, d2, d3, d4⟩ := imp_sound h.length e2 hok
  have hown : ∀ b, Own (Ss ++ Sk) b → Own Ss b ∨ w.heap.size ≤ b := fun b hb => by
    have hb' : b ∈ (Ss ++ Sk).flatten := hb
    rw [List.flatten_append, d3] at hb'
    rcases List.mem_append.1 hb' with h1 | h1
    · exact .inl h1
    · exact .inr (e4 b h1).1
  have hfz : ∀ b, b < w.heap.size → ¬ Own Ss b → ¬ Own (Ss ++ Sk) b ∧ w'.heap[b]? = w.heap[b]? := fun b hb ho =>
    ⟨fun h1 => (hown b h1).elim (fun h2 => ho h2) (fun h2 => by omega), e5.block b hb (by simp)⟩
  have hall : ∀ b, b < w'.heap.size → ¬ (fun _ : Nat => True) b → ¬ Own (Ss ++ Sk) b ∧ w'.heap[b]? = w'.heap[b]? := fun _ _ hb => absurd trivial hb
  obtain ⟨k1, k2⟩ := d4 _ (ext_named (φ := φ))
  have hold := ext_old (rs := rs) hp.fresh
  refine ⟨v, _, _, ext φ h.length rs, Ss ++ Sk, e1, ⟨rfl, rfl⟩, ⟨?_, by simp [hp.len, d2], ?_, ?_, ?_⟩, k1.tr hall (Nat.le_refl _) (fun _ _ e => e) (fun _ _ => rfl), hold, hown, ⟨e5.os, e5.tape, e5.output, e5.size, fun b hb _ => e5.block b hb (by simp)⟩⟩
  · intro id b hid
    by_cases hlt : id < h.length
    · rw [List.getElem?_append_left hlt] at hid
      obtain ⟨S', q1, q2⟩ := hp.heap id b hid
      refine ⟨S', by rw [List.getElem?_append_left (by rw [hp.len]; exact hlt)]; exact q1, q2.tr hfz e5.size hold (fun x hx => e5.block x (hp.bound x (List.mem_flatten.2 ⟨S', List.mem_of_getElem? q1, hx⟩)) (by simp))⟩
    · rw [List.getElem?_append_right (by omega), List.getElem?_map] at hid
      cases hb : (imp h.length out).2[id - h.length]? with
      | none => rw [hb] at hid; cases hid
      | some b' =>
        rw [hb] at hid
        simp only [Option.map_some, Option.some.injEq] at hid
        subst hid
        obtain ⟨S', q1, q2⟩ := k2 _ _ hb
        rw [show h.length + (id - h.length) = id by omega] at q2
        exact ⟨S', by rw [List.getElem?_append_right (by rw [hp.len]; omega), hp.len]; exact q1, q2.tr hall (Nat.le_refl _) (fun _ _ e => e) (fun _ _ => rfl)⟩
  · intro id hid
    simp only [List.length_append, List.length_map] at hid
    unfold ext
    rw [if_neg (by omega), List.getElem?_eq_none (by omega)]
  · rw [List.flatten_append, d3, List.nodup_append]
    exact ⟨hp.nodup, e3, fun x hx y hy e => by subst e; have := hp.bound x hx; have := (e4 x hy).1; omega⟩
  · intro b hb
    rw [List.flatten_append, d3] at hb
    rcases List.mem_append.1 hb with h1 | h1
    · have := hp.bound b h1; have := e5.size; omega
    · exact (e4 b h1).2

/-- The same: the result's slices are read only from here on. -/
theorem CallS.of_fn_fz {f : FuncId} {args : List AV} {out : AV} {h : Heap} {d d' : Nat} (hf : Fn P f (args.map (viewN h d)) out) :
    CallS P f args h (fun o h' => o = viewN [] d' out ∧ h' = h) := by
  refine ⟨hf.1, fun φ Ss w vs hp hc => ?_⟩
  have hv : CR w (fun _ => False) nof (args.map (viewN h d)) vs [] :=
    cr_map_view (own := Own Ss) (own2 := fun _ => False) (φ := φ) (fun v x F k _ => view_sound (own := Own Ss) (φ0 := φ) (Ss := Ss) (fun _ hb => hb.elim) hp.heap (fun _ _ _ _ _ _ hb => hb) d v x F (fun _ _ e => e) k (fun _ _ hb => hb)) hc (fun _ _ hb => hb)
  refine (hf.2 w vs hv).mono fun e w' ⟨v, S, e1, e2, e3, e4, e5⟩ => ?_
  have hfz : ∀ b, b < w.heap.size → ¬ Own Ss b → ¬ Own Ss b ∧ w'.heap[b]? = w.heap[b]? := fun b hb ho => ⟨ho, e5.block b hb (by simp)⟩
  refine ⟨v, _, _, φ, Ss, e1, ⟨rfl, rfl⟩, ⟨?_, hp.len, hp.fresh, hp.nodup, fun b hb => Nat.lt_of_lt_of_le (hp.bound b hb) e5.size⟩, ?_, fun _ _ e => e, fun b hb => .inl hb, ⟨e5.os, e5.tape, e5.output, e5.size, fun b hb _ => e5.block b hb (by simp)⟩⟩
  · intro id b hid
    obtain ⟨S', q1, q2⟩ := hp.heap id b hid
    exact ⟨S', q1, q2.tr hfz e5.size (fun _ _ e => e) (fun x hx => e5.block x (hp.bound x (List.mem_flatten.2 ⟨S', List.mem_of_getElem? q1, hx⟩)) (by simp))⟩
  · have := view_sound (w := w') (own := fun _ => True) (own2 := Own Ss) (φ0 := nof) (h := []) (Ss := []) (fun _ _ => trivial) (fun id b hid => by simp at hid) (fun id S ⟨b, hb⟩ => by simp at hb) d' out v S (fun _ _ e => e) e2 (fun b hb ho => by
      have := (e4 b hb).1; have := hp.bound b ho; omega)
    exact this.up

/-- A call, seen by the caller. -/
theorem Rel.call (h : Rel N w0 B0 φ Ss st a w) {w' : World} {h' : Heap} {φ' : Refs} {Ss' : List (List Nat)} (hp : HP φ' Ss' h' w') (hφ : ∀ id r, φ id = some r → φ' id = some r) (hown : ∀ b, Own Ss' b → Own Ss b ∨ w.heap.size ≤ b) (hfr : Fr w Ss.flatten w') :
    Rel N w0 B0 φ' Ss' ⟨st.env, h'⟩ a w' := by
  have hfz : ∀ b, b < w.heap.size → ¬ Own Ss b → ¬ Own Ss' b ∧ w'.heap[b]? = w.heap[b]? := fun b hb ho =>
    ⟨fun h1 => (hown b h1).elim (fun h2 => ho h2) (fun h2 => by omega), hfr.block b hb ho⟩
  refine ⟨fun t => (h.env t).tr hfz hfr.size hφ (fun b hb => by cases hb), hp.heap, hp.len, hp.fresh, hp.nodup, fun b hb => ⟨hp.bound b hb, ?_⟩, h.fr.trans hfr (fun x hx => (h.bound x hx).2), h.size, h.defers, h.cx, fun i r e => hφ _ _ (h.keep i r e)⟩
  rcases hown b hb with h1 | h1
  · exact (h.bound b h1).2
  · right; have := h.fr.size; omega
end
end HK
