/-
  My own text (road H): HK7.
-/
import Derived.Test.YtflanhfpjgcfbaaHK6
namespace HK
open Go

section
variable {P : Program} {w : World} {own : Nat → Prop} {φ : Refs}

theorem cellsA_sound {v : AV} {x : Value} {S : List Nat} {l : List AV} (h : VR w own φ v x S) (e : cellsA v = some l) : CR w own φ l x.cells.toList S := by
  cases h with
  | agg cs vs S h => simp [cellsA] at e; subst e; simpa [Value.cells] using h
  | undef _ | con _ | tup _ _ _ _ | condT _ _ _ _ | condF _ => simp [cellsA, oc] at e
  | bool _ => simp [cellsA, oc] at e; subst e; exact CR.one (.bool _)
  | int _ _ => simp [cellsA, oc] at e; subst e; exact CR.one (.int _ _)
  | str _ => simp [cellsA, oc] at e; subst e; exact CR.one (.str _)
  | nil _ => simp [cellsA, oc] at e; subst e; exact CR.one (.nil _)
  | fz0 _ _ => simp [cellsA, oc] at e; subst e; exact CR.one (.fz0 _ _)
  | fz es sz A cap vs hlt ho hu hcap hs hc => simp [cellsA, oc] at e; subst e; exact CR.one (.fz es sz A cap vs hlt ho hu hcap hs hc)
  | own0 _ _ => simp [cellsA, oc] at e; subst e; exact CR.one (.own0 _ _)
  | own es sz rb o cap lim vs S hr hu hcap hlim hs hc => simp [cellsA, oc] at e; subst e; exact CR.one (.own es sz rb o cap lim vs S hr hu hcap hlim hs hc)
  | sl0 _ _ r _ hr => simp [cellsA, oc] at e; subst e; exact CR.one (.sl0 _ _ r _ hr)
  | sl _ _ _ _ r hr h1 h2 => simp [cellsA, oc] at e; subst e; exact CR.one (.sl _ _ _ _ r hr h1 h2)
  | ptr _ _ _ r hr => simp [cellsA, oc] at e; subst e; exact CR.one (.ptr _ _ _ r hr)
  | fptr es sz A vs i j hlt ho hu hs hc => simp [cellsA, oc] at e; subst e; exact CR.one (.fptr es sz A vs i j hlt ho hu hs hc)
  | fn f first cap fs cs h h' => simp [cellsA, oc] at e; subst e; exact CR.one (.fn f first cap fs cs h h')

theorem fold_cells (off : Nat) : ∀ (xs : List Value) (k : Nat) (cells : Array Value), off + k + xs.length ≤ cells.size →
    ((xs.zipIdx k).foldl (fun cs (cj : Value × Nat) => cs.setIfInBounds (off + cj.2) cj.1) cells).toList = cells.toList.take (off + k) ++ (xs ++ cells.toList.drop (off + k + xs.length))
  | [], k, cells, _ => by simp
  | x :: xs, k, cells, h => by
    simp only [List.length_cons] at h
    simp only [List.zipIdx_cons, List.foldl_cons]
    rw [fold_cells off xs (k + 1) _ (by simp; omega)]
    have hl : off + k < cells.toList.length := by simp; omega
    have e1 : (cells.setIfInBounds (off + k) x).toList = cells.toList.take (off + k) ++ (x :: cells.toList.drop (off + k + 1)) := by
      rw [Array.toList_setIfInBounds, List.set_eq_take_append_cons_drop, if_pos hl]
    have hlt : (cells.toList.take (off + k)).length = off + k := by rw [List.length_take, Nat.min_eq_left (by omega)]
    rw [e1]
    have e2 : off + (k + 1) = (cells.toList.take (off + k)).length + 1 := by omega
    have e3 : off + (k + 1) + xs.length = (cells.toList.take (off + k)).length + (1 + xs.length) := by omega
    rw [e3, e2, List.take_append, List.drop_append]
    simp only [Nat.add_sub_cancel_left, List.length_cons]
    rw [List.take_of_length_le (by omega), List.drop_of_length_le (l := List.take (off + k) cells.toList) (by omega)]
    simp only [List.take_succ_cons, List.take_zero, Nat.add_comm 1 xs.length, List.drop_succ_cons, List.drop_drop, List.nil_append, List.append_assoc, List.cons_append]
    congr 4
    omega

theorem cr_splice {cs xs : List AV} {us ys : List Value} {off : Nat} (h : CR w own φ cs us []) (k : CR w own φ xs ys []) (hl : off + xs.length ≤ cs.length) :
    CR w own φ (splice cs off xs) (us.take off ++ (ys ++ us.drop (off + ys.length))) [] := by
  have e : cs = cs.take off ++ (cs.drop off) := (List.take_append_drop ..).symm
  have e' : cs = cs.take (off + xs.length) ++ (cs.drop (off + xs.length)) := (List.take_append_drop ..).symm
  have h1 := h; rw [e] at h1
  have h2 := h; rw [e'] at h2
  obtain ⟨a1, a2, S1, S2, ea, eS, c1, _⟩ := h1.split
  obtain ⟨b1, b2, T1, T2, eb, eT, _, c2⟩ := h2.split
  have hS1 : S1 = [] := (List.append_eq_nil_iff.1 eS.symm).1
  have hT2 : T2 = [] := (List.append_eq_nil_iff.1 eT.symm).2
  subst hS1; subst hT2
  have l1 : a1.length = off := by rw [← c1.length, List.length_take, Nat.min_eq_left (by omega)]
  have l2 : b1.length = off + xs.length := by
    have := h.length
    have h3 := c2.length
    rw [List.length_drop] at h3
    rw [eb, List.length_append] at this; omega
  have t1 : us.take off = a1 := by rw [ea, ← l1, List.take_left]
  have t2 : us.drop (off + ys.length) = b2 := by rw [eb, ← k.length, ← l2, List.drop_left]
  rw [t1, t2]
  exact c1.app (k.app c2)

theorem fill_sound (pl : Nat → Option (Nat × Nat)) : ∀ (ps : List (Nat × AV)) (qs : List (Nat × Value)) (cs : List AV) (cells : Array Value) (out : List AV),
    ps.length = qs.length → (∀ (k : Nat) p q, ps[k]? = some p → qs[k]? = some q → p.1 = q.1 ∧ VR w own φ p.2 q.2 []) → CR w own φ cs cells.toList [] → fillV pl cs ps = some out →
    ∃ r, Instr.fill pl cells qs = some r ∧ CR w own φ out r.toList []
  | [], [], cs, cells, out, _, _, h, e => by simp [fillV] at e; subst e; exact ⟨cells, rfl, h⟩
  | (i, v) :: ps, (i', x) :: qs, cs, cells, out, hl, hp, h, e => by
    obtain ⟨hi, hv⟩ := hp 0 _ _ rfl rfl
    simp only at hi hv
    subst hi
    simp only [fillV] at e
    cases hpl : pl i with
    | none => simp [hpl] at e
    | some on =>
      obtain ⟨off, n⟩ := on
      cases hca : cellsA v with
      | none => simp [hpl, hca] at e
      | some xs =>
        simp only [hpl, hca] at e
        split at e
        · rename_i hc
          obtain ⟨hc1, hc2⟩ := hc
          have hx := cellsA_sound hv hca
          have hxl := hx.length
          have hcl := h.length
          simp only [Array.length_toList] at hxl hcl
          simp only [Instr.fill, hpl]
          rw [if_neg (by simp; omega)]
          refine fill_sound pl ps qs _ _ out (by simpa using hl) (fun k p q h1 h2 => hp (k + 1) p q (by simpa using h1) (by simpa using h2)) ?_ e
          have := fold_cells off x.cells.toList 0 cells (by simp; omega)
          rw [← Array.toList_zipIdx] at this
          rw [← Array.foldl_toList, this]
          simp only [Nat.add_zero]
          exact cr_splice h hx (by omega)
        · cases e
  | [], _ :: _, _, _, _, hl, _, _, _ => by simp at hl
  | _ :: _, [], _, _, _, hl, _, _, _ => by simp at hl
end
end HK
