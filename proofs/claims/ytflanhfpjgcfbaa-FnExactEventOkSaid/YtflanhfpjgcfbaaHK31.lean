/-
  My own text (road H): HK31.
-/
import Derived.Test.YtflanhfpjgcfbaaHK30
set_option linter.unusedSimpArgs false
set_option linter.unusedVariables false
namespace HK
open Go
theorem flat_cell {es : List (List AV)} {i c : Nat} {x : AV} (hi : i < es.length) (hx : (es.getD i [])[c]? = some x) (v : AV) :
    ∃ A B, es.flatten = A ++ x :: B ∧ (es.set i ((es.getD i []).set c v)).flatten = A ++ v :: B := by
  have he : es.getD i [] = es[i] := by simp [List.getD_eq_getElem?_getD, hi]
  rw [he] at hx ⊢
  obtain ⟨hc, rfl⟩ := List.getElem?_eq_some_iff.1 hx
  refine ⟨(es.take i).flatten ++ es[i].take c, es[i].drop (c + 1) ++ (es.drop (i + 1)).flatten, ?_, ?_⟩
  · have e1 : es = es.take i ++ es[i] :: es.drop (i + 1) := by rw [List.getElem_cons_drop, List.take_append_drop]
    have e2 : es[i] = es[i].take c ++ es[i][c] :: es[i].drop (c + 1) := by rw [List.getElem_cons_drop, List.take_append_drop]
    have e3 : es.flatten = (es.take i).flatten ++ (es[i] ++ (es.drop (i + 1)).flatten) := by
      conv => lhs; rw [e1]
      rw [List.flatten_append, List.flatten_cons]
    rw [e3]
    conv => lhs; rw [e2]
    simp only [List.append_assoc, List.cons_append]
  · rw [List.set_eq_take_append_cons_drop, if_pos hi, List.set_eq_take_append_cons_drop, if_pos hc, List.flatten_append, List.flatten_cons]
    simp
section
variable {N : Sz} {st : St}
/-- The last block, known only to one cell of another block, becomes that cell's own. -/
theorem Wk.fold {env' : Env} {h : Heap} {p i c szB sz : Nat} {es esj : List (List AV)} (hst : st.heap = h ++ [some ⟨sz, esj⟩]) (hp : h[p]? = some (some ⟨szB, es⟩)) (hi : i < es.length)
    (hx : (es.getD i [])[c]? = some (.sl h.length 0 esj.length)) (hlow : lowEs 0 esj = true) (hN : N.b ≤ h.length) (h1 : subE st.env env') (h3 : lowE h.length env' = true)
    (h4 : ∀ x ∈ h.set p (some ⟨szB, es.set i ((es.getD i []).set c (.own sz esj))⟩), lowB h.length x = true) :
    Wk N st ⟨env', h.set p (some ⟨szB, es.set i ((es.getD i []).set c (.own sz esj))⟩)⟩ := by
  intro w0 B0 φ Ss a w hR
  have hplt : p < h.length := (List.getElem?_eq_some_iff.1 hp).1
  have hlen : Ss.length = h.length + 1 := by rw [hR.len, hst]; simp
  obtain ⟨Sh, Sj, rfl⟩ : ∃ Sh Sj, Ss = Sh ++ [Sj] := ⟨Ss.dropLast, Ss.getLast (by intro e; rw [e] at hlen; simp at hlen), (List.dropLast_concat_getLast _).symm⟩
  have hShl : Sh.length = h.length := by simp at hlen; exact hlen
  have hgj : st.heap[h.length]? = some (some ⟨sz, esj⟩) := by rw [hst]; simp
  have hgp : st.heap[p]? = some (some ⟨szB, es⟩) := by rw [hst, List.getElem?_append_left hplt]; exact hp
  obtain ⟨Sj', hSj, hBj⟩ := hR.heap _ _ hgj
  have : Sj' = Sj := by rw [List.getElem?_append_right (by omega)] at hSj; simp [hShl] at hSj; exact hSj.symm
  subst this
  obtain ⟨Sp, hSp, hBp⟩ := hR.heap _ _ hgp
  rw [List.getElem?_append_left (by omega)] at hSp
  obtain ⟨A, B, f1, f2⟩ := flat_cell hi hx (.own sz esj)
  let φ' : Refs := fun id => if id < h.length then φ id else none
  have hφ : ∀ id, id < h.length → φ' id = φ id := fun id hid => by simp only [φ']; rw [if_pos hid]
  have hnz : es.flatten ≠ [] := by rw [f1]; simp
  rcases hBp with ⟨q1, q2, q3⟩ | ⟨rp, vs, T, q1, q2, q3, q4, q5, q6, q7, rfl⟩
  · simp only at q2
    rw [q2] at hi; simp at hi
  · simp only at q2 q4 q5 q7
    rw [f1] at q7
    obtain ⟨v1, v2, S1, S2, rfl, rfl, c1, c2⟩ := q7.split
    obtain ⟨x, us, S3, S4, rfl, rfl, k1, k2⟩ := c2.uncons
    -- the cell's value, owned
    have key : ∃ X, VR w (Own (Sh ++ [Sj'])) φ' (.own sz esj) x X ∧ S3 = [] ∧ (X = Sj' ∨ X = []) := by
      generalize hv : AV.sl h.length 0 esj.length = v at k1
      cases k1 with
      | sl0 id off r A hr =>
        injection hv with e1 e2 e3
        have : esj = [] := List.length_eq_zero_iff.1 e3
        subst this
        exact ⟨[], .own0 sz A, rfl, .inr rfl⟩
      | sl id off len cap r hr hcap hlim =>
        injection hv with e1 e2 e3
        subst e1; subst e2; subst e3
        rcases hBj with ⟨g1, _, _⟩ | ⟨rj, vsj, Tj, g1, g2, g3, g4, g5, g6, g7, rfl⟩
        · rw [hr] at g1; cases g1
        · rw [hr] at g1
          cases g1
          simp only at g2 g4 g5 g7
          have hcr : CR w (Own (Sh ++ [r.rb :: Tj])) nof esj.flatten vsj Tj := by
            refine cr_low (p := lowN 2 0) (fun v x S k h => VR.low 2 (fun id hid => by omega) k h) g7 ?_
            unfold lowEs at hlow
            rw [List.all_eq_true] at hlow ⊢
            intro v hv
            obtain ⟨e, he, hve⟩ := List.mem_flatten.1 hv
            exact List.all_eq_true.1 (hlow e he) v hve
          have := VR.own (w := w) (own := Own (Sh ++ [r.rb :: Tj])) (φ := φ') esj sz r.rb r.base cap r.lim vsj Tj g3 g4 hcap (by rw [g2] at hlim; simpa using hlim) g6 hcr
          exact ⟨r.rb :: Tj, by simpa using this, rfl, .inl rfl⟩
      | _ => cases hv
    obtain ⟨X, hX, rfl, hXS⟩ := key
    let Sp' : List Nat := rp.rb :: (S1 ++ (X ++ S4))
    obtain ⟨C, D, d1, d2⟩ := flatten_set hSp Sp'
    have hold : (Sh ++ [Sj']).flatten = C ++ ((rp.rb :: (S1 ++ ([] ++ S4))) ++ D) ++ Sj' := by
      rw [List.flatten_append, d1]; simp
    have hnew : (Sh.set p Sp').flatten = C ++ (Sp' ++ D) := d2
    have hmem : ∀ b, b ∈ (Sh.set p Sp').flatten → b ∈ (Sh ++ [Sj']).flatten := fun b hb => by
      rw [hnew] at hb
      rw [hold]
      simp only [Sp', List.mem_append, List.mem_cons] at hb ⊢
      rcases hXS with e | e <;> subst e <;> simp at hb ⊢ <;> grind
    have hnd : (Sh.set p Sp').flatten.Nodup := by
      have h0 := hR.nodup
      rw [hold] at h0
      rw [hnew]
      rcases hXS with e | e
      · have hperm : (C ++ ((rp.rb :: (S1 ++ ([] ++ S4))) ++ D) ++ Sj').Perm (C ++ (Sp' ++ D)) := by
          rw [List.append_assoc]
          refine List.Perm.append_left C ?_
          simp only [Sp', e, List.cons_append, List.nil_append]
          refine List.Perm.cons _ ?_
          simp only [List.append_assoc]
          refine List.Perm.append_left S1 ?_
          have : (S4 ++ (D ++ Sj')).Perm (Sj' ++ (S4 ++ D)) := by
            rw [← List.append_assoc]
            exact List.perm_append_comm
          exact this
        exact hperm.nodup_iff.1 h0
      · have hs : (C ++ (Sp' ++ D)).Sublist (C ++ ((rp.rb :: (S1 ++ ([] ++ S4))) ++ D) ++ Sj') := by
          simp only [Sp', e]
          exact List.sublist_append_left _ _
        exact h0.sublist hs
    have hfz : ∀ b, b < w.heap.size → ¬ Own (Sh ++ [Sj']) b → ¬ Own (Sh.set p Sp') b ∧ w.heap[b]? = w.heap[b]? := fun b _ ho => ⟨fun hb => ho (hmem b hb), rfl⟩
    refine ⟨φ', Sh.set p Sp', fun t => ?_, fun id b hid => ?_, by simp [hShl], fun id hid => ?_, hnd, fun b hb => hR.bound b (hmem b hb), hR.fr, hR.size, hR.defers, hR.cx, fun k r e => ?_⟩
    · have hv : VR w (Own (Sh ++ [Sj'])) φ' (lk env' t) (a.tmps.getD t Go.undef) [] := by
        rcases subE_lk h1 t with e | e
        · exact VR.low 4 hφ (by rw [e]; exact hR.env t) (lowE_lk h3 t)
        · rw [e]; exact .undef _
      exact hv.tr hfz (Nat.le_refl _) (fun _ _ e => e) (fun _ _ => rfl)
    · have hidl : id < h.length := by have := (List.getElem?_eq_some_iff.1 hid).1; simpa using this
      by_cases hip : id = p
      · subst hip
        rw [List.getElem?_set_self (by omega)] at hid
        cases hid
        refine ⟨Sp', by rw [List.getElem?_set_self (by omega)], ?_⟩
        have hl4 := h4 (some ⟨szB, es.set i ((es.getD i []).set c (.own sz esj))⟩) (List.mem_of_getElem? (by rw [List.getElem?_set_self (by omega)] : (h.set id _)[id]? = some _))
        have hall : (A ++ AV.own sz esj :: B).all (lowN 2 h.length) = true := by
          rw [← f2]
          unfold lowB at hl4
          simp only at hl4
          rw [List.all_eq_true] at hl4 ⊢
          intro v hv
          obtain ⟨e, he, hve⟩ := List.mem_flatten.1 hv
          exact List.all_eq_true.1 (hl4 e he) v hve
        simp only [List.all_append, List.all_cons, Bool.and_eq_true] at hall
        have lw : ∀ v x S, VR w (Own (Sh ++ [Sj'])) φ v x S → lowN 2 h.length v = true → VR w (Own (Sh ++ [Sj'])) φ' v x S := fun v x S k h => VR.low 2 hφ k h
        have q : CR w (Own (Sh ++ [Sj'])) φ' (A ++ AV.own sz esj :: B) (v1 ++ x :: us) (S1 ++ (X ++ S4)) := (cr_low lw c1 hall.1).app (.cons _ _ _ _ _ _ hX (cr_low lw k2 hall.2.2))
        have hul : ∀ e ∈ es.set i ((es.getD i []).set c (.own sz esj)), e.length = szB := fun e he => by
          rcases List.mem_or_eq_of_mem_set he with he | rfl
          · exact q4 e he
          · rw [List.length_set]
            have : es.getD i [] = es[i] := by simp [List.getD_eq_getElem?_getD, hi]
            rw [this]
            exact q4 _ (List.getElem_mem hi)
        have hbr : BR w (Own (Sh ++ [Sj'])) φ' id ⟨szB, es.set i ((es.getD i []).set c (.own sz esj))⟩ Sp' :=
          .inr ⟨rp, v1 ++ x :: us, S1 ++ (X ++ S4), (hφ id hidl).trans q1, q2, q3, hul, by simpa using q5, q6, by simp only; rw [f2]; exact q, rfl⟩
        exact hbr.tr hfz (Nat.le_refl _) (fun _ _ e => e) (fun _ _ => rfl)
      · rw [List.getElem?_set_ne (by omega)] at hid
        have hid' : st.heap[id]? = some (some b) := by rw [hst, List.getElem?_append_left hidl]; exact hid
        obtain ⟨S, g1, g2⟩ := hR.heap id b hid'
        rw [List.getElem?_append_left (by omega)] at g1
        refine ⟨S, by rw [List.getElem?_set_ne (by omega)]; exact g1, ?_⟩
        have hl4 := h4 (some b) (List.mem_of_getElem? (i := id) (by rw [List.getElem?_set_ne (by omega)]; exact hid))
        have q3 : BR w (Own (Sh ++ [Sj'])) φ' id b S := by
          rcases g2 with ⟨e1, e2, e3⟩ | ⟨r, vs', T', e1, e2, e3, e4, e5, e6, e7, e8⟩
          · exact .inl ⟨(hφ id hidl).trans e1, e2, e3⟩
          · refine .inr ⟨r, vs', T', (hφ id hidl).trans e1, e2, e3, e4, e5, e6, cr_low (fun v x S k h => VR.low 2 hφ k h) e7 ?_, e8⟩
            unfold lowB at hl4
            simp only at hl4
            rw [List.all_eq_true] at hl4 ⊢
            intro v hv
            obtain ⟨e, he, hve⟩ := List.mem_flatten.1 hv
            exact List.all_eq_true.1 (hl4 e he) v hve
        exact q3.tr hfz (Nat.le_refl _) (fun _ _ e => e) (fun _ _ => rfl)
    · simp only [φ']
      rw [if_neg]
      simp at hid; omega
    · have hk : k < h.length := by
        rcases Nat.lt_or_ge k N.b with hlt | hge
        · omega
        · rw [hR.cx k hge] at e; cases e
      exact (hφ k hk).trans (hR.keep k r e)
/-- The same, with the cells named. -/
theorem Wk.foldE {env' : Env} {h h' : Heap} {p i c szB sz : Nat} {es esj : List (List AV)} (e : List AV) (hst : st.heap = h ++ [some ⟨sz, esj⟩]) (hp : h[p]? = some (some ⟨szB, es⟩)) (he : es[i]? = some e)
    (hx : e[c]? = some (.sl h.length 0 esj.length)) (hlow : lowEs 0 esj = true) (hN : N.b ≤ h.length) (h1 : subE st.env env') (h3 : lowE h.length env' = true)
    (hh : h' = h.set p (some ⟨szB, es.set i (e.set c (.own sz esj))⟩)) (h4 : ∀ x ∈ h', lowB h.length x = true) : Wk N st ⟨env', h'⟩ := by
  have hi := (List.getElem?_eq_some_iff.1 he).1
  have hg : es.getD i [] = e := by rw [List.getD_eq_getElem?_getD, he]; rfl
  subst hh
  have := Wk.fold (N := N) (st := st) (env' := env') hst hp hi (by rw [hg]; exact hx) hlow hN h1 h3 (by rw [hg]; exact h4)
  rw [hg] at this
  exact this
end
theorem lowEs_set {n k : Nat} {es : List (List AV)} {e : List AV} (h : lowEs n es = true) (he : e.all (lowN 2 n) = true) : lowEs n (es.set k e) = true := by
  unfold lowEs at h ⊢
  rw [List.all_eq_true] at h ⊢
  intro x hx
  rcases List.mem_or_eq_of_mem_set hx with hx | rfl
  · exact h x hx
  · exact he
theorem strS_int (d : Nat) (k : IntKind) (n : Int) : strN (d + 1) (.int k n) = true := rfl
theorem strS_bool (d : Nat) (b : Bool) : strN (d + 1) (.bool b) = true := rfl
theorem strS_own (d sz : Nat) (es : List (List AV)) : strN (d + 1) (.own sz es) = (es.all fun e => e.all (strN d)) := rfl
end HK
