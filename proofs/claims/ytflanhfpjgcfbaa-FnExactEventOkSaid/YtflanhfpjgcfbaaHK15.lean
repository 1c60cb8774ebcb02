/-
  My own text (road H): HK15.
-/
import Derived.Test.YtflanhfpjgcfbaaHK14
namespace HK
open Go

section
variable {P : Program} {N : Sz} {w0 : World} {B0 : Cx} {φ : Refs} {Ss : List (List Nat)} {st : St} {a : Act} {w : World}

theorem set_end {α : Type} (l : List α) (x y : α) : (l ++ [x]).set l.length y = l ++ [y] := by
  rw [List.set_append_right _ _ (Nat.le_refl _)]; simp
theorem set_low {α : Type} (l : List α) (x : α) {i : Nat} (h : i < l.length) (y : α) : (l ++ [x]).set i y = l.set i y ++ [x] := by
  rw [List.set_append_left _ _ h]
theorem cr_drew {own : Nat → Prop} {cs : List AV} {us : List Value} {S : List Nat} (h : CR w own φ cs us S) (d : Nat) : CR ({ w with drawn := d } : World) own φ cs us S :=
  CR.tr (w := w) (w' := { w with drawn := d }) (φ := φ) (own := own) (own' := own) (fun _ _ ho => ⟨ho, rfl⟩) (Nat.le_refl _) (fun _ _ e => e) h (fun _ _ => rfl)
theorem seg_drew {A : Addr} {us : List Value} (h : Seg w A us) (d : Nat) : Seg ({ w with drawn := d } : World) A us := h
theorem tzeroE_spec {t : TypeId} {sz bytes : Nat} {z : List AV} (h : tzeroE P t = some (sz, bytes, z)) : ∃ e i zv, P.underlying t = some (.slice e) ∧ P.info? e = some i ∧ i.size = sz ∧ i.bytes = bytes ∧ i.zero = some zv ∧ zv.cells.size = i.size := by
  unfold tzeroE at h
  split at h
  · rename_i e hu
    split at h
    · rename_i i hi
      split at h
      · rename_i zv hz
        split at h
        · rename_i hs; cases h; exact ⟨e, i, zv, hu, hi, rfl, rfl, hz, hs⟩
        · cases h
      · cases h
    · cases h
  · cases h

theorem app_empty (h : Rel N w0 B0 φ Ss st a w) (sz : Nat) : ∃ φ' Ss', Rel N w0 B0 φ' Ss' ⟨st.env, st.heap ++ [some ⟨sz, []⟩]⟩ a w ∧ φ' st.heap.length = some none := by
  have hφ := h.fresh st.heap.length (Nat.le_refl _)
  have h1 := (h.slot).null (k := st.heap.length) (by simp) hφ (by rw [← h.len]; simp) sz
  simp only [set_end] at h1
  exact ⟨_, _, h1, by unfold upd; rw [if_pos rfl]⟩

theorem app_fresh (h : Rel N w0 B0 φ Ss st a w) {d : Nat} {c : Array Value} {e : TypeId} (sz : Nat) (xs : List (List AV)) (hu : ∀ e ∈ xs, e.length = sz) (hl : xs.length * sz ≤ c.size) {us : List Value} (hvs : ∀ (k : Nat) (v : Value), us[k]? = some v → c[k]? = some v) (hc : CR w (Own Ss) φ xs.flatten us []) :
    ∃ φ' Ss', Rel N w0 B0 φ' Ss' ⟨st.env, st.heap ++ [some ⟨sz, xs⟩]⟩ a { w with drawn := d, heap := w.heap.push (.cells c e) } ∧ φ' st.heap.length = some (some ⟨w.heap.size, 0, c.size, sz⟩) ∧
      φ' = upd φ st.heap.length (some ⟨w.heap.size, 0, c.size, sz⟩) ∧ Ss' = Ss ++ [[w.heap.size]] := by
  have hφ := h.fresh st.heap.length (Nat.le_refl _)
  have hs := h.slot
  have hc' : CR w (Own (Ss ++ [[]])) φ xs.flatten us [] := by
    have e : (Ss ++ [[]]).flatten = Ss.flatten := by simp
    unfold Own at hc ⊢; rw [e]; exact hc
  have h1 := (hs.drew d).new (id := st.heap.length) (by simp) hφ (by rw [← h.len]; simp) (w' := { w with drawn := d, heap := w.heap.push (.cells c e) }) (c := c) (T := e) rfl rfl rfl rfl ⟨sz, xs⟩ hu hl hvs (cr_drew hc' d)
  simp only [set_end] at h1
  rw [← h.len, set_end, h.len] at h1
  exact ⟨_, _, h1, by unfold upd; rw [if_pos rfl], rfl, rfl⟩

theorem app_sound (h : Rel N w0 B0 φ Ss st a w) {t xt ty : TypeId} {sa xa : AV} {sv xv : Value} (hs : VR w (Own Ss) φ sa sv []) (hx : VR w (Own Ss) φ xa xv []) (ok : (evApp P st.heap t xt sa xa).1) :
    ∃ y w' φ' Ss', (Builtin.append_ #[t, xt] ty #[sv, xv]).run P w = .ok y w' ∧ Rel N w0 B0 φ' Ss' ⟨st.env, (evApp P st.heap t xt sa xa).2.1⟩ a w' ∧ VR w' (Own Ss') φ' (evApp P st.heap t xt sa xa).2.2 y [] := by
  unfold evApp at ok ⊢
  cases ht : tzeroE P t with
  | none => simp [ht] at ok
  | some z3 =>
    obtain ⟨sz, bytes, z⟩ := z3
    cases hxt : tel P xt with
    | none => simp [ht, hxt] at ok
    | some x2 =>
      cases hel : elemsOf st.heap sz (st1 xa) with
      | none => simp [ht, hxt, hel] at ok
      | some xs =>
        simp only [ht, hxt, hel] at ok ⊢
        obtain ⟨e, i, zv, hu, hi, rfl, rfl, hz, hzs⟩ := tzeroE_spec ht
        obtain ⟨e2, i2, hu2, -⟩ := tel_spec (sz := x2.1) (bytes := x2.2) hxt
        have key : gk xa → (∀ e ∈ xs, e.length = i.size) → xs.flatten.all ocp = true → ∃ A c us, xv = .slice A xs.length c ∧ us.length = xs.length * i.size ∧ (∀ B, A = some B → Seg w B us) ∧ (A = none → us = []) ∧ CR w (Own Ss) φ xs.flatten us [] ∧ (∀ v ∈ us, v.oneCell' = true) := by
          intro g hxu hxo
          obtain ⟨A, c, us, S, e1, e2, e3, e4, e5⟩ := elems_sound (st := st) h.heap (hx.strip g) hel hxu
          obtain ⟨h1, h2⟩ := ocp_all e5 hxo
          subst h2
          exact ⟨A, c, us, e1, e2, e3, e4, e5, h1⟩
        have first : ∀ {n c : Nat} {A : Option Addr} {us : List Value}, us.length = n * i.size → (∀ B, A = some B → Seg w B us) → (A = none → us = []) → ∀ d, (Builtin.firstCells i.size n (.slice A n c)).run P { w with drawn := d } = .ok us.toArray { w with drawn := d } :=
          fun h1 h2 h3 d => run_first h1 (fun B hB => seg_drew (h2 B hB) d) h3
        have hempty : ∀ {A : Option Addr} {c : Nat}, ∀ d, (Builtin.firstCells i.size 0 (.slice A 0 c)).run P { w with drawn := d } = .ok ([] : List Value).toArray { w with drawn := d } :=
          fun d => run_first (by simp) (fun B _ n v h => by simp at h) (fun _ => rfl)
        have hpure : ∀ (base : Option Addr) (n : Nat), (putAt base n []).run P w = .ok () w := by
          intro base n; cases base <;> simp [storeCells, putAt]
        cases hsv : st1 sa with
        | nil =>
          simp only [hsv] at ok ⊢
          obtain ⟨g1, g2, hxu, hxo, hbd⟩ := ok
          obtain ⟨A, c, us, rfl, hul, hseg, hnone, hcr, hone⟩ := key g2 hxu hxo
          have hs' := hs.strip g1
          rw [hsv] at hs'
          cases hs' with
          | nil A0 =>
            by_cases hm : xs = []
            · subst hm
              obtain ⟨φ', Ss', hR, hk⟩ := app_empty h i.size
              have hus : us = [] := List.eq_nil_of_length_eq_zero (by simpa using hul)
              subst hus
              refine ⟨_, w, φ', Ss', ?_, hR, .sl0 _ _ _ A0 hk⟩
              rw [run_app_in (w := w) hu hi hu2 (first hul hseg hnone w.drawn) (by simp), hpure]; rfl
            · have hpos : 0 < xs.length := List.length_pos_iff.2 hm
              obtain ⟨nc, c', d, h1, h2, h3, h4⟩ := run_app_grow (w := w) (ty := ty) (n := 0) (cap := 0) (base := A0) (os := []) hu hi hz hzs hu2 hempty (first hul hseg hnone) (by omega) (by simpa using hbd) (by simp) hul
              simp only [List.nil_append, Nat.zero_add] at h1 h3 h4
              obtain ⟨φ', Ss', hR, hk, -, -⟩ := app_fresh (d := d) (e := e) h i.size xs hxu (by rw [h2]; exact Nat.mul_le_mul_right _ h1) h3 hcr
              refine ⟨_, _, φ', Ss', h4, hR, ?_⟩
              have := VR.sl (w := { w with drawn := d, heap := w.heap.push (.cells c' e) }) (own := Own Ss') (φ := φ') st.heap.length 0 xs.length nc _ hk h1 (by simp [h2])
              simpa using this
        | sl id off len =>
          simp only [hsv] at ok ⊢
          cases hb' : hb st.heap id with
          | none => simp [hb'] at ok
          | some b =>
            simp only [hb'] at ok ⊢
            obtain ⟨g1, g2, hbs, hol, hxu, hxo, hbd⟩ := ok
            obtain ⟨A, c, us, rfl, hul, hseg, hnone, hcr, hone⟩ := key g2 hxu hxo
            have hs' := hs.strip g1
            rw [hsv] at hs'
            have hid := hb_spec hb'
            have hidlt : id < st.heap.length := (List.getElem?_eq_some_iff.1 hid).1
            cases hs' with
            | sl0 _ _ r A0 hr =>
              simp only [Nat.zero_add, List.take_zero, List.nil_append] at hbd ⊢
              by_cases hm : xs = []
              · subst hm
                obtain ⟨φ', Ss', hR, hk⟩ := app_empty h i.size
                have hus : us = [] := List.eq_nil_of_length_eq_zero (by simpa using hul)
                subst hus
                have hR := hR.kill id
                simp only [set_low _ _ hidlt] at hR
                refine ⟨_, w, φ', Ss', ?_, hR, .sl0 _ _ _ A0 hk⟩
                rw [run_app_in (w := w) hu hi hu2 (first hul hseg hnone w.drawn) (by simp), hpure]; rfl
              · have hpos : 0 < xs.length := List.length_pos_iff.2 hm
                obtain ⟨nc, c', d, h1, h2, h3, h4⟩ := run_app_grow (w := w) (ty := ty) (n := 0) (cap := 0) (base := A0) (os := []) hu hi hz hzs hu2 hempty (first hul hseg hnone) (by omega) (by simpa using hbd) (by simp) hul
                simp only [List.nil_append, Nat.zero_add] at h1 h3 h4
                obtain ⟨φ', Ss', hR, hk, -, -⟩ := app_fresh (d := d) (e := e) h i.size xs hxu (by rw [h2]; exact Nat.mul_le_mul_right _ h1) h3 hcr
                have hR := hR.kill id
                simp only [set_low _ _ hidlt] at hR
                refine ⟨_, _, φ', Ss', h4, hR, ?_⟩
                have := VR.sl (w := { w with drawn := d, heap := w.heap.push (.cells c' e) }) (own := Own Ss') (φ := φ') st.heap.length 0 xs.length nc _ hk h1 (by simp [h2])
                simpa using this
            | sl _ _ _ cap r hr hcap hlim =>
              obtain ⟨S, hS, hB⟩ := h.heap id b hid
              rcases hB with ⟨h1, _, _⟩ | ⟨r', vs, T, h1, h2, ⟨c0, ty0, hc0, hlimc⟩, h4, h5, h6, h7, rfl⟩
              · rw [hr] at h1; cases h1
              · rw [hr] at h1; cases h1
                rw [hbs] at h2 h4 h5
                obtain ⟨f1, f2, f3, f4⟩ := es_part h4 hol
                rw [f1] at h7
                obtain ⟨v1, v2', S1, S2', rfl, rfl, c1, c2⟩ := h7.split
                obtain ⟨v2, v3, S2, S3, rfl, rfl, c2, c3⟩ := c2.split
                have hv1 : v1.length = off * i.size := by rw [← c1.length, f2]
                have hv2 : v2.length = len * i.size := by rw [← c2.length, f3]
                have hseg2 := seg_mid h6
                rw [add_row, hv1] at hseg2
                have hrow2 := row_of hseg2 hc0
                have hu2' : ∀ e ∈ (b.es.drop off).take len ++ xs, e.length = i.size := fun e he => by
                  rcases List.mem_append.1 he with he | he
                  · exact h4 e (List.mem_of_mem_drop (List.mem_of_mem_take he))
                  · exact hxu e he
                have hlen2 : ((b.es.drop off).take len ++ xs).length = len + xs.length := by rw [List.length_append, f4]
                have hsubS : (r.rb :: S2).Sublist (r.rb :: (S1 ++ (S2 ++ S3))) :=
                  List.Sublist.cons_cons _ ((List.sublist_append_left S2 S3).trans (List.sublist_append_right S1 (S2 ++ S3)))
                have hφk := h.fresh st.heap.length (Nat.le_refl _)
                have hks : (Ss ++ [[]])[st.heap.length]? = some [] := by rw [← h.len]; simp
                have hne : id ≠ st.heap.length := by omega
                have hSlt : id < Ss.length := by rw [h.len]; exact hidlt
                have hS' : (Ss ++ [[]])[id]? = some (r.rb :: (S1 ++ (S2 ++ S3))) := by rw [List.getElem?_append_left hSlt]; exact hS
                have own_e : Own (Ss ++ [[]]) = Own Ss := by unfold Own; simp
                have hheap : ∀ x, ((st.heap ++ [none]).set id none).set st.heap.length (some x) = st.heap.set id none ++ [some x] := fun x => by
                  rw [set_low _ _ hidlt]
                  have := set_end (st.heap.set id none) none (some x)
                  rwa [List.length_set] at this
                by_cases hle : len + xs.length ≤ cap
                · -- in place
                  let r2 : Ref := ⟨r.rb, r.base + off * i.size, r.lim, i.size⟩
                  have hφ2 : ∀ k x, φ k = some x → upd φ st.heap.length (some r2) k = some x := upd_old hφk _
                  have hmul : (off + cap) * i.size = off * i.size + cap * i.size := Nat.add_mul ..
                  have hmul2 : (len + xs.length) * i.size = len * i.size + xs.length * i.size := Nat.add_mul ..
                  have hmulc : (len + xs.length) * i.size ≤ cap * i.size := Nat.mul_le_mul_right _ hle
                  rw [h2, hmul] at hlim
                  have hBR : BR w (Own (Ss ++ [[]])) (upd φ st.heap.length (some r2)) st.heap.length ⟨i.size, (b.es.drop off).take len⟩ (r.rb :: S2) := by
                    refine .inr ⟨r2, v2, S2, by unfold upd; rw [if_pos rfl], rfl, ⟨c0, ty0, hc0, hlimc⟩, fun e he => hu2' e (List.mem_append_left _ he), by simp only [r2, f4]; omega, hseg2, ?_, rfl⟩
                    rw [own_e]
                    exact c2.tr (fun _ _ ho => ⟨ho, rfl⟩) (Nat.le_refl _) hφ2 (fun _ _ => rfl)
                  have hm1 := h.slot.move (k := st.heap.length) (by simp) hφk hks hS' hne (some r2) ⟨i.size, (b.es.drop off).take len⟩ hsubS hBR
                  simp only [hheap] at hm1
                  have hk1 : (st.heap.set id none ++ [some (⟨i.size, (b.es.drop off).take len⟩ : Blk)])[st.heap.length]? = some (some ⟨i.size, (b.es.drop off).take len⟩) := by
                    have : (st.heap.set id none).length = st.heap.length := by simp
                    rw [← this]; simp
                  have hSk : (((Ss ++ [[]]).set id []).set st.heap.length (r.rb :: S2))[st.heap.length]? = some (r.rb :: S2) := by
                    rw [List.getElem?_set_self (by simp [h.len])]
                  have hsz : r.base + off * i.size + len * i.size + us.length ≤ c0.size := by rw [hul, hlimc]; omega
                  have hcr2 : CR w (Own (((Ss ++ [[]]).set id []).set st.heap.length (r.rb :: S2))) (upd φ st.heap.length (some r2)) ((b.es.drop off).take len ++ xs).flatten (v2 ++ (us ++ [])) S2 := by
                    rw [List.flatten_append, List.append_nil]
                    have hnd := h.nodup
                    have hh := c2.app hcr
                    rw [List.append_nil] at hh
                    refine hh.tr (fun q _ ho => ⟨fun hq => ho ?_, rfl⟩) (Nat.le_refl _) hφ2 (fun _ _ => rfl)
                    obtain ⟨A1, B1, g1, g2⟩ := flatten_set hS' []
                    obtain ⟨A2, B2, g3, g4⟩ := flatten_set (l := (Ss ++ [[]]).set id []) (id := st.heap.length) (S := []) (by rw [List.getElem?_set_ne hne]; exact hks) (r.rb :: S2)
                    rw [← own_e]
                    show q ∈ (Ss ++ [[]]).flatten
                    have hq' : q ∈ A2 ++ ((r.rb :: S2) ++ B2) := by rw [← g4]; exact hq
                    rw [g1]
                    have hAB : A1 ++ B1 = A2 ++ B2 := by simpa using g2.symm.trans g3
                    rcases List.mem_append.1 hq' with hq' | hq'
                    · have : q ∈ A1 ++ B1 := by rw [hAB]; exact List.mem_append_left _ hq'
                      rcases List.mem_append.1 this with h | h <;> simp [h]
                    · rcases List.mem_append.1 hq' with hq' | hq'
                      · have := hsubS.subset hq'
                        exact List.mem_append_right _ (List.mem_append_left _ this)
                      · have : q ∈ A1 ++ B1 := by rw [hAB]; exact List.mem_append_right _ hq'
                        rcases List.mem_append.1 this with h | h <;> simp [h]
                  have hm2 := hm1.row (id := st.heap.length) hk1 (r := r2) (by unfold upd; rw [if_pos rfl]) hSk hc0 hlimc
                    (new := (c0.toList.take (r.base + off * i.size + len * i.size) ++ us ++ c0.toList.drop (r.base + off * i.size + len * i.size + us.length)).toArray)
                    (by simp; omega) ⟨i.size, (b.es.drop off).take len ++ xs⟩ rfl hu2' (by simp only [r2, hlen2]; omega)
                    (row_put (v3 := []) hrow2 (fun k v hv => by simp at hv) (by rw [hv2]) hsz) hcr2 (List.Sublist.refl _)
                  have hset : (st.heap.set id none ++ [some (⟨i.size, (b.es.drop off).take len⟩ : Blk)]).set st.heap.length (some ⟨i.size, (b.es.drop off).take len ++ xs⟩) = st.heap.set id none ++ [some ⟨i.size, (b.es.drop off).take len ++ xs⟩] := by
                    have := set_end (st.heap.set id none) (some (⟨i.size, (b.es.drop off).take len⟩ : Blk)) (some ⟨i.size, (b.es.drop off).take len ++ xs⟩)
                    rwa [List.length_set] at this
                  simp only [hset] at hm2
                  refine ⟨.slice (some ⟨r.rb, r.base + off * r.sz, none⟩) (len + xs.length) cap, _, _, _, ?_, hm2, ?_⟩
                  · rw [run_app_in (w := w) hu hi hu2 (first hul hseg hnone w.drawn) hle]
                    have hrun := run_storeCells_at P r.rb (r.base + off * i.size + len * i.size) ty0 us 0 c0 w hc0 (by simpa using hsz) hone
                    simp only [putAt, add_row, h2]
                    rw [hrun]; rfl
                  · have := VR.sl (w := w.setRow r.rb (c0.toList.take (r.base + off * i.size + len * i.size) ++ us ++ c0.toList.drop (r.base + off * i.size + len * i.size + us.length)).toArray)
                      (own := Own ((((Ss ++ [[]]).set id []).set st.heap.length (r.rb :: S2)).set st.heap.length (r2.rb :: S2))) (φ := upd φ st.heap.length (some r2)) st.heap.length 0 (len + xs.length) cap r2 (by unfold upd; rw [if_pos rfl]) hle (by simp only [r2, Nat.zero_add]; omega)
                    simpa [r2, h2] using this
                · -- a new row
                  have hcapl : len ≤ cap := hcap
                  obtain ⟨nc, c', d, k1, k2, k3, k4⟩ := run_app_grow (w := w) (ty := ty) (n := len) (cap := cap) (base := some ⟨r.rb, r.base + off * r.sz, none⟩) (os := v2) hu hi hz hzs hu2
                    (first hv2 (fun B hB => by cases hB; rw [h2]; exact hseg2) (fun h => by cases h)) (first hul hseg hnone) (by omega) hbd hv2 hul
                  obtain ⟨φ', Ss', hR, hk, hφe, hSe⟩ := app_fresh (d := d) (c := c') (e := e) h i.size [] (fun e he => by cases he) (by simp) (us := []) (fun k v hv => by simp at hv) .nil
                  have hnd := h.nodup
                  obtain ⟨A1, B1, g1, g2⟩ := flatten_set hS []
                  have hsub2 : ∀ q ∈ S2, q ∈ Ss.flatten := fun q hq => by
                    rw [g1]
                    exact List.mem_append_right _ (List.mem_append_left _ (hsubS.subset (List.mem_cons_of_mem _ hq)))
                  have hold : ∀ q, q < w.heap.size → (({ w with drawn := d, heap := w.heap.push (.cells c' e) } : World)).heap[q]? = w.heap[q]? := fun q hq => by
                    show (w.heap.push (.cells c' e))[q]? = _
                    rw [Array.getElem?_push, if_neg (by omega)]
                  have hnewrow : (({ w with drawn := d, heap := w.heap.push (.cells c' e) } : World)).heap[w.heap.size]? = some (.cells c' e (0, 0)) := by simp
                  have hcr2 : CR ({ w with drawn := d, heap := w.heap.push (.cells c' e) } : World) (Own Ss') φ' ((b.es.drop off).take len ++ xs).flatten (v2 ++ us) S2 := by
                    rw [List.flatten_append]
                    have hh := c2.app hcr
                    rw [List.append_nil] at hh
                    refine CR.tr (w := w) (fun q hq ho => ⟨fun hq' => ?_, hold q hq⟩) (by simp) (fun k x hx => by rw [hφe]; exact upd_old hφk _ k x hx) hh (fun q hq => hold q (h.bound q (hsub2 q hq)).1)
                    have hq' : q ∈ Ss'.flatten := hq'
                    rw [hSe] at hq'
                    simp at hq'
                    rcases hq' with ⟨l, hl, hql⟩ | rfl
                    · exact ho (List.mem_flatten.2 ⟨l, hl, hql⟩)
                    · omega
                  have hmulc : (len + xs.length) * i.size ≤ nc * i.size := Nat.mul_le_mul_right _ k1
                  have hBR : BR ({ w with drawn := d, heap := w.heap.push (.cells c' e) } : World) (Own Ss') φ' st.heap.length ⟨i.size, (b.es.drop off).take len ++ xs⟩ (w.heap.size :: S2) := by
                    refine .inr ⟨_, v2 ++ us, S2, hk, rfl, ⟨c', e, hnewrow, rfl⟩, hu2', by simp only [hlen2, k2]; omega, ?_, hcr2, rfl⟩
                    intro n v hv
                    rw [add_row]
                    simp only [World.cell?, hnewrow, Nat.zero_add]
                    simpa using k3 n v hv
                  have hm2 := hR.move2 (id := id) (k := st.heap.length) (by simp) (Sk := [w.heap.size]) (by rw [hSe, ← h.len]; simp) (by rw [hSe, List.getElem?_append_left hSlt]; exact hS) hne _ (S' := w.heap.size :: S2)
                    (by
                      show (w.heap.size :: S2).Sublist (w.heap.size :: (r.rb :: (S1 ++ (S2 ++ S3))))
                      exact List.Sublist.cons_cons _ ((List.sublist_cons_self _ _).trans hsubS)) hBR
                  have hset : ((st.heap ++ [some (⟨i.size, []⟩ : Blk)]).set id none).set st.heap.length (some ⟨i.size, (b.es.drop off).take len ++ xs⟩) = st.heap.set id none ++ [some ⟨i.size, (b.es.drop off).take len ++ xs⟩] := by
                    rw [set_low _ _ hidlt]
                    have := set_end (st.heap.set id none) (some (⟨i.size, []⟩ : Blk)) (some ⟨i.size, (b.es.drop off).take len ++ xs⟩)
                    rwa [List.length_set] at this
                  simp only [hset] at hm2
                  refine ⟨_, _, _, _, k4, hm2, ?_⟩
                  have := VR.sl (w := { w with drawn := d, heap := w.heap.push (.cells c' e) }) (own := Own ((Ss'.set id []).set st.heap.length (w.heap.size :: S2))) (φ := φ') st.heap.length 0 (len + xs.length) nc _ hk k1 (by simp [k2])
                  simpa using this
        | _ => simp [hsv] at ok
end
end HK
