/-
  My own text (road H): HK26.
-/
import Derived.Test.YtflanhfpjgcfbaaHK25
namespace HK
open Go
section
variable {P : Program} {N : Sz} {w0 : World} {B0 : Cx}
theorem seg_sound {ops : List Oper} {T : List (Nat × List Nat)} {Q : Exit → Act → World → Prop} (hT : TOk ops T) {D : List Nat} {l : List (Nat × Bool)} {r : List PSeg} (hD : ∀ p ∈ D, p < ops.length) (hdis : ∀ x ∈ l.map (·.1), x ∉ D) (hq : qOk ops T D [] l = true)
    (hcov : ∀ x, x < ops.length → x ∈ D ∨ x ∈ l.map (·.1) ∨ x ∈ planIdx r) (hlater : ∀ x ∈ planIdx r, ∀ z ∈ l.map (·.1), z ∈ lkT T x) {its : List It} {st0 : St} (hlen : its.length = l.length)
    (hits : ∀ (k : Nat) (x : Nat) (c : Bool), l[k]? = some ((x, c) : Nat × Bool) → ∃ it o, its[k]? = some it ∧ ops[x]? = some o ∧ it.o = o ∧ (c = false → it.bl = []) ∧
      Q1 P N (ops.map (·.dst)) c o (stM its (pre k) st0).env (stM its (pre k) st0).heap (fun v bl => v = it.v ∧ bl = it.bl)) {rest : Nat}
    (next : ∀ φ Ss a w listed fuel, listed.size = ops.length → Closed ops listed → (∀ i, i < ops.length → (listed.getD i false = true ↔ i ∈ D ++ l.map (·.1))) → Rel N w0 B0 φ Ss (stM its (fun _ => true) st0) a w → rest ≤ fuel →
      wpAny P .any ops.toArray Q fuel listed a w) :
    ∀ (n : Nat) (pd : List Nat) (fs : Nat → Bool) (φ : Refs) (Ss : List (List Nat)) (a : Act) (w : World) (listed : Array Bool) (fuel : Nat), pd.length = n → pd.Nodup → (∀ k ∈ pd, k < l.length) → (∀ k, k < l.length → (fs k = false ↔ k ∈ pd)) →
      listed.size = ops.length → Closed ops listed → (∀ i, i < ops.length → (listed.getD i false = true ↔ i ∈ D ∨ ∃ k c, l[k]? = some ((i, c) : Nat × Bool) ∧ fs k = true)) → Rel N w0 B0 φ Ss (stM its fs st0) a w → n + rest ≤ fuel →
      wpAny P .any ops.toArray Q fuel listed a w := by
  have hinj : ∀ (k k' : Nat) (x : Nat) (c c' : Bool), l[k]? = some ((x, c) : Nat × Bool) → l[k']? = some ((x, c') : Nat × Bool) → k = k' := by
    intro k k' x c c' h1 h2
    rcases Nat.lt_trichotomy k k' with hlt | he | hlt
    · obtain ⟨o, _, _, _, h3⟩ := qOk_spec hq k' x c' h2
      have := h3 k x c hlt h1
      simp [pairOk] at this
    · exact he
    · obtain ⟨o, _, _, _, h3⟩ := qOk_spec hq k x c h1
      have := h3 k' x c' hlt h2
      simp [pairOk] at this
  intro n
  induction n with
  | zero =>
    intro pd fs φ Ss a w listed fuel hpl hnd hlt hfs hs hcl hL hR hfu
    have hpd : pd = [] := List.eq_nil_of_length_eq_zero hpl
    subst hpd
    have hall : ∀ k, k < l.length → fs k = true := fun k hk => by
      have := hfs k hk
      cases h : fs k with
      | true => rfl
      | false => exact absurd (this.1 h) (by simp)
    refine next φ Ss a w listed fuel hs hcl (fun i hi => (hL i hi).trans ?_) (by rw [← stM_congr its fs (fun _ => true) st0 fun k hk => hall k (by omega)]; exact hR) (by omega)
    rw [List.mem_append]
    refine or_congr Iff.rfl ⟨fun ⟨k, c, h1, _⟩ => List.mem_map.2 ⟨(i, c), List.mem_of_getElem? h1, rfl⟩, fun h => ?_⟩
    obtain ⟨⟨i', c⟩, hm, rfl⟩ := List.mem_map.1 h
    obtain ⟨k, hk⟩ := List.getElem?_of_mem hm
    exact ⟨k, c, hk, hall k (List.getElem?_eq_some_iff.1 hk).1⟩
  | succ n ih =>
    intro pd fs φ Ss a w listed fuel hpl hnd hlt hfs hs hcl hL hR hfu
    obtain ⟨f, rfl⟩ : ∃ f, fuel = f + 1 := ⟨fuel - 1, by omega⟩
    have hidx : ∀ k, k < l.length → ∃ x c, l[k]? = some ((x, c) : Nat × Bool) := fun k hk => ⟨_, _, List.getElem?_eq_getElem hk⟩
    have hxlt : ∀ (k x : Nat) (c : Bool), l[k]? = some ((x, c) : Nat × Bool) → x < ops.length := fun k x c hk => by
      obtain ⟨o, h1, _⟩ := qOk_spec hq k x c hk
      exact (List.getElem?_eq_some_iff.1 h1).1
    -- what is pending is not listed
    have hpend : ∀ (k x : Nat) (c : Bool), l[k]? = some ((x, c) : Nat × Bool) → fs k = false → listed.getD x false = false := fun k x c hk hf => by
      cases h : listed.getD x false with
      | false => rfl
      | true =>
        rcases (hL x (hxlt k x c hk)).1 h with h1 | ⟨k', c', h1, h2⟩
        · exact absurd h1 (hdis x (List.mem_map.2 ⟨(x, c), List.mem_of_getElem? hk, rfl⟩))
        · have := hinj k k' x c c' hk h1
          subst this; rw [hf] at h2; cases h2
    have hlisted : ∀ (k x : Nat) (c : Bool), l[k]? = some ((x, c) : Nat × Bool) → listed.getD x false = true → fs k = true := fun k x c hk hx => by
      cases h : fs k with
      | true => rfl
      | false => rw [hpend k x c hk h] at hx; cases hx
    refine ⟨fun h0 => ?_, fun x hx => ?_⟩
    · exfalso
      have hne : pd ≠ [] := fun e => by rw [e] at hpl; cases hpl
      obtain ⟨k0, hk0, hmin⟩ := minOf l.length pd (by
        obtain ⟨k, t, e⟩ := List.exists_cons_of_ne_nil hne
        exact ⟨k, by rw [e]; simp, hlt k (by rw [e]; simp)⟩)
      obtain ⟨x, c, hx⟩ := hidx k0 (hlt k0 hk0)
      obtain ⟨o, h1, h2, _, _⟩ := qOk_spec hq k0 x c hx
      have : x ∈ Region.ready .any ops.toArray listed := (ready_iff hs).2 ⟨hpend k0 x c hx ((hfs k0 (hlt k0 hk0)).2 hk0), o, h1, fun p hp => by
        rcases h2 p hp with h3 | h3 | ⟨k', c', h3, h4⟩
        · exact (hL p (hD p h3)).2 (.inl h3)
        · simp at h3
        · refine (hL p (hxlt k' p c' h4)).2 (.inr ⟨k', c', h4, ?_⟩)
          cases h5 : fs k' with
          | true => rfl
          | false =>
            have := hmin k' ((hfs k' (List.getElem?_eq_some_iff.1 h4).1).1 h5)
            omega⟩
      rw [h0] at this
      cases this
    · obtain ⟨hun, o, ho, hpr⟩ := (ready_iff hs).1 hx
      have hxl : x < ops.length := (List.getElem?_eq_some_iff.1 ho).1
      have hanc : ∀ z ∈ lkT T x, listed.getD z false = true := fun z hz => hcl.ready ho hpr (hT x z hz)
      rcases hcov x hxl with h1 | h1 | h1
      · rw [(hL x hxl).2 (.inl h1)] at hun; cases hun
      · obtain ⟨⟨x', c⟩, hm, rfl⟩ := List.mem_map.1 h1
        obtain ⟨k, hk⟩ := List.getElem?_of_mem hm
        have hkl := (List.getElem?_eq_some_iff.1 hk).1
        have hfk : fs k = false := by
          cases h : fs k with
          | false => rfl
          | true => rw [(hL x' hxl).2 (.inr ⟨k, c, hk, h⟩)] at hun; cases hun
        obtain ⟨it, o', e1, e2, e3, e4, e5⟩ := hits k x' c hk
        rw [ho] at e2; cases e2
        obtain ⟨o2, q1, q2, q3, q4⟩ := qOk_spec hq k x' c hk
        rw [ho] at q1; cases q1
        -- what comes later of the text and is done must not come behind
        have hlat : ∀ (k' x2 : Nat) (c2 : Bool), l[k']? = some ((x2, c2) : Nat × Bool) → fs k' = true → x' ∉ lkT T x2 := fun k' x2 c2 h1 h2 hz => by
          have := hcl.anc (hT x2 x' hz) ((hL x2 (hxlt k' x2 c2 h1)).2 (.inr ⟨k', c2, h1, h2⟩))
          rw [hun] at this; cases this
        have hitk : ∀ (k' : Nat) (it' : It), its[k']? = some it' → ∃ x2 c2, l[k']? = some ((x2, c2) : Nat × Bool) ∧ ops[x2]? = some it'.o ∧ (c2 = false → it'.bl = []) := fun k' it' h => by
          have hlt' : k' < l.length := by have := (List.getElem?_eq_some_iff.1 h).1; omega
          obtain ⟨x2, c2, h2⟩ := hidx k' hlt'
          obtain ⟨it2, o2, g1, g2, g3, g4, _⟩ := hits k' x2 c2 h2
          rw [h] at g1; cases g1
          exact ⟨x2, c2, h2, by rw [g3]; exact g2, g4⟩
        -- two of them
        have hpair : ∀ (k' : Nat) (it' : It) (x2 : Nat) (c2 : Bool), its[k']? = some it' → l[k']? = some ((x2, c2) : Nat × Bool) → k' < k → pairOk ops T x' o x2 c2 = true := fun k' it' x2 c2 _ h2 h3 => q4 k' x2 c2 h3 h2
        have hpair2 : ∀ (k' : Nat) (it' : It) (x2 : Nat) (c2 : Bool), its[k']? = some it' → l[k']? = some ((x2, c2) : Nat × Bool) → ops[x2]? = some it'.o → k < k' → pairOk ops T x2 it'.o x' c = true := fun k' it' x2 c2 _ h2 h2' h3 => by
          obtain ⟨o3, g1, _, _, g4⟩ := qOk_spec hq k' x2 c2 h2
          rw [h2'] at g1; cases g1
          exact g4 k x' c h3 hk
        have hfst : ∀ (k' x2 : Nat) (c2 : Bool), l[k']? = some ((x2, c2) : Nat × Bool) → x2 ∈ lkT T x' → fs k' = true := fun k' x2 c2 h1 h2 => hlisted k' x2 c2 h1 (hanc x2 h2)
        have hmk : c = true → ∀ (k' : Nat) (it' : It), its[k']? = some it' → k < k' → fs k' = false := fun hc k' it' h1 h2 => by
          obtain ⟨x2, c2, h3, h4, _⟩ := hitk k' it' h1
          have := hpair2 k' it' x2 c2 h1 h3 h4 h2
          simp only [pairOk, ho, hc, Bool.not_true, Bool.false_and, Bool.or_false, Bool.and_eq_true, List.contains_iff_mem] at this
          cases h5 : fs k' with
          | false => rfl
          | true => exact absurd this.2.2 (hlat k' x2 c2 h3 h5)
        have hds : ops.toArray.toList.map (·.dst) = ops.map (·.dst) := by simp
        have hpre : ∃ lh, (stM its fs st0).heap = (stM its (pre k) st0).heap ++ lh ∧ (c = true → lh = []) := by
          rw [stM_heap, stM_heap]
          have hbefore : ∀ k' it', its[k']? = some it' → k' < k → it'.bl = [] ∨ fs k' = true := fun k' it' h1 h2 => by
            obtain ⟨x2, c2, h3, h4, h5⟩ := hitk k' it' h1
            have := hpair k' it' x2 c2 h1 h3 h2
            cases c2 with
            | false => exact .inl (h5 rfl)
            | true =>
              simp only [pairOk, h4, Bool.not_true, Bool.false_and, Bool.or_false, Bool.and_eq_true, List.contains_iff_mem] at this
              exact .inr (hfst k' x2 true h3 this.2.2)
          cases hcc : c with
          | true =>
            refine ⟨[], ?_, fun _ => rfl⟩
            rw [blM_eq its fs (pre k) fun k' it' h1 => ?_, List.append_nil]
            rcases Nat.lt_trichotomy k' k with h2 | h2 | h2
            · rcases hbefore k' it' h1 h2 with h3 | h3
              · exact .inl h3
              · right; rw [h3]; simp [pre, h2]
            · subst h2; right; rw [hfk]; simp [pre]
            · right; rw [hmk hcc k' it' h1 h2]; simp [pre]; omega
          | false =>
            obtain ⟨lh, hl⟩ := blM_pre (k := k) its fs hbefore
            exact ⟨lh, by rw [hl, List.append_assoc], fun e => by cases e⟩
        obtain ⟨lh, hp1, hp2⟩ := hpre
        refine q1_sound (ops := ops.toArray) (o := o) (by simpa using ho) (c := c) (env := (stM its (pre k) st0).env) (h := (stM its (pre k) st0).heap) (l := lh) (by rw [hds]; exact e5) (fun t ht => ?_) hp1 hp2 (fun v bl φ' Ss' a' w' _ hJ hR' => ?_) hR
        · refine stM_lk its _ _ st0 st0 (fun k' it' h1 h2 => ?_) rfl
          obtain ⟨x2, c2, h3, h4, h5⟩ := hitk k' it' h1
          rcases Nat.lt_trichotomy k' k with h6 | h6 | h6
          · have := hpair k' it' x2 c2 h1 h3 h6
            simp only [pairOk, h4, h2, Bool.and_eq_true, Bool.or_eq_true, List.contains_iff_mem] at this
            rcases this.2.2 with h7 | ⟨⟨_, h7⟩, _⟩
            · rw [hfst k' x2 c2 h3 h7]; simp [pre, h6]
            · simp at h7; exact absurd ht h7
          · subst h6; rw [hfk]; simp [pre]
          · have := hpair2 k' it' x2 c2 h1 h3 h4 h6
            simp only [pairOk, ho, h2, Bool.and_eq_true, Bool.or_eq_true, List.contains_iff_mem] at this
            have h9 : pre k k' = false := by simp [pre]; omega
            rw [h9]
            rcases this.2.2 with h7 | ⟨_, h7⟩
            · cases h8 : fs k' with
              | false => rfl
              | true => exact absurd h7 (hlat k' x2 c2 h3 h8)
            · simp at h7; exact absurd ht h7
        · obtain ⟨rfl, rfl⟩ := hJ
          have hkpd : k ∈ pd := (hfs k hkl).1 hfk
          have hR2 : Rel N w0 B0 φ' Ss' (stM its (setF fs k) st0) a' w' := by
            refine hR'.lkc (fun t => ?_) ?_
            · subst e3
              refine (stM_put its fs st0 e1 hfk fun k' it' h1 h2 d hd => ?_).symm
              obtain ⟨x2, c2, h3, h4, h5⟩ := hitk k' it' h1
              rcases Nat.lt_or_ge k' k with h6 | h6
              · have := hpair k' it' x2 c2 h1 h3 h6
                simp only [pairOk, h4, hd, Bool.and_eq_true] at this
                simpa using this.2.1
              · have := hpair2 k' it' x2 c2 h1 h3 h4 (by omega)
                simp only [pairOk, ho, hd, Bool.and_eq_true] at this
                intro h7
                rw [h7] at this
                simpa using this.2.1
            · show (stM its (setF fs k) st0).heap = (stM its fs st0).heap ++ it.bl.map some
              rw [stM_heap, stM_heap, blM_set its fs e1 hfk ?_, List.append_assoc]
              cases hcc : c with
              | false => exact .inl (e4 hcc)
              | true => exact .inr fun k' it' h1 h2 h3 => by rw [hmk hcc k' it' h1 h2] at h3; cases h3
          refine ih (pd.erase k) (setF fs k) φ' Ss' a' w' _ f (by rw [List.length_erase_of_mem hkpd]; omega) (hnd.erase k) (fun k' h => hlt k' (List.mem_of_mem_erase h)) (fun k' hk' => ?_) (by simpa using hs) (hcl.set hs ho hpr) (fun i hi => ?_) hR2 (by omega)
          · rw [hnd.mem_erase_iff]
            unfold setF
            split
            · rename_i e; subst e; simp
            · rename_i e
              exact (hfs k' hk').trans ⟨fun h => ⟨e, h⟩, fun h => h.2⟩
          · rw [listed_set hs hxl]
            split
            · rename_i e; subst e
              simp only [true_iff]
              exact .inr ⟨k, c, hk, by simp [setF]⟩
            · rename_i e
              refine (hL i hi).trans (or_congr Iff.rfl ⟨fun ⟨k', c', h1, h2⟩ => ⟨k', c', h1, ?_⟩, fun ⟨k', c', h1, h2⟩ => ⟨k', c', h1, ?_⟩⟩)
              · unfold setF; split
                · rfl
                · exact h2
              · unfold setF at h2
                split at h2
                · rename_i e'; subst e'; rw [hk] at h1; cases h1; exact absurd rfl e
                · exact h2
      · exfalso
        have hne : pd ≠ [] := fun e => by rw [e] at hpl; cases hpl
        obtain ⟨k0, t, e⟩ := List.exists_cons_of_ne_nil hne
        have hk0 : k0 ∈ pd := by rw [e]; simp
        obtain ⟨x0, c0, hx0⟩ := hidx k0 (hlt k0 hk0)
        have h2 := hanc x0 (hlater x h1 x0 (List.mem_map.2 ⟨(x0, c0), List.mem_of_getElem? hx0, rfl⟩))
        rw [hpend k0 x0 c0 hx0 ((hfs k0 (hlt k0 hk0)).2 hk0)] at h2
        cases h2

theorem plan_sound {ops : List Oper} {T : List (Nat × List Nat)} (hT : TOk ops T) {Q : Exit → St → Prop} {K : St → Prop} (hK : ∀ st, K st → Q .normal st) :
    ∀ (plan : List PSeg) (D : List Nat) (st : St) (φ : Refs) (Ss : List (List Nat)) (a : Act) (w : World) (listed : Array Bool) (fuel : Nat), planOk ops T D plan = true → (∀ p ∈ D, p < ops.length) → listed.size = ops.length → Closed ops listed →
      (∀ i, i < ops.length → (listed.getD i false = true ↔ i ∈ D)) → Rel N w0 B0 φ Ss st a w → runD P N ops (ops.map (·.dst)) plan st K → (planIdx plan).length ≤ fuel → wpAny P .any ops.toArray (QR N w0 B0 Q) fuel listed a w
  | [], D, st, φ, Ss, a, w, listed, fuel, hp, hD, hs, hcl, hL, hR, hr, hf => by
    refine wpAny_done ?_ ⟨st, φ, Ss, hK _ hr, hR⟩ fuel
    rw [List.eq_nil_iff_forall_not_mem]
    intro x hx
    obtain ⟨h1, o, ho, _⟩ := (ready_iff hs).1 hx
    have hxl := (List.getElem?_eq_some_iff.1 ho).1
    rcases plan_cover hp x hxl with h | h
    · rw [(hL x hxl).2 h] at h1; cases h1
    · simp [planIdx] at h
  | .b i :: r, D, st, φ, Ss, a, w, listed, fuel, hp, hD, hs, hcl, hL, hR, hr, hf => by
    have hcov := plan_cover hp
    simp only [planOk, Bool.and_eq_true] at hp
    obtain ⟨⟨hp1, hp2⟩, hp3⟩ := hp
    simp only [PSeg.idx, List.all_cons, List.all_nil, Bool.and_true, Bool.and_eq_true, Bool.not_eq_true', List.all_eq_true, List.contains_iff_mem] at hp1
    have hiD : i ∉ D := fun h => by have := hp1.1; simp [h] at this
    simp only [runD] at hr
    simp only [segOk] at hp2
    split at hr
    · rename_i o ho
      rw [ho] at hp2
      simp only [List.all_eq_true, List.contains_iff_mem] at hp2
      have hil := (List.getElem?_eq_some_iff.1 ho).1
      have hlen : (planIdx (.b i :: r)).length = 1 + (planIdx r).length := by simp [planIdx, PSeg.idx]; omega
      obtain ⟨f, rfl⟩ : ∃ f, fuel = f + 1 := ⟨fuel - 1, by omega⟩
      have hun : listed.getD i false = false := by
        cases h : listed.getD i false with
        | false => rfl
        | true => exact absurd ((hL i hil).1 h) hiD
      have hri : i ∈ Region.ready .any ops.toArray listed := (ready_iff hs).2 ⟨hun, o, ho, fun p hp => (hL p (hD p (hp2 p hp))).2 (hp2 p hp)⟩
      refine ⟨fun h0 => (by rw [h0] at hri; cases hri), fun x hx => ?_⟩
      obtain ⟨hux, ox, hox, hpr⟩ := (ready_iff hs).1 hx
      have hxl := (List.getElem?_eq_some_iff.1 hox).1
      have hxi : x = i := by
        rcases hcov x hxl with h | h
        · rw [(hL x hxl).2 h] at hux; cases hux
        · simp only [planIdx, List.map_cons, List.flatten_cons, List.mem_append, PSeg.idx, List.mem_singleton] at h
          rcases h with h | h
          · exact h
          · have h3 := plan_later hp3 x h i (List.mem_append_right _ (by simp [PSeg.idx]))
            have h4 := hcl.ready hox hpr (hT x i h3)
            rw [hun] at h4; cases h4
      subst hxi
      rw [ho] at hox; cases hox
      have hds : ops.toArray.toList.map (·.dst) = ops.map (·.dst) := by simp
      refine stepA_sound (ops := ops.toArray) (o := o) (by simpa using ho) (fun st' φ' Ss' a' w' hJ hR' => ?_) hR (by rw [hds]; exact hr)
      refine plan_sound hT hK r (D ++ [x]) st' φ' Ss' a' w' _ f (by simpa [PSeg.idx] using hp3) (fun p hp => ?_) (by simpa using hs) (hcl.set hs ho hpr) (fun j hj => ?_) hR' hJ (by omega)
      · rcases List.mem_append.1 hp with h | h
        · exact hD p h
        · simp at h; subst h; exact hil
      · rw [listed_set hs hil]
        split
        · rename_i e; subst e; simp
        · rename_i e
          rw [hL j hj]; simp [e]
    · exact hr.elim
  | .q l :: r, D, st, φ, Ss, a, w, listed, fuel, hp, hD, hs, hcl, hL, hR, hr, hf => by
    have hcov := plan_cover hp
    simp only [planOk, Bool.and_eq_true] at hp
    obtain ⟨⟨hp1, hp2⟩, hp3⟩ := hp
    simp only [PSeg.idx, segOk] at hp1 hp2 hp3
    simp only [runD] at hr
    have hfm : ∀ (m : List (Nat × Bool)), (∀ x ∈ m, ∃ o, ops[x.1]? = some o) → (m.filterMap fun x => (ops[x.1]?).map fun o => (x.2, o)).length = m.length ∧
        ∀ (k x : Nat) (c : Bool), m[k]? = some ((x, c) : Nat × Bool) → ∃ o, ops[x]? = some o ∧ (m.filterMap fun x => (ops[x.1]?).map fun o => (x.2, o))[k]? = some (c, o) := by
      intro m
      induction m with
      | nil => intro _; exact ⟨rfl, fun k x c h => by simp at h⟩
      | cons y m ih =>
        intro hm
        obtain ⟨o, ho⟩ := hm y (by simp)
        obtain ⟨i1, i2⟩ := ih fun x hx => hm x (by simp [hx])
        have e : ((y :: m).filterMap fun x => (ops[x.1]?).map fun o => (x.2, o)) = (y.2, o) :: (m.filterMap fun x => (ops[x.1]?).map fun o => (x.2, o)) := by
          rw [List.filterMap_cons, ho]; rfl
        rw [e]
        refine ⟨by simp [i1], fun k x c h => ?_⟩
        cases k with
        | zero => simp at h; subst h; exact ⟨o, ho, by simp⟩
        | succ k => simpa using i2 k x c (by simpa using h)
    have hex : ∀ x ∈ l, ∃ o, ops[x.1]? = some o := fun x hx => by
      obtain ⟨k, hk⟩ := List.getElem?_of_mem hx
      obtain ⟨o, h1, _⟩ := qOk_spec hp2 k x.1 x.2 hk
      exact ⟨o, h1⟩
    obtain ⟨f1, f2⟩ := hfm l hex
    obtain ⟨its, i1, i2, i3⟩ := runQ_its hr
    have hits : ∀ (k : Nat) (x : Nat) (c : Bool), l[k]? = some ((x, c) : Nat × Bool) → ∃ it o, its[k]? = some it ∧ ops[x]? = some o ∧ it.o = o ∧ (c = false → it.bl = []) ∧
        Q1 P N (ops.map (·.dst)) c o (stM its (pre k) st).env (stM its (pre k) st).heap (fun v bl => v = it.v ∧ bl = it.bl) := fun k x c hk => by
      obtain ⟨o, h1, h2⟩ := f2 k x c hk
      obtain ⟨it, h3, h4, h5, h6⟩ := i3 k c o h2
      exact ⟨it, o, h3, h1, h4, h5, h6⟩
    have hlen : (planIdx (.q l :: r)).length = l.length + (planIdx r).length := by simp [planIdx, PSeg.idx]
    have hno : ∀ (l : List It) (s : St), stM l (fun _ => false) s = s := fun l => by
      induction l with
      | nil => intro s; rfl
      | cons y l ih => intro s; simp only [stM]; exact ih s
    have hidxlt : ∀ p ∈ l.map (·.1), p < ops.length := fun p hp => by
      obtain ⟨y, hy, rfl⟩ := List.mem_map.1 hp
      obtain ⟨o, ho⟩ := hex y hy
      exact (List.getElem?_eq_some_iff.1 ho).1
    refine seg_sound (rest := (planIdx r).length) hT hD (fun x hx hxD => ?_) hp2 (fun x hx => ?_) (fun x hx z hz => plan_later hp3 x hx z (List.mem_append_right _ hz)) (i1.trans f1) hits
      (fun φ' Ss' a' w' listed' fuel' hs' hcl' hL' hR' hf' => plan_sound hT hK r (D ++ l.map (·.1)) _ φ' Ss' a' w' listed' fuel' hp3 (fun p hp => ?_) hs' hcl' hL' hR' i2 hf')
      l.length (List.range l.length) (fun _ => false) φ Ss a w listed fuel (by simp) List.nodup_range (fun k hk => by simpa using hk) (fun k hk => by simp [hk]) hs hcl (fun i hi => (hL i hi).trans ⟨.inl, fun h => h.elim id fun ⟨_, _, _, h⟩ => by cases h⟩) (by rw [hno]; exact hR) (by omega)
    · have := List.all_eq_true.1 hp1 x hx
      simp [hxD] at this
    · rcases hcov x hx with h | h
      · exact .inl h
      · right; simpa [planIdx, PSeg.idx] using h
    · rcases List.mem_append.1 hp with h | h
      · exact hD p h
      · exact hidxlt p h

theorem SW.draw {id : Nat} {l : List Oper} {Q : Exit → St → Prop} {st : St} (hm : P.follows .mixedOrders = true) (plan : List PSeg) (hp : drawOk l plan = true) (hn : (planIdx plan).length = l.length) (h : runD P N l (l.map (·.dst)) plan st (Q .normal)) :
    SW P N (.region id l.toArray true) Q st := fun w0 B0 φ Ss a w hR => by
  refine wp_region_any hm ?_
  have hT : TOk l (ancT l (planIdx plan) []) := ancT_ok _ fun x z hz => by simp [lkT] at hz
  have hR' : Rel N w0 B0 φ Ss st a { w with drawn := w.drawn + 1 } := hR.drew _
  have hrep : ∀ i, (Array.replicate l.length false).getD i false = false := fun i => by
    by_cases hi : i < l.length
    · simp [hi]
    · simp [hi]
  refine plan_sound hT (K := Q .normal) (fun _ h => h) plan [] st φ Ss a _ _ _ hp (fun p hp => by simp at hp) (by simp) (fun y o hy => ?_) (fun i hi => ?_) hR' h (by simp; omega)
  · rw [show l.toArray.size = l.length by simp, hrep] at hy; cases hy
  · rw [show l.toArray.size = l.length by simp, hrep]; simp
theorem SW.drawK {id : Nat} {l : List Oper} {y : Code} {Q : Exit → St → Prop} {st : St} (hm : P.follows .mixedOrders = true) (plan : List PSeg) (hp : drawOk l plan = true) (hn : (planIdx plan).length = l.length)
    (h : ∀ K : St → Prop, (∀ st, SW P N y Q st → K st) → runD P N l (l.map (·.dst)) plan st K) : SW P N (.seq (.region id l.toArray true) y) Q st :=
  SW.seq (SW.draw hm plan hp hn (h _ fun _ h => h))
theorem SW.drawE {id : Nat} {l : List Oper} {Q : Exit → St → Prop} {st : St} (hm : P.follows .mixedOrders = true) (plan : List PSeg) (hp : drawOk l plan = true) (hn : (planIdx plan).length = l.length)
    (h : ∀ K : St → Prop, (∀ st, Q .normal st → K st) → runD P N l (l.map (·.dst)) plan st K) : SW P N (.region id l.toArray true) Q st :=
  SW.draw hm plan hp hn (h _ fun _ h => h)
end
end HK
