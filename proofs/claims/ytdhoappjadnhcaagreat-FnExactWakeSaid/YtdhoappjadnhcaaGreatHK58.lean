import Derived.Test.YtdhoappjadnhcaaGreatHK36
/-
  My own texts (road H): HK58.
-/
set_option maxHeartbeats 8000000
set_option linter.unusedVariables false
set_option linter.unusedSimpArgs false
namespace HK
open Go
section
variable {P : Program} {N : Sz} {w0 : World} {B0 : Cx}
def drawWOkD (ops : List Oper) (T : List (Nat × List Nat)) (D : List Nat) (l : List (Nat × Bool)) (i x : Nat) (r : List PSeg) : Bool :=
  qOk ops T D [] l && planOk ops T (D ++ (l.map (·.1) ++ [i])) r && l.contains (x, false) && (l.map (·.1)).all (fun z => !D.contains z) && !D.contains i && match ops[i]?, ops[x]? with
    | some o, some ox => wOk2 o ox && (prd o).all (fun p => p != x && (D.contains p || (l.map (·.1)).contains p)) && decide (i ∉ l.map (·.1)) && (l.map (·.1)).all (fun z => z == x || (lkT T i).contains z)
    | _, _ => false
theorem drawW_D {ops : List Oper} {T : List (Nat × List Nat)} (hT : TOk ops T) {Q : Exit → St → Prop} {D : List Nat} (hDl : ∀ p ∈ D, p < ops.length) (l : List (Nat × Bool)) (i x : Nat) (r : List PSeg) (hp : drawWOkD ops T D l i x r = true)
    {st0 : St} {φ0 : Refs} {Ss0 : List (List Nat)} {a0 : Act} {wl : World} {listed0 : Array Bool} {fuel0 : Nat} (hs0 : listed0.size = ops.length) (hcl0 : Closed ops listed0) (hL0 : ∀ i, i < ops.length → (listed0.getD i false = true ↔ i ∈ D))
    (hR' : Rel N w0 B0 φ0 Ss0 st0 a0 wl) (hn : l.length + 1 + (planIdx r).length ≤ fuel0) (hr0 : runDW P N ops (ops.map (·.dst)) l i r st0 (Q .normal)) : wpAny P .any ops.toArray (QR N w0 B0 Q) fuel0 listed0 a0 wl := by
  unfold drawWOkD at hp; simp only [Bool.and_eq_true] at hp; obtain ⟨⟨⟨⟨⟨hq, hp3⟩, hxin⟩, hdisB⟩, hiDB⟩, hp4⟩ := hp
  have hdis : ∀ z ∈ l.map (·.1), z ∉ D := fun z hz hzD => by
    have := List.all_eq_true.1 hdisB z hz
    simp [hzD] at this
  have hiD : i ∉ D := fun h => by simp [h] at hiDB
  cases ho : ops[i]? with
  | none => rw [ho] at hp4; simp at hp4
  | some o =>
  cases hox : ops[x]? with
  | none => rw [ho, hox] at hp4; simp at hp4
  | some ox =>
  rw [ho, hox] at hp4; simp only [Bool.and_eq_true, decide_eq_true_eq, List.all_eq_true, Bool.or_eq_true, List.contains_iff_mem, bne_iff_ne, ne_eq, beq_iff_eq] at hp4 hxin; obtain ⟨⟨⟨hw, hpo⟩, hinl⟩, hanc⟩ := hp4
  obtain ⟨kx, hlx⟩ := List.getElem?_of_mem hxin; have hkx := (List.getElem?_eq_some_iff.1 hlx).1
  unfold runDW at hr0; rw [ho] at hr0; simp only at hr0
  have hfm : ∀ (m : List (Nat × Bool)), (∀ x ∈ m, ∃ o, ops[x.1]? = some o) → (m.filterMap fun x => (ops[x.1]?).map fun o => (x.2, o)).length = m.length ∧
      ∀ (k x : Nat) (c : Bool), m[k]? = some ((x, c) : Nat × Bool) → ∃ o, ops[x]? = some o ∧ (m.filterMap fun x => (ops[x.1]?).map fun o => (x.2, o))[k]? = some (c, o) := by
    intro m
    induction m with
    | nil => intro _; exact ⟨rfl, fun k x c h => by simp at h⟩
    | cons y m ih =>
      intro hm; obtain ⟨o, ho⟩ := hm y (by simp); obtain ⟨i1, i2⟩ := ih fun x hx => hm x (by simp [hx])
      have e : ((y :: m).filterMap fun x => (ops[x.1]?).map fun o => (x.2, o)) = (y.2, o) :: (m.filterMap fun x => (ops[x.1]?).map fun o => (x.2, o)) := by
        rw [List.filterMap_cons, ho]; rfl
      rw [e]; refine ⟨by simp [i1], fun k x c h => ?_⟩
      cases k with
      | zero => simp at h; subst h; exact ⟨o, ho, by simp⟩
      | succ k => simpa using i2 k x c (by simpa using h)
  have hex : ∀ x ∈ l, ∃ o, ops[x.1]? = some o := fun x hx => by
    obtain ⟨k, hk⟩ := List.getElem?_of_mem hx; obtain ⟨o, h1, _⟩ := qOk_spec hq k x.1 x.2 hk; exact ⟨o, h1⟩
  obtain ⟨f1, f2⟩ := hfm l hex; obtain ⟨its, i1, i2, i3⟩ := runQ_its hr0; have hitl : its.length = l.length := i1.trans f1
  have hits : ∀ (k : Nat) (x : Nat) (c : Bool), l[k]? = some ((x, c) : Nat × Bool) → ∃ it o, its[k]? = some it ∧ ops[x]? = some o ∧ it.o = o ∧ (c = false → it.bl = []) ∧
      Q1 P N (ops.map (·.dst)) c o (stM its (pre k) st0).env (stM its (pre k) st0).heap (fun v bl => v = it.v ∧ bl = it.bl) := fun k x c hk => by
    obtain ⟨o, h1, h2⟩ := f2 k x c hk; obtain ⟨it, h3, h4, h5, h6⟩ := i3 k c o h2; exact ⟨it, o, h3, h1, h4, h5, h6⟩
  have hno : ∀ (l : List It) (s : St), stM l (fun _ => false) s = s := fun l => by
    induction l with
    | nil => intro s; rfl
    | cons y l ih => intro s; simp only [stM]; exact ih s
  have hidxlt : ∀ p ∈ l.map (·.1), p < ops.length := fun p hp => by
    obtain ⟨y, hy, rfl⟩ := List.mem_map.1 hp; obtain ⟨o, ho⟩ := hex y hy; exact (List.getElem?_eq_some_iff.1 ho).1
  have hil := (List.getElem?_eq_some_iff.1 ho).1
  have hxl := (List.getElem?_eq_some_iff.1 hox).1
  have hxmem : x ∈ l.map (·.1) := List.mem_map.2 ⟨(x, false), List.mem_of_getElem? hlx, rfl⟩
  have hcov2 : ∀ z, z < ops.length → z ∈ D ∨ z ∈ l.map (·.1) ∨ z = i ∨ z ∈ planIdx r := fun z hz => by
    rcases plan_cover hp3 z hz with h | h
    · rcases List.mem_append.1 h with h | h
      · exact .inl h
      · rcases List.mem_append.1 h with h | h
        · exact .inr (.inl h)
        · simp at h; exact .inr (.inr (.inl h))
    · exact .inr (.inr (.inr h))
  have hpl : ∀ z ∈ planIdx r, ∀ y ∈ l.map (·.1) ++ [i], y ∈ lkT T z := fun z hz y hy => plan_later hp3 z hz y (List.mem_append_right _ hy)
  have hend : ∀ (st' : St) φ' Ss' a' w' (listed' : Array Bool) f', listed'.size = ops.length → Closed ops listed' → (∀ j, j < ops.length → (listed'.getD j false = true ↔ j ∈ D ++ (l.map (·.1) ++ [i]))) → Rel N w0 B0 φ' Ss' st' a' w' →
      runD P N ops (ops.map (·.dst)) r st' (Q .normal) → (planIdx r).length ≤ f' → wpAny P .any ops.toArray (QR N w0 B0 Q) f' listed' a' w' := fun st' φ' Ss' a' w' l2 f' h1 h2 h3 h4 h5 h6 =>
    plan_sound hT (K := Q .normal) (fun _ h => h) r (D ++ (l.map (·.1) ++ [i])) st' φ' Ss' a' w' l2 f' hp3 (fun p hp => by
      rcases List.mem_append.1 hp with h | h
      · exact hDl p h
      · rcases List.mem_append.1 h with h | h
        · exact hidxlt p h
        · simp at h; subst h; exact hil) h1 h2 h3 h4 h5 h6
  have hinj : ∀ (k k' : Nat) (x : Nat) (c c' : Bool), l[k]? = some ((x, c) : Nat × Bool) → l[k']? = some ((x, c') : Nat × Bool) → k = k' := by
    intro k k' x c c' h1 h2; rcases Nat.lt_trichotomy k k' with hlt | he | hlt
    · obtain ⟨o, _, _, _, h3⟩ := qOk_spec hq k' x c' h2
      have := h3 k x c hlt h1
      simp [pairOk] at this
    · exact he
    · obtain ⟨o, _, _, _, h3⟩ := qOk_spec hq k x c h1
      have := h3 k' x c' hlt h2
      simp [pairOk] at this
  obtain ⟨itx, ox', e1, e2, e3, e4, e5⟩ := hits kx x false hlx; rw [hox] at e2; cases e2; have hbx := e4 rfl
  refine seg_sound (D := D) (r := .b i :: r) (rest := 1 + (planIdx r).length) hT hDl hdis hq (fun z hz => ?_) (fun y hy => ?_) hitl hits
    (fun φ' Ss' a' w' listed' fuel' hs' hcl' hL' hR' hf' => ?_)
    l.length (List.range l.length) (fun _ => false) φ0 Ss0 a0 wl listed0 fuel0 (by simp) List.nodup_range (fun k hk => by simpa using hk) (fun k hk => by simp [hk]) hs0 hcl0 (fun i hi => (hL0 i hi).trans ⟨.inl, fun h => h.elim id fun ⟨_, _, _, h⟩ => by cases h⟩) (by rw [hno]; exact hR') (by omega)
  · rcases hcov2 z hz with h | h | h | h
    · exact .inl h
    · exact .inr (.inl h)
    · subst h; exact .inr (.inr (by simp [planIdx, PSeg.idx]))
    · exact .inr (.inr (by simp only [planIdx, List.map_cons, List.flatten_cons, PSeg.idx, List.mem_append]; exact .inr h))
  · have hy' : y = i ∨ y ∈ planIdx r := by simpa [planIdx, PSeg.idx] using hy
    rcases hy' with rfl | hy'
    rotate_left
    · exact .inl fun z hz => hpl y hy' z (List.mem_append_left _ hz)
    refine .inr fun fs φ' Ss' a' w' listed' f oy hoy hpy huy hay hs' hcl' hL' hpend hR' hf' => ?_; rw [ho] at hoy; cases hoy
    have hL2 : ∀ j, j < ops.length → (listed'.getD j false = true ↔ j ∈ D ∨ ∃ k c, l[k]? = some ((j, c) : Nat × Bool) ∧ fs k = true) := hL'
    have hidx : ∀ k, k < l.length → ∃ z c, l[k]? = some ((z, c) : Nat × Bool) := fun k hk => ⟨_, _, List.getElem?_eq_getElem hk⟩
    have hdone : ∀ k, k < l.length → k ≠ kx → fs k = true := fun k hk hne => by
      obtain ⟨z, c, hz⟩ := hidx k hk; have hzm : z ∈ l.map (·.1) := List.mem_map.2 ⟨(z, c), List.mem_of_getElem? hz, rfl⟩
      have hzx : z ≠ x := fun e => hne (hinj k kx z c false hz (e ▸ hlx))
      have hzT : z ∈ lkT T y := by
        rcases hanc z hzm with h | h
        · exact absurd h hzx
        · exact h
      obtain ⟨k', c', h1, h2⟩ := ((hL2 z (hidxlt z hzm)).1 (hay z hzT)).resolve_left (hdis z hzm); have := hinj k k' z c c' hz h1
      subst this; exact h2
    have hfx : fs kx = false := by
      obtain ⟨k, hk, hfk⟩ := hpend; by_cases h : k = kx
      · rw [← h]; exact hfk
      · rw [hdone k hk h] at hfk; cases hfk
    have hxun : listed'.getD x false = false := by
      cases h : listed'.getD x false with
      | false => rfl
      | true =>
        obtain ⟨k', c', h1, h2⟩ := ((hL2 x hxl).1 h).resolve_left (hdis x hxmem); have := hinj kx k' x false c' hlx h1
        subst this; rw [hfx] at h2; cases h2
    have hitk : ∀ (k' : Nat) (it' : It), its[k']? = some it' → ∃ x2 c2, l[k']? = some ((x2, c2) : Nat × Bool) ∧ ops[x2]? = some it'.o ∧ (c2 = false → it'.bl = []) := fun k' it' h => by
      have hlt' : k' < l.length := by have := (List.getElem?_eq_some_iff.1 h).1; omega
      obtain ⟨x2, c2, h2⟩ := hidx k' hlt'; obtain ⟨it2, o2, g1, g2, g3, g4, _⟩ := hits k' x2 c2 h2; rw [h] at g1; cases g1; exact ⟨x2, c2, h2, by rw [g3]; exact g2, g4⟩
    -- of two of them, one of which is x
    have hpairL : ∀ (k' : Nat) (it' : It), its[k']? = some it' → kx < k' → (∀ d, ox.dst = some d → it'.o.dst ≠ some d) ∧ (∀ t ∈ ox.looksAt ops.toArray, it'.o.dst ≠ some t) := fun k' it' h1 h2 => by
      obtain ⟨x2, c2, h3, h4, _⟩ := hitk k' it' h1; obtain ⟨o3, g1, _, _, g4⟩ := qOk_spec hq k' x2 c2 h3; rw [h4] at g1; cases g1; have hp := g4 kx x false h2 hlx
      simp only [pairOk, hox, Bool.not_false, Bool.true_and, Bool.and_eq_true, Bool.or_eq_true, List.contains_iff_mem] at hp; have hk'l : k' < l.length := (List.getElem?_eq_some_iff.1 h3).1
      have hnanc : x ∉ lkT T x2 := fun hz => by
        have h5 := hdone k' hk'l (by omega)
        have := hcl'.anc (hT x2 x hz) ((hL2 x2 (hidxlt x2 (List.mem_map.2 ⟨(x2, c2), List.mem_of_getElem? h3, rfl⟩))).2 (.inr ⟨k', c2, h3, h5⟩))
        rw [hxun] at this; cases this
      refine ⟨fun d hd hd' => ?_, fun t ht hd' => ?_⟩
      · have := hp.2.1
        rw [hd'] at this; simp [hd] at this
      · rcases hp.2.2 with h6 | ⟨_, h6⟩
        · exact hnanc h6
        · rw [hd'] at h6
          simp at h6; exact h6 ht
    have hpairE : ∀ (k' : Nat) (it' : It), its[k']? = some it' → k' < kx → ∀ d, ox.dst = some d → it'.o.dst ≠ some d := fun k' it' h1 h2 d hd hd' => by
      obtain ⟨x2, c2, h3, h4, _⟩ := hitk k' it' h1; obtain ⟨o3, g1, _, _, g4⟩ := qOk_spec hq kx x false hlx; rw [hox] at g1; cases g1; have hp := g4 k' x2 c2 h2 h3
      simp only [pairOk, h4, Bool.and_eq_true] at hp; have := hp.2.1
      rw [hd, hd'] at this; simp at this
    have hdsts : ∀ k' it', its[k']? = some it' → k' ≠ kx → ∀ d, itx.o.dst = some d → it'.o.dst ≠ some d := fun k' it' h1 h2 d hd => by
      rw [e3] at hd; rcases Nat.lt_or_gt_of_ne h2 with h3 | h3
      · exact hpairE k' it' h1 h3 d hd
      · exact (hpairL k' it' h1 h3).1 d hd
    have hsetall : stM its (setF fs kx) st0 = stM its (fun _ => true) st0 := stM_congr _ _ _ _ fun k hk => by
      unfold setF; split
      · rfl
      · rename_i hne
        exact hdone k (by omega) hne
    have hlkS : ∀ t, ox.dst ≠ some t → lk (stM its fs st0).env t = lk (stM its (fun _ => true) st0).env t := fun t ht => by
      refine stM_lk its _ _ st0 st0 (fun k it h1 h2 => ?_) rfl; by_cases hk : k = kx
      · subst hk
        rw [h1] at e1; cases e1; rw [e3] at h2; exact absurd h2 ht
      · exact hdone k (by have := (List.getElem?_eq_some_iff.1 h1).1; omega) hk
    have hheap : (stM its fs st0).heap = (stM its (fun _ => true) st0).heap := by
      rw [stM_heap, stM_heap]
      congr 1
      refine blM_eq its _ _ fun k it h1 => ?_; by_cases hk : k = kx
      · subst hk
        rw [h1] at e1; cases e1; exact .inl hbx
      · exact .inr (hdone k (by have := (List.getElem?_eq_some_iff.1 h1).1; omega) hk)
    have hJ2 := w_store hw i2 hlkS hheap
    have hds : ops.toArray.toList.map (·.dst) = ops.map (·.dst) := by simp
    refine stepA_sound (ops := ops.toArray) (o := o) (by simpa using ho) (fun st' φ2 Ss2 a2 w2 hJ3 hR2 => ?_) hR' (by rw [hds]; exact hJ2); obtain ⟨h9, rfl, hJ4⟩ := hJ3; obtain ⟨f', rfl⟩ : ∃ f', f = f' + 1 := ⟨f - 1, by omega⟩
    have hlkX : ∀ t ∈ ox.looksAt #[], lk (stM its fs st0).env t = lk (stM its (pre kx) st0).env t := fun t ht => by
      rw [w_look hw ops.toArray] at ht; refine stM_lk its _ _ st0 st0 (fun k it h1 h2 => ?_) rfl; rcases Nat.lt_trichotomy k kx with h3 | h3 | h3
      · rw [hdone k (by omega) (by omega)]; simp [pre, h3]
      · subst h3; rw [hfx]; simp [pre]
      · exact absurd h2 ((hpairL k it h1 h3).2 t ht)
    have hRx : runA P N (ops.map (·.dst)) [ox] ⟨(stM its fs st0).env, h9⟩ (fun s => s = ⟨putE (stM its fs st0).env ox.dst itx.v, h9⟩) := w_x hw e5 hlkX rfl
    have hlm : ∀ z, z ∈ l.map (·.1) ↔ z ∈ (l.map (·.1)).erase x ∨ z = x := fun z => by
      by_cases h : z = x
      · subst h; simp [hxmem]
      · rw [List.mem_erase_of_ne h]; simp [h]
    have hnd : ∀ j, j ∈ (l.map (·.1)).erase x → j ≠ x := fun j hj e => by
      subst e
      have hn2 : (l.map (·.1)).Nodup := by
        unfold List.Nodup; rw [List.pairwise_iff_getElem]; intro a b ha hb hab e; simp only [List.getElem_map] at e; have ha' : a < l.length := by simpa using ha
        have hb' : b < l.length := by simpa using hb
        have := hinj a b l[a].1 l[a].2 l[b].2 (List.getElem?_eq_getElem ha') (by rw [List.getElem?_eq_getElem hb', e])
        omega
      exact (hn2.mem_erase_iff.1 hj).1 rfl
    refine b_step hT (D := D ++ ((l.map (·.1)).erase x ++ [y])) (L := planIdx r) hox (fun h => ?_) (fun p hp => ?_) (fun p hp => ?_) (fun z hz => ?_) (fun z hz => hpl z hz x (List.mem_append_left _ hxmem)) (by simpa using hs') (hcl'.set hs' ho hpy) (fun j hj => ?_) hR2 hRx (fun st3 φ3 Ss3 a3 w3 l3 h1 h2 h3 h4 h5 => ?_)
    · rcases List.mem_append.1 h with h | h
      · exact hdis x hxmem h
      · rcases List.mem_append.1 h with h | h
        · exact hnd x h rfl
        · simp at h; subst h; exact hinl hxmem
    · obtain ⟨o2, g1, g2, _, _⟩ := qOk_spec hq kx x false hlx
      rw [hox] at g1; cases g1; rcases g2 p hp with h | h | ⟨k', c', h1, h2⟩
      · exact List.mem_append_left _ h
      · simp at h
      · refine List.mem_append_right _ (List.mem_append_left _ ?_)
        have hm2 : p ∈ l.map (·.1) := List.mem_map.2 ⟨(p, c'), List.mem_of_getElem? h2, rfl⟩
        rcases (hlm p).1 hm2 with h | h
        · exact h
        · subst h
          have := hinj k' kx p c' false h2 hlx
          omega
    · rcases List.mem_append.1 hp with h | h
      · exact hDl p h
      · rcases List.mem_append.1 h with h | h
        · exact hidxlt p (List.mem_of_mem_erase h)
        · simp at h; subst h; exact hil
    · rcases hcov2 z hz with h | h | h | h
      · exact .inl (List.mem_append_left _ h)
      · rcases (hlm z).1 h with h | h
        · exact .inl (List.mem_append_right _ (List.mem_append_left _ h))
        · exact .inr (.inl h)
      · subst h; exact .inl (by simp)
      · exact .inr (.inr h)
    · rw [listed_set hs' hil]
      split
      · rename_i e; subst e; simp
      · rename_i e
        rw [hL2 j hj]; simp only [List.mem_append, List.mem_singleton]; constructor
        · rintro (h0 | ⟨k, c, h1, h2⟩)
          · exact .inl h0
          have hm2 : j ∈ l.map (·.1) := List.mem_map.2 ⟨(j, c), List.mem_of_getElem? h1, rfl⟩
          rcases (hlm j).1 hm2 with h | h
          · exact .inr (.inl h)
          · subst h
            have := hinj k kx j c false h1 hlx
            subst this; rw [hfx] at h2; cases h2
        · rintro (h0 | h | h)
          · exact .inl h0
          · right
            obtain ⟨⟨j', c⟩, hm, rfl⟩ := List.mem_map.1 (List.mem_of_mem_erase h); obtain ⟨k, hk⟩ := List.getElem?_of_mem hm; refine ⟨k, c, hk, hdone k (List.getElem?_eq_some_iff.1 hk).1 fun e => ?_⟩; subst e; rw [hlx] at hk; cases hk
            exact hnd x h rfl
          · exact absurd h e
    · subst h5
      refine hend ⟨(stM its (fun _ => true) st0).env, h9⟩ φ3 Ss3 a3 w3 l3 f' h1 h2 (fun j hj => ?_) (h4.lkc (fun t => ?_) rfl) hJ4 (by omega)
      · rw [h3 j hj]
        simp only [List.mem_append, List.mem_singleton]; rw [hlm j]; grind
      · have := stM_put (t := t) its fs st0 e1 hfx hdsts
        rw [hsetall, e3] at this; exact this.symm
  · obtain ⟨f', rfl⟩ : ∃ f', fuel' = f' + 1 := ⟨fuel' - 1, by omega⟩
    refine b_step hT (D := D ++ l.map (·.1)) (L := planIdx r) ho (fun h => (List.mem_append.1 h).elim hiD hinl) (fun p hp => List.mem_append.2 (hpo p hp).2) (fun p hp => (List.mem_append.1 hp).elim (hDl p) (hidxlt p)) (fun z hz => ?_) (fun z hz => hpl z hz i (List.mem_append_right _ (by simp))) hs' hcl' (fun j hj => by rw [hL' j hj]) hR' i2 (fun st3 φ3 Ss3 a3 w3 l3 h1 h2 h3 h4 h5 => hend st3 φ3 Ss3 a3 w3 l3 f' h1 h2 (fun j hj => by rw [h3 j hj, List.append_assoc]) h4 h5 (by omega))
    rcases hcov2 z hz with h | h | h | h
    · exact .inl (List.mem_append_left _ h)
    · exact .inl (List.mem_append_right _ h)
    · exact .inr (.inl h)
    · exact .inr (.inr h)
def ev' (j : Nat) (o : Oper) : Oper := { o with after := o.after.push ⟨j, .data⟩ }
def addE (ops : List Oper) (i j : Nat) : List Oper := ops.mapIdx fun k o => if k = i then HK.ev' j o else o
variable {ops : List Oper} {i j : Nat} {ds : List (Option Tmp)}
theorem addE_get (k : Nat) : (addE ops i j)[k]? = (ops[k]?).map fun o => if k = i then ev' j o else o := by simp [addE, List.getElem?_mapIdx]
@[simp] theorem addE_len : (addE ops i j).length = ops.length := by simp [addE]
theorem addE_dst : (addE ops i j).map (·.dst) = ops.map (·.dst) := by
  refine List.ext_getElem? fun k => ?_; rw [List.getElem?_map, List.getElem?_map, addE_get]
  cases ops[k]? with
  | none => rfl
  | some o =>
    simp only [Option.map_some]; split <;> rfl
theorem prd_ev {o : Oper} {p : Nat} : p ∈ prd (ev' j o) ↔ p ∈ prd o ∨ p = j := by
  unfold prd ev'; simp only [Array.toList_push, List.filter_append, List.map_append, List.mem_append]; refine or_congr Iff.rfl ?_; simp only [List.mem_map, List.mem_filter, List.mem_singleton]
  exact ⟨fun ⟨a, ⟨h1, _⟩, h2⟩ => by rw [← h2, h1], fun h => ⟨_, ⟨rfl, rfl⟩, h.symm⟩⟩
theorem yielded_add (t : Array Value) : yielded (addE ops i j).toArray t = yielded ops.toArray t := by
  funext k
  unfold yielded; simp only [List.getElem?_toArray, addE_get]
  cases ops[k]? with
  | none => rfl
  | some o =>
    have hd : (if k = i then ev' j o else o).dst = o.dst := by split <;> rfl
    simp only [Option.map_some, Option.bind_some, hd]
theorem wpOp_add {Q : Exit → Act → World → Prop} {k : Nat} {K : Act → World → Prop} {a : Act} {w : World} : wpOp P (addE ops i j).toArray Q k K a w ↔ wpOp P ops.toArray Q k K a w := by
  unfold wpOp; rw [yielded_add]; simp only [List.getElem?_toArray, addE_get]
  cases ops[k]? with
  | none => exact Iff.rfl
  | some o =>
    simp only [Option.map_some]; split <;> exact Iff.rfl
theorem ready_add {listed : Array Bool} {x : Nat} (hs : listed.size = ops.length) (hj : listed.getD j false = true) : x ∈ Region.ready .any (addE ops i j).toArray listed ↔ x ∈ Region.ready .any ops.toArray listed := by
  rw [ready_iff (by simpa using hs), ready_iff hs]; refine and_congr Iff.rfl ?_; rw [addE_get]
  cases ops[x]? with
  | none => simp
  | some o =>
    simp only [Option.map_some, Option.some.injEq, exists_eq_left']; split
    · simp only [prd_ev]
      exact ⟨fun h p hp => h p (.inl hp), fun h p hp => hp.elim (h p) fun e => e ▸ hj⟩
    · exact Iff.rfl
theorem wpAny_add {Q : Exit → Act → World → Prop} : ∀ (f : Nat) (listed : Array Bool) (a : Act) (w : World), listed.size = ops.length → listed.getD j false = true → wpAny P .any (addE ops i j).toArray Q f listed a w → wpAny P .any ops.toArray Q f listed a w
  | 0, listed, a, w, hs, hj, h => by
    refine ⟨List.eq_nil_iff_forall_not_mem.2 fun x hx => ?_, h.2⟩; have := (ready_add (i := i) hs hj).2 hx
    rw [h.1] at this; cases this
  | f + 1, listed, a, w, hs, hj, h => by
    refine ⟨fun h0 => h.1 (List.eq_nil_iff_forall_not_mem.2 fun x hx => ?_), fun x hx => ?_⟩
    · have := (ready_add (i := i) hs hj).1 hx
      rw [h0] at this; cases this
    · have hxl : x < ops.length := by
        obtain ⟨_, o, ho, _⟩ := (ready_iff hs).1 hx; exact (List.getElem?_eq_some_iff.1 ho).1
      refine wpOp_mono (fun a w => wpAny_add f _ a w (by simpa using hs) ?_) (wpOp_add.1 (h.2 x ((ready_add hs hj).2 hx))); rw [listed_set hs hxl]; split
      · rfl
      · exact hj
theorem runQ_add {K : St → Prop} : ∀ (q : List (Nat × Bool)) (st : St), runQ P N ds (q.filterMap fun x => ((addE ops i j)[x.1]?).map fun o => (x.2, o)) st K ↔ runQ P N ds (q.filterMap fun x => (ops[x.1]?).map fun o => (x.2, o)) st K
  | [], st => Iff.rfl
  | x :: q, st => by
    rw [List.filterMap_cons, List.filterMap_cons, addE_get]
    cases ops[x.1]? with
    | none => exact runQ_add q st
    | some o =>
      simp only [Option.map_some]
      have h : ∀ (v : AV) (bl : List Blk), runQ P N ds (q.filterMap fun x => ((addE ops i j)[x.1]?).map fun o => (x.2, o)) ⟨putE st.env o.dst v, st.heap ++ bl.map some⟩ K = runQ P N ds (q.filterMap fun x => (ops[x.1]?).map fun o => (x.2, o)) ⟨putE st.env o.dst v, st.heap ++ bl.map some⟩ K := fun v bl => propext (runQ_add q _)
      split
      · show Q1 P N ds x.2 o st.env st.heap (fun (v : AV) (bl : List Blk) => runQ P N ds (q.filterMap fun x => ((addE ops i j)[x.1]?).map fun o => (x.2, o)) ⟨putE st.env o.dst v, st.heap ++ bl.map some⟩ K) ↔ _
        simp only [h]; exact Iff.rfl
      · show Q1 P N ds x.2 o st.env st.heap (fun (v : AV) (bl : List Blk) => runQ P N ds (q.filterMap fun x => ((addE ops i j)[x.1]?).map fun o => (x.2, o)) ⟨putE st.env o.dst v, st.heap ++ bl.map some⟩ K) ↔ _
        simp only [h]; exact Iff.rfl
theorem runA_add {k : Nat} {o o' : Oper} (h : (ops[k]?).map (fun o => if k = i then ev' j o else o) = some o') (ho : ops[k]? = some o) (st : St) (K : St → Prop) : runA P N ds [o'] st K ↔ runA P N ds [o] st K := by
  rw [ho] at h; simp only [Option.map_some, Option.some.injEq] at h; subst h; split <;> exact Iff.rfl
theorem runD_add : ∀ (plan : List PSeg) (st : St) (K : St → Prop), runD P N (addE ops i j) ds plan st K ↔ runD P N ops ds plan st K
  | [], st, K => Iff.rfl
  | .b k :: r, st, K => by
    unfold runD; have h : (fun s => runD P N (addE ops i j) ds r s K) = fun s => runD P N ops ds r s K := funext fun s => propext (runD_add r s K)
    rw [h]
    cases ho : ops[k]? with
    | none => rw [addE_get, ho]; exact Iff.rfl
    | some o =>
      cases ho' : (addE ops i j)[k]? with
      | none => rw [addE_get, ho] at ho'; simp at ho'
      | some o' => exact runA_add (by rw [← addE_get]; exact ho') ho st _
  | .w l k x :: r, st, K => by
    unfold runD; have h : (fun s => runD P N (addE ops i j) ds r s K) = fun s => runD P N ops ds r s K := funext fun s => propext (runD_add r s K)
    rw [h]
    cases ho : ops[k]? with
    | none => rw [addE_get, ho]; exact Iff.rfl
    | some o =>
      cases ho' : (addE ops i j)[k]? with
      | none => rw [addE_get, ho] at ho'; simp at ho'
      | some o' =>
        have h2 : (fun s => runA P N ds [o'] s fun s => runD P N ops ds r s K) = fun s => runA P N ds [o] s fun s => runD P N ops ds r s K := funext fun s => propext (runA_add (by rw [← addE_get]; exact ho') ho s _)
        simp only [h2]
        exact runQ_add _ st
  | .q l :: r, st, K => by
    unfold runD; have h : (fun s => runD P N (addE ops i j) ds r s K) = fun s => runD P N ops ds r s K := funext fun s => propext (runD_add r s K)
    rw [h]; exact runQ_add _ st
theorem runDW_add {l : List (Nat × Bool)} {k : Nat} {r : List PSeg} {st : St} {K : St → Prop} (hh : runDW P N ops ds l k r st K) : runDW P N (addE ops i j) ds l k r st K := by
  unfold runDW at hh ⊢; have h : (fun s => runD P N (addE ops i j) ds r s K) = fun s => runD P N ops ds r s K := funext fun s => propext (runD_add r s K)
  rw [h]
  cases ho : ops[k]? with
  | none => rw [ho] at hh; exact hh.elim
  | some o =>
    rw [ho] at hh
    cases ho' : (addE ops i j)[k]? with
    | none => rw [addE_get, ho] at ho'; simp at ho'
    | some o' =>
      have h2 : (fun s => runA P N ds [o'] s fun s => runD P N ops ds r s K) = fun s => runA P N ds [o] s fun s => runD P N ops ds r s K := funext fun s => propext (runA_add (by rw [← addE_get]; exact ho') ho s _)
      simp only [h2]; exact (runQ_add _ st).2 hh
theorem stM_none : ∀ (l : List It) (g : Nat → Bool) (s : St), (∀ j, g j = false) → stM l g s = s := fun l => by
  induction l with
  | nil => intro g s _; rfl
  | cons y l ih => intro g s hg; simp only [stM]; rw [hg 0]; exact ih _ s fun j => hg (j + 1)
theorem runQ_its2 {K B : St → Prop} {l2 : List (Bool × Oper)} : ∀ {l : List (Bool × Oper)} {st : St}, runQ P N ds l st (fun s => runQ P N ds l2 s K ∧ B s) → ∃ its : List It, its.length = (l ++ l2).length ∧ K (stM its (fun _ => true) st) ∧ B (stM its (pre l.length) st) ∧
    ∀ k c o, (l ++ l2)[k]? = some (c, o) → ∃ it, its[k]? = some it ∧ it.o = o ∧ (c = false → it.bl = []) ∧ Q1 P N ds c o (stM its (pre k) st).env (stM its (pre k) st).heap (fun v bl => v = it.v ∧ bl = it.bl)
  | [], st, h => by
    obtain ⟨its, e1, e2, e3⟩ := runQ_its h.1
    exact ⟨its, e1, e2, by rw [stM_none _ _ _ fun j => by simp [pre]]; exact h.2, e3⟩
  | (c, o) :: l, st, h => by
    obtain ⟨v, bl, h1, h2, h3⟩ := Q1.ex h; obtain ⟨its, e1, e2, eB, e3⟩ := runQ_its2 h2; have e4 : ∀ n, (fun j => pre (n + 1) (j + 1)) = pre n := fun n => by funext j; simp [pre]
    have e5 : ∀ n, pre (n + 1) 0 = true := fun n => by simp [pre]
    refine ⟨⟨o, v, bl⟩ :: its, by simp [e1], by simpa [stM, It.app] using e2, ?_, fun k c' o' hk => ?_⟩
    · simp only [List.length_cons, stM, e4, e5, if_true]
      exact eB
    · cases k with
      | zero =>
        simp at hk; obtain ⟨rfl, rfl⟩ := hk; refine ⟨_, by simp; rfl, rfl, h3, ?_⟩; rw [stM_none _ (pre 0) _ fun j => by simp [pre]]
        exact h1
      | succ k =>
        obtain ⟨it, k1, k2, k3, k4⟩ := e3 k c' o' (by simpa using hk); refine ⟨it, by simpa using k1, k2, k3, ?_⟩; simp only [stM, e4, e5, if_true]; exact k4
def drawAOk (ops : List Oper) (S1 : List (Nat × Bool)) (y c : Nat) (lA lB : List (Nat × Bool)) (i x : Nat) (r : List PSeg) : Bool :=
  let s := S1.map (·.1)
  let T := ancT ops (s ++ y :: (lA.map (·.1) ++ i :: planIdx r)) []
  let T1 := ancT (addE ops c y) (s ++ y :: (lA.map (·.1) ++ i :: planIdx r)) []
  let T2 := ancT (addE ops y c) (s ++ (lB.map (·.1) ++ i :: planIdx r)) []
  qOk ops T [] [] (S1 ++ [(y, true)]) && drawWOkD (addE ops c y) T1 (s ++ [y]) lA i x r && drawWOkD (addE ops y c) T2 s lB i x r &&
    s.all (fun z => (lkT T c).contains z && z != c) && (c != y) && (List.range ops.length).all (fun z => s.contains z || z == y || z == c || (lkT T z).contains c) &&
    (match ops[y]? with | some _ => true | none => false) && (match ops[c]? with | some _ => true | none => false) && decide (lB.length = lA.length + 1) && decide (S1.length + 1 + lA.length + 1 + (planIdx r).length = ops.length)
theorem SW.drawA {id : Nat} {ops : List Oper} {Q : Exit → St → Prop} {st0 : St} (hm : P.follows .mixedOrders = true) (S1 : List (Nat × Bool)) (y c : Nat) (lA lB : List (Nat × Bool)) (i x : Nat) (r : List PSeg) (hp : drawAOk ops S1 y c lA lB i x r = true)
    (hr : runQ P N (ops.map (·.dst)) (S1.filterMap fun x => (ops[x.1]?).map fun o => (x.2, o)) st0 fun s => runQ P N (ops.map (·.dst)) ([(y, true)].filterMap fun x => (ops[x.1]?).map fun o => (x.2, o)) s (fun s' => runDW P N ops (ops.map (·.dst)) lA i r s' (Q .normal)) ∧ runDW P N ops (ops.map (·.dst)) lB i r s (Q .normal)) :
    SW P N (.region id ops.toArray true) Q st0 := fun w0 B0 φ0 Ss0 a0 wl hR0 => by
  refine wp_region_any hm ?_; unfold drawAOk at hp; simp only [] at hp
  generalize hTT : ancT ops (S1.map (·.1) ++ y :: (lA.map (·.1) ++ i :: planIdx r)) [] = T at *
  generalize hTT1 : ancT (addE ops c y) (S1.map (·.1) ++ y :: (lA.map (·.1) ++ i :: planIdx r)) [] = T1 at *
  generalize hTT2 : ancT (addE ops y c) (S1.map (·.1) ++ (lB.map (·.1) ++ i :: planIdx r)) [] = T2 at *
  have hT : TOk ops T := by rw [← hTT]; exact ancT_ok _ fun x z hz => by simp [lkT] at hz
  have hT1 : TOk (addE ops c y) T1 := by rw [← hTT1]; exact ancT_ok _ fun x z hz => by simp [lkT] at hz
  have hT2 : TOk (addE ops y c) T2 := by rw [← hTT2]; exact ancT_ok _ fun x z hz => by simp [lkT] at hz
  have hR' : Rel N w0 B0 φ0 Ss0 st0 a0 { wl with drawn := wl.drawn + 1 } := hR0.drew _
  have hrep : ∀ i, (Array.replicate ops.length false).getD i false = false := fun i => by
    by_cases hi : i < ops.length
    · simp [hi]
    · simp [hi]
  rw [show ops.toArray.size = ops.length by simp]; simp only [Bool.and_eq_true, decide_eq_true_eq, List.all_eq_true, bne_iff_ne, ne_eq, List.contains_iff_mem, Bool.or_eq_true, beq_iff_eq, List.mem_range] at hp
  obtain ⟨⟨⟨⟨⟨⟨⟨⟨⟨hq, hA⟩, hB⟩, hanc⟩, hcy⟩, hcov⟩, hy0⟩, hc0⟩, hlen⟩, hn⟩ := hp
  obtain ⟨oy, hoy⟩ : ∃ oy, ops[y]? = some oy := by
    cases h : ops[y]? with
    | none => rw [h] at hy0; cases hy0
    | some o => exact ⟨o, rfl⟩
  obtain ⟨oc, hoc⟩ : ∃ oc, ops[c]? = some oc := by
    cases h : ops[c]? with
    | none => rw [h] at hc0; cases hc0
    | some o => exact ⟨o, rfl⟩
  have hyl := (List.getElem?_eq_some_iff.1 hoy).1
  have hcl := (List.getElem?_eq_some_iff.1 hoc).1
  have hfm : ∀ (m : List (Nat × Bool)), (∀ x ∈ m, ∃ o, ops[x.1]? = some o) → (m.filterMap fun x => (ops[x.1]?).map fun o => (x.2, o)).length = m.length ∧
      ∀ (k x : Nat) (c : Bool), m[k]? = some ((x, c) : Nat × Bool) → ∃ o, ops[x]? = some o ∧ (m.filterMap fun x => (ops[x.1]?).map fun o => (x.2, o))[k]? = some (c, o) := by
    intro m
    induction m with
    | nil => intro _; exact ⟨rfl, fun k x c h => by simp at h⟩
    | cons y m ih =>
      intro hm; obtain ⟨o, ho⟩ := hm y (by simp); obtain ⟨i1, i2⟩ := ih fun x hx => hm x (by simp [hx])
      have e : ((y :: m).filterMap fun x => (ops[x.1]?).map fun o => (x.2, o)) = (y.2, o) :: (m.filterMap fun x => (ops[x.1]?).map fun o => (x.2, o)) := by
        rw [List.filterMap_cons, ho]; rfl
      rw [e]; refine ⟨by simp [i1], fun k x c h => ?_⟩
      cases k with
      | zero => simp at h; subst h; exact ⟨o, ho, by simp⟩
      | succ k => simpa using i2 k x c (by simpa using h)
  generalize hl : S1 ++ [(y, true)] = l at *
  have hex : ∀ x ∈ l, ∃ o, ops[x.1]? = some o := fun x hx => by
    obtain ⟨k, hk⟩ := List.getElem?_of_mem hx; obtain ⟨o, h1, _⟩ := qOk_spec hq k x.1 x.2 hk; exact ⟨o, h1⟩
  obtain ⟨f1, f2⟩ := hfm l hex; have hfS := (hfm S1 fun x hx => hex x (by rw [← hl]; simp [hx])).1
  have hsplit : (S1.filterMap fun x => (ops[x.1]?).map fun o => (x.2, o)) ++ ([(y, true)].filterMap fun x => (ops[x.1]?).map fun o => (x.2, o)) = l.filterMap fun x => (ops[x.1]?).map fun o => (x.2, o) := by rw [← hl, List.filterMap_append]
  obtain ⟨its, i1, i2, iB, i3⟩ := runQ_its2 hr; rw [hsplit] at i1 i3; rw [hfS] at iB; have hitl : its.length = l.length := i1.trans f1
  have hlS : l.length = S1.length + 1 := by rw [← hl]; simp
  have hmap : l.map (·.1) = S1.map (·.1) ++ [y] := by rw [← hl]; simp
  have hits : ∀ (k : Nat) (x : Nat) (c : Bool), l[k]? = some ((x, c) : Nat × Bool) → ∃ it o, its[k]? = some it ∧ ops[x]? = some o ∧ it.o = o ∧ (c = false → it.bl = []) ∧
      Q1 P N (ops.map (·.dst)) c o (stM its (pre k) st0).env (stM its (pre k) st0).heap (fun v bl => v = it.v ∧ bl = it.bl) := fun k x c hk => by
    obtain ⟨o, h1, h2⟩ := f2 k x c hk; obtain ⟨it, h3, h4, h5, h6⟩ := i3 k c o h2; exact ⟨it, o, h3, h1, h4, h5, h6⟩
  have hSlt : ∀ z ∈ S1.map (·.1), z < ops.length := fun z hz => by
    obtain ⟨p, hp, rfl⟩ := List.mem_map.1 hz; obtain ⟨o, ho⟩ := hex p (by rw [← hl]; simp [hp]); exact (List.getElem?_eq_some_iff.1 ho).1
  have hcS : c ∉ S1.map (·.1) := fun h => (hanc c h).2 rfl
  have hcl'0 : c ∉ l.map (·.1) := by
    rw [hmap]; intro h; rcases List.mem_append.1 h with h | h
    · exact hcS h
    · simp at h; exact hcy h
  obtain ⟨rr, hrr0⟩ : ∃ rr : List PSeg, rr = [.q (((List.range ops.length).filter fun z => !(l.map (·.1)).contains z).map fun z => (z, false))] := ⟨_, rfl⟩
  have hrr : ∀ z, z ∈ planIdx rr ↔ z < ops.length ∧ z ∉ l.map (·.1) := fun z => by
    rw [hrr0]; simp [planIdx, PSeg.idx]
  have hcl1 : ∀ {listed : Array Bool} (u v : Nat), listed.size = ops.length → listed.getD u false = false → Closed ops listed → Closed (addE ops u v) listed := fun {listed} u v hs hu hC z o hz ho p hp => by
    rw [addE_get] at ho
    cases ho2 : ops[z]? with
    | none => rw [ho2] at ho; cases ho
    | some o2 =>
      rw [ho2] at ho; simp only [Option.map_some, Option.some.injEq] at ho; by_cases hzu : z = u
      · subst hzu; rw [hu] at hz; cases hz
      · rw [if_neg hzu] at ho
        subst ho; exact hC z o2 hz ho2 p hp
  refine seg_sound (D := []) (r := rr) (rest := lA.length + 1 + (planIdx r).length) hT (by simp) (by simp) hq (fun z hz => by
    by_cases h : z ∈ l.map (·.1)
    · exact .inr (.inl h)
    · exact .inr (.inr ((hrr z).2 ⟨hz, h⟩))) (fun z hz => ?_) hitl hits
    (fun φ' Ss' a' w' listed' fuel' hs' hcl' hL' hR' hf' => ?_)
    l.length (List.range l.length) (fun _ => false) φ0 Ss0 a0 _ _ _ (by simp) List.nodup_range (fun k hk => by simpa using hk) (fun k hk => by simp [hk]) (by simp) (fun y o hy => by rw [hrep] at hy; cases hy) (fun i hi => by rw [hrep]; simp) (by rw [stM_none _ _ _ fun _ => rfl]; exact hR') (by omega)
  · refine .inr fun fs φ' Ss' a' w' listed' f oz hoz hpz huz haz hs' hC' hL' hpend hR2 hf' => ?_
    have hzl : z < ops.length := (List.getElem?_eq_some_iff.1 hoz).1
    have hL2 : ∀ k, k < ops.length → (listed'.getD k false = true ↔ ∃ k' c', l[k']? = some ((k, c') : Nat × Bool) ∧ fs k' = true) := fun k hk => by rw [hL' k hk]; simp
    have hcun : listed'.getD c false = false := by
      cases h : listed'.getD c false with
      | false => rfl
      | true =>
        obtain ⟨k', c', h1, _⟩ := (hL2 c hcl).1 h; exact absurd (List.mem_map.2 ⟨(c, c'), List.mem_of_getElem? h1, rfl⟩) hcl'0
    have hinj : ∀ (k k' : Nat) (x : Nat) (c c' : Bool), l[k]? = some ((x, c) : Nat × Bool) → l[k']? = some ((x, c') : Nat × Bool) → k = k' := by
      intro k k' x c c' h1 h2; rcases Nat.lt_trichotomy k k' with hlt | he | hlt
      · obtain ⟨o, _, _, _, h3⟩ := qOk_spec hq k' x c' h2
        have := h3 k x c hlt h1
        simp [pairOk] at this
      · exact he
      · obtain ⟨o, _, _, _, h3⟩ := qOk_spec hq k x c h1
        have := h3 k' x c' hlt h2
        simp [pairOk] at this
    have hlk : ∀ k, k < S1.length → l[k]? = S1[k]? := fun k hk => by rw [← hl, List.getElem?_append_left hk]
    have hly : l[S1.length]? = some (y, true) := by rw [← hl]; simp
    have hznl := ((hrr z).1 hz).2
    rcases hcov z hzl with ((h | h) | h) | h
    · exact absurd (by rw [hmap]; exact List.mem_append_left _ h) hznl
    · exact absurd (by rw [hmap, h]; simp) hznl
    rotate_left
    · have := haz c h
      rw [hcun] at this; cases this
    subst h; rw [hoc] at hoz; cases hoz
    have hdoneS : ∀ k, k < S1.length → fs k = true := fun k hk => by
      have hx : S1[k]? = some S1[k] := List.getElem?_eq_getElem hk
      have hm : S1[k].1 ∈ S1.map (·.1) := List.mem_map.2 ⟨S1[k], List.getElem_mem hk, rfl⟩
      obtain ⟨k', c', h1, h2⟩ := (hL2 _ (hSlt _ hm)).1 (haz _ (hanc _ hm).1); have := hinj k k' S1[k].1 S1[k].2 c' (by rw [hlk k hk]; exact hx) h1
      subst this; exact h2
    have hfy : fs S1.length = false := by
      obtain ⟨k, hk, hfk⟩ := hpend; by_cases h : k = S1.length
      · rw [← h]; exact hfk
      · rw [hdoneS k (by omega)] at hfk; cases hfk
    have hyun : listed'.getD y false = false := by
      cases h : listed'.getD y false with
      | false => rfl
      | true =>
        obtain ⟨k', c', h1, h2⟩ := (hL2 y hyl).1 h; have := hinj S1.length k' y true c' hly h1
        subst this; rw [hfy] at h2; cases h2
    have hst : stM its fs st0 = stM its (pre S1.length) st0 := stM_congr _ _ _ _ fun k hk => by
      by_cases h : k < S1.length
      · rw [hdoneS k h]; simp [pre, h]
      · have : k = S1.length := by omega
        subst this; rw [hfy]; simp [pre]
    rw [hst] at hR2
    have hL3 : ∀ k, k < (addE ops y z).length → (listed'.getD k false = true ↔ k ∈ S1.map (·.1)) := fun k hk => by
      rw [hL2 k (by simpa using hk)]; constructor
      · rintro ⟨k', c', h1, h2⟩
        have hk' : k' < S1.length := by
          have h3 := (List.getElem?_eq_some_iff.1 h1).1
          by_cases h : k' = S1.length
          · subst h; rw [hfy] at h2; cases h2
          · omega
        rw [hlk k' hk'] at h1; exact List.mem_map.2 ⟨(k, c'), List.mem_of_getElem? h1, rfl⟩
      · intro h
        obtain ⟨⟨k2, c'⟩, hm, rfl⟩ := List.mem_map.1 h; obtain ⟨k', hk'⟩ := List.getElem?_of_mem hm; have hlt := (List.getElem?_eq_some_iff.1 hk').1
        exact ⟨k', c', by rw [hlk k' hlt]; exact hk', hdoneS k' hlt⟩
    have hW := drawW_D (Q := Q) (w0 := w0) (B0 := B0) hT2 (D := S1.map (·.1)) (fun p hp => by simpa using hSlt p hp) lB i x r hB (st0 := stM its (pre S1.length) st0) (listed0 := listed') (fuel0 := f + 1) (by simpa using hs') (hcl1 y z hs' hyun hC') hL3 hR2 (by omega) (by rw [addE_dst]; exact runDW_add iB)
    have hzr : z ∈ Region.ready .any (addE ops y z).toArray listed' := (ready_iff (by simpa using hs')).2 ⟨huz, oc, by rw [addE_get, hoc]; simp [hcy], hpz⟩
    refine wpOp_mono (fun a w hh => wpAny_add f _ a w (by simpa using hs') ?_ hh) (wpOp_add.1 (hW.2 z hzr)); rw [listed_set hs' hzl, if_pos rfl]
  · have hyt : listed'.getD y false = true := (hL' y hyl).2 (by rw [hmap]; simp)
    have hct : listed'.getD c false = false := by
      cases h : listed'.getD c false with
      | false => rfl
      | true => exact absurd (by simpa using (hL' c hcl).1 h) hcl'0
    exact wpAny_add fuel' listed' a' w' hs' hyt (drawW_D (Q := Q) (w0 := w0) (B0 := B0) hT1 (D := S1.map (·.1) ++ [y]) (fun p hp => by
      rcases List.mem_append.1 hp with h | h
      · simpa using hSlt p h
      · simp at h; subst h; simpa using hyl) lA i x r hA (st0 := stM its (fun _ => true) st0) (listed0 := listed') (fuel0 := fuel') (by simpa using hs') (hcl1 c y hs' hct hcl') (fun k hk => by rw [hL' k (by simpa using hk), hmap]; simp) hR' hf' (by rw [addE_dst]; exact runDW_add i2))
theorem SW.drawAK {id : Nat} {l : List Oper} {y0 : Code} {Q : Exit → St → Prop} {st : St} (hm : P.follows .mixedOrders = true) (S1 : List (Nat × Bool)) (y c : Nat) (lA lB : List (Nat × Bool)) (i x : Nat) (r : List PSeg) (hp : drawAOk l S1 y c lA lB i x r = true)
    (h : ∀ K : St → Prop, (∀ st, SW P N y0 Q st → K st) → runQ P N (l.map (·.dst)) (S1.filterMap fun x => (l[x.1]?).map fun o => (x.2, o)) st fun s => runQ P N (l.map (·.dst)) ([(y, true)].filterMap fun x => (l[x.1]?).map fun o => (x.2, o)) s (fun s' => runDW P N l (l.map (·.dst)) lA i r s' K) ∧ runDW P N l (l.map (·.dst)) lB i r s K) : SW P N (.seq (.region id l.toArray true) y0) Q st :=
  SW.seq (SW.drawA hm S1 y c lA lB i x r hp (h _ fun _ h => h))
end
end HK
