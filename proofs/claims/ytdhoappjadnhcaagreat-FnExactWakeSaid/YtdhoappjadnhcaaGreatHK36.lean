import Derived.Test.YtdhoappjadnhcaaGreatG2b
/-
  My own texts (road H): HK36.
-/
set_option maxHeartbeats 8000000
set_option linter.unusedVariables false
set_option linter.unusedSimpArgs false
namespace HK
open Go
def wOk2 : Oper → Oper → Bool
  | ⟨none, .store _ (.tmp a) (.tmp v), _, _, _, none⟩, ⟨some d, .extract (.tmp _) _, _, _, _, none⟩ => d != a && d != v
  | _, _ => false
def drawWOk (ops : List Oper) (l : List (Nat × Bool)) (i x : Nat) (r : List PSeg) : Bool :=
  qOk ops (ancT ops (l.map (·.1) ++ i :: planIdx r) []) [] [] l && planOk ops (ancT ops (l.map (·.1) ++ i :: planIdx r) []) (l.map (·.1) ++ [i]) r && l.contains (x, false) && match ops[i]?, ops[x]? with
    | some o, some ox => wOk2 o ox && (prd o).all (fun p => p != x && (l.map (·.1)).contains p) && decide (i ∉ l.map (·.1)) && (l.map (·.1)).all (fun z => z == x || (lkT (ancT ops (l.map (·.1) ++ i :: planIdx r) []) i).contains z)
    | _, _ => false
def runDW (P : Program) (N : Sz) (ops : List Oper) (ds : List (Option Tmp)) (l : List (Nat × Bool)) (i : Nat) (r : List PSeg) (st : St) (K : St → Prop) : Prop := match ops[i]? with
  | some o => runQ P N ds (l.filterMap fun x => (ops[x.1]?).map fun o => (x.2, o)) st fun s => runA P N ds [o] s fun s => runD P N ops ds r s K
  | none => False
section
variable {P : Program} {N : Sz} {w0 : World} {B0 : Cx}
theorem w_x {ds : List (Option Tmp)} {o ox : Oper} {env env' : Env} {h h' : Heap} {v : AV} {bl : List Blk} {K : St → Prop} (hw : wOk2 o ox = true) (hq : Q1 P N ds false ox env h (fun v' bl' => v' = v ∧ bl' = bl)) (he : ∀ t ∈ ox.looksAt #[], lk env' t = lk env t)
    (hk : K ⟨putE env' ox.dst v, h'⟩) : runA P N ds [ox] ⟨env', h'⟩ K := by
  unfold wOk2 at hw; split at hw
  · rename_i t a u _ _ _ d y k _ _ _
    have e := he y (by simp [Oper.looksAt, Op.operands])
    simp only [Q1, gval, cls] at hq; simp only [runA, gval, cls]; obtain ⟨h1, _, h2, h3, _⟩ := hq; simp only [evP, ev] at h2 h3 ⊢; rw [e]; exact ⟨h1, h2, by rw [h3]; exact hk⟩
  · cases hw
theorem w_store {ds : List (Option Tmp)} {o ox : Oper} {s s2 : St} {J : St → Prop} (hw : wOk2 o ox = true) (hr : runA P N ds [o] s2 J) (he : ∀ t, ox.dst ≠ some t → lk s.env t = lk s2.env t) (hh : s.heap = s2.heap) :
    runA P N ds [o] s fun s' => ∃ h', s' = ⟨s.env, h'⟩ ∧ J ⟨s2.env, h'⟩ := by
  unfold wOk2 at hw; split at hw
  · rename_i t a v _ _ _ d y k _ _ _
    simp only [Bool.and_eq_true, bne_iff_ne, ne_eq] at hw; simp only [runA, gval, cls, putE, dOk, ev] at hr ⊢; have e1 := he a (by simp; exact hw.1)
    have e2 := he v (by simp; exact hw.2)
    obtain ⟨_, h1, h2⟩ := hr; rw [e1, e2, hh]; exact ⟨trivial, h1, _, rfl, h2⟩
  · cases hw
theorem w_look {o ox : Oper} (hw : wOk2 o ox = true) (ops : Array Oper) : ox.looksAt #[] = ox.looksAt ops := by
  unfold wOk2 at hw; split at hw
  · simp [Oper.looksAt, Op.operands]
  · cases hw
theorem SW.drawW {id : Nat} {ops : List Oper} {Q : Exit → St → Prop} {st0 : St} (hm : P.follows .mixedOrders = true) (l : List (Nat × Bool)) (i x : Nat) (r : List PSeg) (hp : drawWOk ops l i x r = true) (hn : l.length + 1 + (planIdx r).length = ops.length)
    (hr0 : runDW P N ops (ops.map (·.dst)) l i r st0 (Q .normal)) : SW P N (.region id ops.toArray true) Q st0 := fun w0 B0 φ0 Ss0 a0 wl hR0 => by
  refine wp_region_any hm ?_
  generalize hTT : ancT ops (l.map (·.1) ++ i :: planIdx r) [] = T at *
  have hT : TOk ops T := by rw [← hTT]; exact ancT_ok _ fun x z hz => by simp [lkT] at hz
  have hR' : Rel N w0 B0 φ0 Ss0 st0 a0 { wl with drawn := wl.drawn + 1 } := hR0.drew _
  have hrep : ∀ i, (Array.replicate ops.length false).getD i false = false := fun i => by
    by_cases hi : i < ops.length
    · simp [hi]
    · simp [hi]
  rw [show ops.toArray.size = ops.length by simp]; unfold drawWOk at hp; rw [hTT] at hp; simp only [Bool.and_eq_true] at hp; obtain ⟨⟨⟨hq, hp3⟩, hxin⟩, hp4⟩ := hp
  cases ho : ops[i]? with
  | none => rw [ho] at hp4; simp at hp4
  | some o =>
  cases hox : ops[x]? with
  | none => rw [ho, hox] at hp4; simp at hp4
  | some ox =>
  rw [ho, hox] at hp4; simp only [Bool.and_eq_true, decide_eq_true_eq, List.all_eq_true, Bool.or_eq_true, List.contains_iff_mem, bne_iff_ne, ne_eq, beq_iff_eq] at hp4 hxin; obtain ⟨⟨⟨hw, hpo⟩, hinl⟩, hanc⟩ := hp4
  obtain ⟨kx, hlx⟩ := List.getElem?_of_mem hxin; have hkx := (List.getElem?_eq_some_iff.1 hlx).1
  unfold runDW at hr0; rw [ho] at hr0; simp only at hr0
  have hfm : ∀ (m : List (Nat × Bool)), (∀ x ∈ m, ∃ o, ops[x.1]? = some o) → (m.filterMap fun x => (ops[x.1]?).map fun o => (x.2, o)).length = m.length ∧
      ∀ (k x : Nat) (c : Bool), m[k]? = some ((x, c) : Nat × Bool) → ∃ o, ops[x]? = some o ∧ (m.filterMap fun x => (ops[x.1]?).map fun o => (x.2, o))[k]? = some (c, o) := by
    intro m
    induction m with
    | nil => intro _; exact ⟨rfl, fun k x c h => by simp at h⟩
    | cons y m ih =>
      intro hm; obtain ⟨o, ho⟩ := hm y (by simp); obtain ⟨i1, i2⟩ := ih fun x hx => hm x (by simp [hx])
      have e : ((y :: m).filterMap fun x => (ops[x.1]?).map fun o => (x.2, o)) = (y.2, o) :: (m.filterMap fun x => (ops[x.1]?).map fun o => (x.2, o)) := by
        rw [List.filterMap_cons, ho]; rfl
      rw [e]; refine ⟨by simp [i1], fun k x c h => ?_⟩
      cases k with
      | zero => simp at h; subst h; exact ⟨o, ho, by simp⟩
      | succ k => simpa using i2 k x c (by simpa using h)
  have hex : ∀ x ∈ l, ∃ o, ops[x.1]? = some o := fun x hx => by
    obtain ⟨k, hk⟩ := List.getElem?_of_mem hx; obtain ⟨o, h1, _⟩ := qOk_spec hq k x.1 x.2 hk; exact ⟨o, h1⟩
  obtain ⟨f1, f2⟩ := hfm l hex; obtain ⟨its, i1, i2, i3⟩ := runQ_its hr0; have hitl : its.length = l.length := i1.trans f1
  have hits : ∀ (k : Nat) (x : Nat) (c : Bool), l[k]? = some ((x, c) : Nat × Bool) → ∃ it o, its[k]? = some it ∧ ops[x]? = some o ∧ it.o = o ∧ (c = false → it.bl = []) ∧
      Q1 P N (ops.map (·.dst)) c o (stM its (pre k) st0).env (stM its (pre k) st0).heap (fun v bl => v = it.v ∧ bl = it.bl) := fun k x c hk => by
    obtain ⟨o, h1, h2⟩ := f2 k x c hk; obtain ⟨it, h3, h4, h5, h6⟩ := i3 k c o h2; exact ⟨it, o, h3, h1, h4, h5, h6⟩
  have hno : ∀ (l : List It) (s : St), stM l (fun _ => false) s = s := fun l => by
    induction l with
    | nil => intro s; rfl
    | cons y l ih => intro s; simp only [stM]; exact ih s
  have hidxlt : ∀ p ∈ l.map (·.1), p < ops.length := fun p hp => by
    obtain ⟨y, hy, rfl⟩ := List.mem_map.1 hp; obtain ⟨o, ho⟩ := hex y hy; exact (List.getElem?_eq_some_iff.1 ho).1
  have hil := (List.getElem?_eq_some_iff.1 ho).1
  have hxl := (List.getElem?_eq_some_iff.1 hox).1
  have hxmem : x ∈ l.map (·.1) := List.mem_map.2 ⟨(x, false), List.mem_of_getElem? hlx, rfl⟩
  have hcov2 : ∀ z, z < ops.length → z ∈ l.map (·.1) ∨ z = i ∨ z ∈ planIdx r := fun z hz => by
    rcases plan_cover hp3 z hz with h | h
    · rcases List.mem_append.1 h with h | h
      · exact .inl h
      · simp at h; exact .inr (.inl h)
    · exact .inr (.inr h)
  have hpl : ∀ z ∈ planIdx r, ∀ y ∈ l.map (·.1) ++ [i], y ∈ lkT T z := fun z hz y hy => plan_later hp3 z hz y hy
  have hend : ∀ (st' : St) φ' Ss' a' w' (listed' : Array Bool) f', listed'.size = ops.length → Closed ops listed' → (∀ j, j < ops.length → (listed'.getD j false = true ↔ j ∈ l.map (·.1) ++ [i])) → Rel N w0 B0 φ' Ss' st' a' w' →
      runD P N ops (ops.map (·.dst)) r st' (Q .normal) → (planIdx r).length ≤ f' → wpAny P .any ops.toArray (QR N w0 B0 Q) f' listed' a' w' := fun st' φ' Ss' a' w' l2 f' h1 h2 h3 h4 h5 h6 =>
    plan_sound hT (K := Q .normal) (fun _ h => h) r (l.map (·.1) ++ [i]) st' φ' Ss' a' w' l2 f' hp3 (fun p hp => by
      rcases List.mem_append.1 hp with h | h
      · exact hidxlt p h
      · simp at h; subst h; exact hil) h1 h2 h3 h4 h5 h6
  have hinj : ∀ (k k' : Nat) (x : Nat) (c c' : Bool), l[k]? = some ((x, c) : Nat × Bool) → l[k']? = some ((x, c') : Nat × Bool) → k = k' := by
    intro k k' x c c' h1 h2; rcases Nat.lt_trichotomy k k' with hlt | he | hlt
    · obtain ⟨o, _, _, _, h3⟩ := qOk_spec hq k' x c' h2
      have := h3 k x c hlt h1
      simp [pairOk] at this
    · exact he
    · obtain ⟨o, _, _, _, h3⟩ := qOk_spec hq k x c h1
      have := h3 k' x c' hlt h2
      simp [pairOk] at this
  obtain ⟨itx, ox', e1, e2, e3, e4, e5⟩ := hits kx x false hlx; rw [hox] at e2; cases e2; have hbx := e4 rfl
  refine seg_sound (D := []) (r := .b i :: r) (rest := 1 + (planIdx r).length) hT (by simp) (by simp) hq (fun z hz => ?_) (fun y hy => ?_) hitl hits
    (fun φ' Ss' a' w' listed' fuel' hs' hcl' hL' hR' hf' => ?_)
    l.length (List.range l.length) (fun _ => false) φ0 Ss0 a0 _ _ _ (by simp) List.nodup_range (fun k hk => by simpa using hk) (fun k hk => by simp [hk]) (by simp) (fun y o hy => by rw [hrep] at hy; cases hy) (fun i hi => by rw [hrep]; simp) (by rw [hno]; exact hR') (by omega)
  · rcases hcov2 z hz with h | h | h
    · exact .inr (.inl h)
    · subst h; exact .inr (.inr (by simp [planIdx, PSeg.idx]))
    · exact .inr (.inr (by simp only [planIdx, List.map_cons, List.flatten_cons, PSeg.idx, List.mem_append]; exact .inr h))
  · have hy' : y = i ∨ y ∈ planIdx r := by simpa [planIdx, PSeg.idx] using hy
    rcases hy' with rfl | hy'
    rotate_left
    · exact .inl fun z hz => hpl y hy' z (List.mem_append_left _ hz)
    refine .inr fun fs φ' Ss' a' w' listed' f oy hoy hpy huy hay hs' hcl' hL' hpend hR' hf' => ?_; rw [ho] at hoy; cases hoy
    have hL2 : ∀ j, j < ops.length → (listed'.getD j false = true ↔ ∃ k c, l[k]? = some ((j, c) : Nat × Bool) ∧ fs k = true) := fun j hj => by
      rw [hL' j hj]; simp
    have hidx : ∀ k, k < l.length → ∃ z c, l[k]? = some ((z, c) : Nat × Bool) := fun k hk => ⟨_, _, List.getElem?_eq_getElem hk⟩
    have hdone : ∀ k, k < l.length → k ≠ kx → fs k = true := fun k hk hne => by
      obtain ⟨z, c, hz⟩ := hidx k hk; have hzm : z ∈ l.map (·.1) := List.mem_map.2 ⟨(z, c), List.mem_of_getElem? hz, rfl⟩
      have hzx : z ≠ x := fun e => hne (hinj k kx z c false hz (e ▸ hlx))
      have hzT : z ∈ lkT T y := by
        rcases hanc z hzm with h | h
        · exact absurd h hzx
        · exact h
      obtain ⟨k', c', h1, h2⟩ := (hL2 z (hidxlt z hzm)).1 (hay z hzT); have := hinj k k' z c c' hz h1
      subst this; exact h2
    have hfx : fs kx = false := by
      obtain ⟨k, hk, hfk⟩ := hpend; by_cases h : k = kx
      · rw [← h]; exact hfk
      · rw [hdone k hk h] at hfk; cases hfk
    have hxun : listed'.getD x false = false := by
      cases h : listed'.getD x false with
      | false => rfl
      | true =>
        obtain ⟨k', c', h1, h2⟩ := (hL2 x hxl).1 h; have := hinj kx k' x false c' hlx h1
        subst this; rw [hfx] at h2; cases h2
    have hitk : ∀ (k' : Nat) (it' : It), its[k']? = some it' → ∃ x2 c2, l[k']? = some ((x2, c2) : Nat × Bool) ∧ ops[x2]? = some it'.o ∧ (c2 = false → it'.bl = []) := fun k' it' h => by
      have hlt' : k' < l.length := by have := (List.getElem?_eq_some_iff.1 h).1; omega
      obtain ⟨x2, c2, h2⟩ := hidx k' hlt'; obtain ⟨it2, o2, g1, g2, g3, g4, _⟩ := hits k' x2 c2 h2; rw [h] at g1; cases g1; exact ⟨x2, c2, h2, by rw [g3]; exact g2, g4⟩
    -- of two of them, one of which is x
    have hpairL : ∀ (k' : Nat) (it' : It), its[k']? = some it' → kx < k' → (∀ d, ox.dst = some d → it'.o.dst ≠ some d) ∧ (∀ t ∈ ox.looksAt ops.toArray, it'.o.dst ≠ some t) := fun k' it' h1 h2 => by
      obtain ⟨x2, c2, h3, h4, _⟩ := hitk k' it' h1; obtain ⟨o3, g1, _, _, g4⟩ := qOk_spec hq k' x2 c2 h3; rw [h4] at g1; cases g1; have hp := g4 kx x false h2 hlx
      simp only [pairOk, hox, Bool.not_false, Bool.true_and, Bool.and_eq_true, Bool.or_eq_true, List.contains_iff_mem] at hp; have hk'l : k' < l.length := (List.getElem?_eq_some_iff.1 h3).1
      have hnanc : x ∉ lkT T x2 := fun hz => by
        have h5 := hdone k' hk'l (by omega)
        have := hcl'.anc (hT x2 x hz) ((hL2 x2 (hidxlt x2 (List.mem_map.2 ⟨(x2, c2), List.mem_of_getElem? h3, rfl⟩))).2 ⟨k', c2, h3, h5⟩)
        rw [hxun] at this; cases this
      refine ⟨fun d hd hd' => ?_, fun t ht hd' => ?_⟩
      · have := hp.2.1
        rw [hd'] at this; simp [hd] at this
      · rcases hp.2.2 with h6 | ⟨_, h6⟩
        · exact hnanc h6
        · rw [hd'] at h6
          simp at h6; exact h6 ht
    have hpairE : ∀ (k' : Nat) (it' : It), its[k']? = some it' → k' < kx → ∀ d, ox.dst = some d → it'.o.dst ≠ some d := fun k' it' h1 h2 d hd hd' => by
      obtain ⟨x2, c2, h3, h4, _⟩ := hitk k' it' h1; obtain ⟨o3, g1, _, _, g4⟩ := qOk_spec hq kx x false hlx; rw [hox] at g1; cases g1; have hp := g4 k' x2 c2 h2 h3
      simp only [pairOk, h4, Bool.and_eq_true] at hp; have := hp.2.1
      rw [hd, hd'] at this; simp at this
    have hdsts : ∀ k' it', its[k']? = some it' → k' ≠ kx → ∀ d, itx.o.dst = some d → it'.o.dst ≠ some d := fun k' it' h1 h2 d hd => by
      rw [e3] at hd; rcases Nat.lt_or_gt_of_ne h2 with h3 | h3
      · exact hpairE k' it' h1 h3 d hd
      · exact (hpairL k' it' h1 h3).1 d hd
    have hsetall : stM its (setF fs kx) st0 = stM its (fun _ => true) st0 := stM_congr _ _ _ _ fun k hk => by
      unfold setF; split
      · rfl
      · rename_i hne
        exact hdone k (by omega) hne
    have hlkS : ∀ t, ox.dst ≠ some t → lk (stM its fs st0).env t = lk (stM its (fun _ => true) st0).env t := fun t ht => by
      refine stM_lk its _ _ st0 st0 (fun k it h1 h2 => ?_) rfl; by_cases hk : k = kx
      · subst hk
        rw [h1] at e1; cases e1; rw [e3] at h2; exact absurd h2 ht
      · exact hdone k (by have := (List.getElem?_eq_some_iff.1 h1).1; omega) hk
    have hheap : (stM its fs st0).heap = (stM its (fun _ => true) st0).heap := by
      rw [stM_heap, stM_heap]
      congr 1
      refine blM_eq its _ _ fun k it h1 => ?_; by_cases hk : k = kx
      · subst hk
        rw [h1] at e1; cases e1; exact .inl hbx
      · exact .inr (hdone k (by have := (List.getElem?_eq_some_iff.1 h1).1; omega) hk)
    have hJ2 := w_store hw i2 hlkS hheap
    have hds : ops.toArray.toList.map (·.dst) = ops.map (·.dst) := by simp
    refine stepA_sound (ops := ops.toArray) (o := o) (by simpa using ho) (fun st' φ2 Ss2 a2 w2 hJ3 hR2 => ?_) hR' (by rw [hds]; exact hJ2); obtain ⟨h9, rfl, hJ4⟩ := hJ3; obtain ⟨f', rfl⟩ : ∃ f', f = f' + 1 := ⟨f - 1, by omega⟩
    have hlkX : ∀ t ∈ ox.looksAt #[], lk (stM its fs st0).env t = lk (stM its (pre kx) st0).env t := fun t ht => by
      rw [w_look hw ops.toArray] at ht; refine stM_lk its _ _ st0 st0 (fun k it h1 h2 => ?_) rfl; rcases Nat.lt_trichotomy k kx with h3 | h3 | h3
      · rw [hdone k (by omega) (by omega)]; simp [pre, h3]
      · subst h3; rw [hfx]; simp [pre]
      · exact absurd h2 ((hpairL k it h1 h3).2 t ht)
    have hRx : runA P N (ops.map (·.dst)) [ox] ⟨(stM its fs st0).env, h9⟩ (fun s => s = ⟨putE (stM its fs st0).env ox.dst itx.v, h9⟩) := w_x hw e5 hlkX rfl
    have hlm : ∀ z, z ∈ l.map (·.1) ↔ z ∈ (l.map (·.1)).erase x ∨ z = x := fun z => by
      by_cases h : z = x
      · subst h; simp [hxmem]
      · rw [List.mem_erase_of_ne h]; simp [h]
    have hnd : ∀ j, j ∈ (l.map (·.1)).erase x → j ≠ x := fun j hj e => by
      subst e
      have hn2 : (l.map (·.1)).Nodup := by
        unfold List.Nodup; rw [List.pairwise_iff_getElem]; intro a b ha hb hab e; simp only [List.getElem_map] at e; have ha' : a < l.length := by simpa using ha
        have hb' : b < l.length := by simpa using hb
        have := hinj a b l[a].1 l[a].2 l[b].2 (List.getElem?_eq_getElem ha') (by rw [List.getElem?_eq_getElem hb', e])
        omega
      exact (hn2.mem_erase_iff.1 hj).1 rfl
    refine b_step hT (D := (l.map (·.1)).erase x ++ [y]) (L := planIdx r) hox (fun h => ?_) (fun p hp => ?_) (fun p hp => ?_) (fun z hz => ?_) (fun z hz => hpl z hz x (List.mem_append_left _ hxmem)) (by simpa using hs') (hcl'.set hs' ho hpy) (fun j hj => ?_) hR2 hRx (fun st3 φ3 Ss3 a3 w3 l3 h1 h2 h3 h4 h5 => ?_)
    · rcases List.mem_append.1 h with h | h
      · exact hnd x h rfl
      · simp at h; subst h; exact hinl hxmem
    · obtain ⟨o2, g1, g2, _, _⟩ := qOk_spec hq kx x false hlx
      rw [hox] at g1; cases g1; rcases g2 p hp with h | h | ⟨k', c', h1, h2⟩
      · simp at h
      · simp at h
      · refine List.mem_append_left _ ?_
        have hm2 : p ∈ l.map (·.1) := List.mem_map.2 ⟨(p, c'), List.mem_of_getElem? h2, rfl⟩
        rcases (hlm p).1 hm2 with h | h
        · exact h
        · subst h
          have := hinj k' kx p c' false h2 hlx
          omega
    · rcases List.mem_append.1 hp with h | h
      · exact hidxlt p (List.mem_of_mem_erase h)
      · simp at h; subst h; exact hil
    · rcases hcov2 z hz with h | h | h
      · rcases (hlm z).1 h with h | h
        · exact .inl (List.mem_append_left _ h)
        · exact .inr (.inl h)
      · subst h; exact .inl (by simp)
      · exact .inr (.inr h)
    · rw [listed_set hs' hil]
      split
      · rename_i e; subst e; simp
      · rename_i e
        rw [hL2 j hj]; simp only [List.mem_append, List.mem_singleton]; constructor
        · rintro ⟨k, c, h1, h2⟩
          have hm2 : j ∈ l.map (·.1) := List.mem_map.2 ⟨(j, c), List.mem_of_getElem? h1, rfl⟩
          rcases (hlm j).1 hm2 with h | h
          · exact .inl h
          · subst h
            have := hinj k kx j c false h1 hlx
            subst this; rw [hfx] at h2; cases h2
        · rintro (h | h)
          · obtain ⟨⟨j', c⟩, hm, rfl⟩ := List.mem_map.1 (List.mem_of_mem_erase h)
            obtain ⟨k, hk⟩ := List.getElem?_of_mem hm; refine ⟨k, c, hk, hdone k (List.getElem?_eq_some_iff.1 hk).1 fun e => ?_⟩; subst e; rw [hlx] at hk; cases hk
            exact hnd x h rfl
          · exact absurd h e
    · subst h5
      refine hend ⟨(stM its (fun _ => true) st0).env, h9⟩ φ3 Ss3 a3 w3 l3 f' h1 h2 (fun j hj => ?_) (h4.lkc (fun t => ?_) rfl) hJ4 (by omega)
      · rw [h3 j hj]
        simp only [List.mem_append, List.mem_singleton]; rw [hlm j]; constructor
        · rintro ((h | h) | h)
          · exact .inl (.inl h)
          · exact .inr h
          · exact .inl (.inr h)
        · rintro ((h | h) | h)
          · exact .inl (.inl h)
          · exact .inr h
          · exact .inl (.inr h)
      · have := stM_put (t := t) its fs st0 e1 hfx hdsts
        rw [hsetall, e3] at this; exact this.symm
  · obtain ⟨f', rfl⟩ : ∃ f', fuel' = f' + 1 := ⟨fuel' - 1, by omega⟩
    refine b_step hT (D := l.map (·.1)) (L := planIdx r) ho hinl (fun p hp => (hpo p hp).2) hidxlt (fun z hz => hcov2 z hz) (fun z hz => hpl z hz i (List.mem_append_right _ (by simp))) hs' hcl' (fun j hj => by rw [hL' j hj]; simp) hR' i2 (fun st3 φ3 Ss3 a3 w3 l3 h1 h2 h3 h4 h5 => hend st3 φ3 Ss3 a3 w3 l3 f' h1 h2 h3 h4 h5 (by omega))
theorem SW.drawWK {id : Nat} {l : List Oper} {y : Code} {Q : Exit → St → Prop} {st : St} (hm : P.follows .mixedOrders = true) (q : List (Nat × Bool)) (i x : Nat) (r : List PSeg) (hp : drawWOk l q i x r = true) (hn : q.length + 1 + (planIdx r).length = l.length)
    (h : ∀ K : St → Prop, (∀ st, SW P N y Q st → K st) → runDW P N l (l.map (·.dst)) q i r st K) : SW P N (.seq (.region id l.toArray true) y) Q st :=
  SW.seq (SW.drawW hm q i x r hp hn (h _ fun _ h => h))
end
section
variable {P : Program} {N : Sz} {ds : List (Option Tmp)} {K : St → Prop} {st : St} {ops : List Oper} {r : List PSeg}
@[simp] theorem rd_W {m : List (Nat × Bool)} {i : Nat} : runDW P N ops ds m i r st K = (match ops[i]? with | some o => runQ P N ds (m.filterMap fun x => (ops[x.1]?).map fun o => (x.2, o)) st (fun s => runA P N ds [o] s fun s => runD P N ops ds r s K) | none => False) := rfl
end
end HK
