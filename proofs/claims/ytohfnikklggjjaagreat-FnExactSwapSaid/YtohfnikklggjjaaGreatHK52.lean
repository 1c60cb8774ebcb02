import Derived.Test.YtohfnikklggjjaaGreatHK36
/-
  My own texts (road H): HK52.
-/
set_option linter.unusedVariables false
set_option linter.unusedSimpArgs false
namespace HK
open Go
abbrev hb' := HK.hb
def stT : Oper → List Tmp
  | ⟨none, .store _ (.tmp a) (.tmp v), _, _, _, none⟩ => [a, v]
  | _ => []
def isSt : Oper → Bool
  | ⟨none, .store _ (.tmp _) (.tmp _), _, _, _, none⟩ => true
  | _ => false
def flK : Op → Bool
  | .extract _ _ | .move _ | .assign _ | .binOp _ _ _ _ _ | .indexAddr _ _ _ => true
  | _ => false
def flOk (s : Oper) : Oper → Bool
  | ⟨some d, op, _, _, _, none⟩ => flK op && !(stT s).contains d
  | _ => false
theorem flOk_dst {s o : Oper} {t : Tmp} (h : flOk s o = true) (ht : t ∈ stT s) : o.dst ≠ some t := by
  unfold flOk at h; split at h
  · simp only [Bool.and_eq_true, Bool.not_eq_true', List.contains_eq_mem, decide_eq_false_iff_not] at h
    intro e; cases e
    exact h.2 ht
  · cases h
variable {P : Program} {N : Sz}
theorem flK_ev {h h' : Heap} (hh : ∀ id b, hb h id = some b → ∃ b', hb h' id = some b' ∧ b'.sz = b.sz) {ρ : Operand → AV} {op : Op} (hk : flK op = true) (ok : (evP P h ρ op).1) : (evP P h' ρ op).1 ∧ (evP P h' ρ op).2 = (evP P h ρ op).2 := by
  cases op with
  | indexAddr t x i =>
    simp only [evP] at ok ⊢; split at ok
    · rename_i sz b' k n ht hi
      simp only [ht, hi]; obtain ⟨h1, h2, h3⟩ := ok
      have : (indexV h' sz n (st1 (ρ x))).1 ∧ (indexV h' sz n (st1 (ρ x))).2 = (indexV h sz n (st1 (ρ x))).2 := by
        cases hx : st1 (ρ x) with
        | sl id off len =>
          rw [hx] at h3; simp only [indexV] at h3 ⊢
          cases hb1 : hb h id with
          | none => rw [hb1] at h3; exact h3.elim
          | some b =>
            obtain ⟨b2, h4, h5⟩ := hh id b hb1; rw [hb1] at h3; simp only [h4]
            exact ⟨⟨h3.1, h3.2.1, h5.trans h3.2.2⟩, by first | trivial | rfl⟩
        | fz es => rw [hx] at h3; exact ⟨h3, by first | trivial | rfl⟩
        | _ => rw [hx] at h3; exact h3.elim
      exact ⟨⟨h1, h2, this.1⟩, this.2⟩
    · rename_i k n ht hi
      simp only [ht, hi]; exact ⟨ok, by first | trivial | rfl⟩
    · exact ok.elim
  | extract _ _ => exact ⟨ok, rfl⟩
  | move _ => exact ⟨ok, rfl⟩
  | assign _ => exact ⟨ok, rfl⟩
  | binOp _ _ _ _ _ => exact ⟨ok, rfl⟩
  | _ => simp [flK] at hk
theorem flOk_q1 {s o : Oper} {ds : List (Option Tmp)} {env : Env} {h h' : Heap} {v : AV} {bl : List Blk} (hf : flOk s o = true) (hq : Q1 P N ds false o env h (fun v' bl' => v' = v ∧ bl' = bl)) (hh : ∀ id b, hb h id = some b → ∃ b', hb h' id = some b' ∧ b'.sz = b.sz) :
    Q1 P N ds false o env h' (fun v' bl' => v' = v ∧ bl' = bl) := by
  unfold flOk at hf; split at hf
  · rename_i d op ty pos af
    simp only [Bool.and_eq_true] at hf
    have hc : cls op = .pure := by
      cases op <;> first | rfl | simp [flK] at hf
    simp only [Q1, gval, hc] at hq ⊢; obtain ⟨h1, _, h2, h3, h4⟩ := hq; obtain ⟨k1, k2⟩ := flK_ev hh hf.1 h2; exact ⟨h1, trivial, k1, k2.trans h3, h4⟩
  · cases hf
theorem evS_hb {h : Heap} {t : TypeId} {pa va : AV} (ok : (evS P h t pa va).ok) (id : Nat) (b : Blk) (hb1 : hb h id = some b) : ∃ b', hb (evS P h t pa va).h id = some b' ∧ b'.sz = b.sz := by
  revert ok
  unfold evS; split
  · rename_i id' i j g n xs q1 q2 q3
    cases hb2 : hb h id' with
    | none => intro ok; exact ok.elim
    | some b2 =>
      intro _; simp only []; by_cases e : id = id'
      · subst e
        rw [hb1] at hb2; cases hb2; have hlt := (List.getElem?_eq_some_iff.1 (hb_spec hb1)).1
        exact ⟨⟨b.sz, b.es.set i (splice (b.es.getD i []) j xs)⟩, by unfold hb; rw [List.getElem?_set_self hlt], rfl⟩
      · exact ⟨b, by unfold hb at hb1 ⊢; rw [List.getElem?_set_ne (Ne.symm e)]; exact hb1, rfl⟩
  · intro ok; exact ok.elim
theorem x_store {ds : List (Option Tmp)} {o : Oper} {s s2 : St} {J : St → Prop} (hw : isSt o = true) (hr : runA P N ds [o] s2 J) (he : ∀ t, t ∈ stT o → lk s.env t = lk s2.env t) (hh : s.heap = s2.heap) :
    runA P N ds [o] s fun s' => ∃ h', s' = ⟨s.env, h'⟩ ∧ J ⟨s2.env, h'⟩ ∧ ∀ id b, hb s2.heap id = some b → ∃ b', hb h' id = some b' ∧ b'.sz = b.sz := by
  unfold isSt at hw; split at hw
  · rename_i t a v _ _ _
    simp only [runA, gval, cls, putE, dOk, ev] at hr ⊢; have e1 := he a (by simp [stT])
    have e2 := he v (by simp [stT])
    obtain ⟨_, h1, h2⟩ := hr; rw [e1, e2, hh]; refine ⟨trivial, h1, _, rfl, h2, fun id b hb1 => ?_⟩; exact evS_hb h1 id b hb1
  · cases hw
theorem qOk_more {ops : List Oper} {T : List (Nat × List Nat)} {D : List Nat} : ∀ {l : List (Nat × Bool)} {done : List (Nat × Bool)}, qOk ops T [] done l = true → qOk ops T D done l = true
  | [], _, _ => rfl
  | (x, c) :: r, done, h => by
    unfold qOk at h ⊢; split at h
    · cases h
    · rename_i o ho
      simp only [Bool.and_eq_true, List.all_eq_true, Bool.or_eq_true, List.contains_iff_mem] at h ⊢; exact ⟨⟨fun p hp => .inr ((h.1.1 p hp).resolve_left (by simp)), h.1.2⟩, qOk_more h.2⟩
section
variable {w0 : World} {B0 : Cx}
theorem segY_sound {ops : List Oper} {T : List (Nat × List Nat)} {Q : Exit → Act → World → Prop} (hT : TOk ops T) {D : List Nat} {l : List (Nat × Bool)} {r : List PSeg} (hD : ∀ p ∈ D, p < ops.length) (hdis : ∀ x ∈ l.map (·.1), x ∉ D) (hq : qOk ops T D [] l = true)
    (hcov : ∀ x, x < ops.length → x ∈ D ∨ x ∈ l.map (·.1) ∨ x ∈ planIdx r) {its : List It} {st0 : St} {rest : Nat}
    (hlater : ∀ y ∈ planIdx r, (∀ z ∈ l.map (·.1), z ∈ lkT T y) ∨ ∀ (fs : Nat → Bool) φ Ss a w (listed : Array Bool) f oy, ops[y]? = some oy → (∀ p ∈ prd oy, listed.getD p false = true) → listed.getD y false = false → (∀ z ∈ lkT T y, listed.getD z false = true) → listed.size = ops.length →
      Closed ops listed → (∀ i, i < ops.length → (listed.getD i false = true ↔ i ∈ D ∨ ∃ k c, l[k]? = some ((i, c) : Nat × Bool) ∧ fs k = true)) → (∃ pd : List Nat, pd.Nodup ∧ (∀ k ∈ pd, k < l.length) ∧ (∀ k, k < l.length → (fs k = false ↔ k ∈ pd)) ∧ pd.length + rest ≤ f + 1) → Rel N w0 B0 φ Ss (stM its fs st0) a w →
      wpOp P ops.toArray Q y (fun a' w' => wpAny P .any ops.toArray Q f (listed.setIfInBounds y true) a' w') a w) (hlen : its.length = l.length)
    (hits : ∀ (k : Nat) (x : Nat) (c : Bool), l[k]? = some ((x, c) : Nat × Bool) → ∃ it o, its[k]? = some it ∧ ops[x]? = some o ∧ it.o = o ∧ (c = false → it.bl = []) ∧
      Q1 P N (ops.map (·.dst)) c o (stM its (pre k) st0).env (stM its (pre k) st0).heap (fun v bl => v = it.v ∧ bl = it.bl))
    (next : ∀ φ Ss a w listed fuel, listed.size = ops.length → Closed ops listed → (∀ i, i < ops.length → (listed.getD i false = true ↔ i ∈ D ++ l.map (·.1))) → Rel N w0 B0 φ Ss (stM its (fun _ => true) st0) a w → rest ≤ fuel →
      wpAny P .any ops.toArray Q fuel listed a w) :
    ∀ (n : Nat) (pd : List Nat) (fs : Nat → Bool) (φ : Refs) (Ss : List (List Nat)) (a : Act) (w : World) (listed : Array Bool) (fuel : Nat), pd.length = n → pd.Nodup → (∀ k ∈ pd, k < l.length) → (∀ k, k < l.length → (fs k = false ↔ k ∈ pd)) →
      listed.size = ops.length → Closed ops listed → (∀ i, i < ops.length → (listed.getD i false = true ↔ i ∈ D ∨ ∃ k c, l[k]? = some ((i, c) : Nat × Bool) ∧ fs k = true)) → Rel N w0 B0 φ Ss (stM its fs st0) a w → n + rest ≤ fuel →
      wpAny P .any ops.toArray Q fuel listed a w := by
  have hinj : ∀ (k k' : Nat) (x : Nat) (c c' : Bool), l[k]? = some ((x, c) : Nat × Bool) → l[k']? = some ((x, c') : Nat × Bool) → k = k' := by
    intro k k' x c c' h1 h2; rcases Nat.lt_trichotomy k k' with hlt | he | hlt
    · obtain ⟨o, _, _, _, h3⟩ := qOk_spec hq k' x c' h2
      have := h3 k x c hlt h1
      simp [pairOk] at this
    · exact he
    · obtain ⟨o, _, _, _, h3⟩ := qOk_spec hq k x c h1
      have := h3 k' x c' hlt h2
      simp [pairOk] at this
  intro n
  induction n with
  | zero =>
    intro pd fs φ Ss a w listed fuel hpl hnd hlt hfs hs hcl hL hR hfu; have hpd : pd = [] := List.eq_nil_of_length_eq_zero hpl
    subst hpd
    have hall : ∀ k, k < l.length → fs k = true := fun k hk => by
      have := hfs k hk
      cases h : fs k with
      | true => rfl
      | false => exact absurd (this.1 h) (by simp)
    refine next φ Ss a w listed fuel hs hcl (fun i hi => (hL i hi).trans ?_) (by rw [← stM_congr its fs (fun _ => true) st0 fun k hk => hall k (by omega)]; exact hR) (by omega)
    rw [List.mem_append]; refine or_congr Iff.rfl ⟨fun ⟨k, c, h1, _⟩ => List.mem_map.2 ⟨(i, c), List.mem_of_getElem? h1, rfl⟩, fun h => ?_⟩; obtain ⟨⟨i', c⟩, hm, rfl⟩ := List.mem_map.1 h; obtain ⟨k, hk⟩ := List.getElem?_of_mem hm
    exact ⟨k, c, hk, hall k (List.getElem?_eq_some_iff.1 hk).1⟩
  | succ n ih =>
    intro pd fs φ Ss a w listed fuel hpl hnd hlt hfs hs hcl hL hR hfu; obtain ⟨f, rfl⟩ : ∃ f, fuel = f + 1 := ⟨fuel - 1, by omega⟩
    have hidx : ∀ k, k < l.length → ∃ x c, l[k]? = some ((x, c) : Nat × Bool) := fun k hk => ⟨_, _, List.getElem?_eq_getElem hk⟩
    have hxlt : ∀ (k x : Nat) (c : Bool), l[k]? = some ((x, c) : Nat × Bool) → x < ops.length := fun k x c hk => by
      obtain ⟨o, h1, _⟩ := qOk_spec hq k x c hk; exact (List.getElem?_eq_some_iff.1 h1).1
    -- what is pending is not listed
    have hpend : ∀ (k x : Nat) (c : Bool), l[k]? = some ((x, c) : Nat × Bool) → fs k = false → listed.getD x false = false := fun k x c hk hf => by
      cases h : listed.getD x false with
      | false => rfl
      | true =>
        rcases (hL x (hxlt k x c hk)).1 h with h1 | ⟨k', c', h1, h2⟩
        · exact absurd h1 (hdis x (List.mem_map.2 ⟨(x, c), List.mem_of_getElem? hk, rfl⟩))
        · have := hinj k k' x c c' hk h1
          subst this; rw [hf] at h2; cases h2
    have hlisted : ∀ (k x : Nat) (c : Bool), l[k]? = some ((x, c) : Nat × Bool) → listed.getD x false = true → fs k = true := fun k x c hk hx => by
      cases h : fs k with
      | true => rfl
      | false => rw [hpend k x c hk h] at hx; cases hx
    refine ⟨fun h0 => ?_, fun x hx => ?_⟩
    · exfalso
      have hne : pd ≠ [] := fun e => by rw [e] at hpl; cases hpl
      obtain ⟨k0, hk0, hmin⟩ := minOf l.length pd (by
        obtain ⟨k, t, e⟩ := List.exists_cons_of_ne_nil hne
        exact ⟨k, by rw [e]; simp, hlt k (by rw [e]; simp)⟩)
      obtain ⟨x, c, hx⟩ := hidx k0 (hlt k0 hk0); obtain ⟨o, h1, h2, _, _⟩ := qOk_spec hq k0 x c hx
      have : x ∈ Region.ready .any ops.toArray listed := (ready_iff hs).2 ⟨hpend k0 x c hx ((hfs k0 (hlt k0 hk0)).2 hk0), o, h1, fun p hp => by
        rcases h2 p hp with h3 | h3 | ⟨k', c', h3, h4⟩
        · exact (hL p (hD p h3)).2 (.inl h3)
        · simp at h3
        · refine (hL p (hxlt k' p c' h4)).2 (.inr ⟨k', c', h4, ?_⟩)
          cases h5 : fs k' with
          | true => rfl
          | false =>
            have := hmin k' ((hfs k' (List.getElem?_eq_some_iff.1 h4).1).1 h5)
            omega⟩
      rw [h0] at this; cases this
    · obtain ⟨hun, o, ho, hpr⟩ := (ready_iff hs).1 hx
      have hxl : x < ops.length := (List.getElem?_eq_some_iff.1 ho).1
      have hanc : ∀ z ∈ lkT T x, listed.getD z false = true := fun z hz => hcl.ready ho hpr (hT x z hz)
      rcases hcov x hxl with h1 | h1 | h1
      · rw [(hL x hxl).2 (.inl h1)] at hun; cases hun
      · obtain ⟨⟨x', c⟩, hm, rfl⟩ := List.mem_map.1 h1
        obtain ⟨k, hk⟩ := List.getElem?_of_mem hm; have hkl := (List.getElem?_eq_some_iff.1 hk).1
        have hfk : fs k = false := by
          cases h : fs k with
          | false => rfl
          | true => rw [(hL x' hxl).2 (.inr ⟨k, c, hk, h⟩)] at hun; cases hun
        obtain ⟨it, o', e1, e2, e3, e4, e5⟩ := hits k x' c hk; rw [ho] at e2; cases e2; obtain ⟨o2, q1, q2, q3, q4⟩ := qOk_spec hq k x' c hk; rw [ho] at q1; cases q1
        -- what comes later of the text and is done must not come behind
        have hlat : ∀ (k' x2 : Nat) (c2 : Bool), l[k']? = some ((x2, c2) : Nat × Bool) → fs k' = true → x' ∉ lkT T x2 := fun k' x2 c2 h1 h2 hz => by
          have := hcl.anc (hT x2 x' hz) ((hL x2 (hxlt k' x2 c2 h1)).2 (.inr ⟨k', c2, h1, h2⟩))
          rw [hun] at this; cases this
        have hitk : ∀ (k' : Nat) (it' : It), its[k']? = some it' → ∃ x2 c2, l[k']? = some ((x2, c2) : Nat × Bool) ∧ ops[x2]? = some it'.o ∧ (c2 = false → it'.bl = []) := fun k' it' h => by
          have hlt' : k' < l.length := by have := (List.getElem?_eq_some_iff.1 h).1; omega
          obtain ⟨x2, c2, h2⟩ := hidx k' hlt'; obtain ⟨it2, o2, g1, g2, g3, g4, _⟩ := hits k' x2 c2 h2; rw [h] at g1; cases g1; exact ⟨x2, c2, h2, by rw [g3]; exact g2, g4⟩
        -- two of them
        have hpair : ∀ (k' : Nat) (it' : It) (x2 : Nat) (c2 : Bool), its[k']? = some it' → l[k']? = some ((x2, c2) : Nat × Bool) → k' < k → pairOk ops T x' o x2 c2 = true := fun k' it' x2 c2 _ h2 h3 => q4 k' x2 c2 h3 h2
        have hpair2 : ∀ (k' : Nat) (it' : It) (x2 : Nat) (c2 : Bool), its[k']? = some it' → l[k']? = some ((x2, c2) : Nat × Bool) → ops[x2]? = some it'.o → k < k' → pairOk ops T x2 it'.o x' c = true := fun k' it' x2 c2 _ h2 h2' h3 => by
          obtain ⟨o3, g1, _, _, g4⟩ := qOk_spec hq k' x2 c2 h2; rw [h2'] at g1; cases g1; exact g4 k x' c h3 hk
        have hfst : ∀ (k' x2 : Nat) (c2 : Bool), l[k']? = some ((x2, c2) : Nat × Bool) → x2 ∈ lkT T x' → fs k' = true := fun k' x2 c2 h1 h2 => hlisted k' x2 c2 h1 (hanc x2 h2)
        have hmk : c = true → ∀ (k' : Nat) (it' : It), its[k']? = some it' → k < k' → fs k' = false := fun hc k' it' h1 h2 => by
          obtain ⟨x2, c2, h3, h4, _⟩ := hitk k' it' h1; have := hpair2 k' it' x2 c2 h1 h3 h4 h2
          simp only [pairOk, ho, hc, Bool.not_true, Bool.false_and, Bool.or_false, Bool.and_eq_true, List.contains_iff_mem] at this
          cases h5 : fs k' with
          | false => rfl
          | true => exact absurd this.2.2 (hlat k' x2 c2 h3 h5)
        have hds : ops.toArray.toList.map (·.dst) = ops.map (·.dst) := by simp
        have hpre : ∃ lh, (stM its fs st0).heap = (stM its (pre k) st0).heap ++ lh ∧ (c = true → lh = []) := by
          rw [stM_heap, stM_heap]
          have hbefore : ∀ k' it', its[k']? = some it' → k' < k → it'.bl = [] ∨ fs k' = true := fun k' it' h1 h2 => by
            obtain ⟨x2, c2, h3, h4, h5⟩ := hitk k' it' h1; have := hpair k' it' x2 c2 h1 h3 h2
            cases c2 with
            | false => exact .inl (h5 rfl)
            | true =>
              simp only [pairOk, h4, Bool.not_true, Bool.false_and, Bool.or_false, Bool.and_eq_true, List.contains_iff_mem] at this; exact .inr (hfst k' x2 true h3 this.2.2)
          cases hcc : c with
          | true =>
            refine ⟨[], ?_, fun _ => rfl⟩; rw [blM_eq its fs (pre k) fun k' it' h1 => ?_, List.append_nil]; rcases Nat.lt_trichotomy k' k with h2 | h2 | h2
            · rcases hbefore k' it' h1 h2 with h3 | h3
              · exact .inl h3
              · right; rw [h3]; simp [pre, h2]
            · subst h2; right; rw [hfk]; simp [pre]
            · right; rw [hmk hcc k' it' h1 h2]; simp [pre]; omega
          | false =>
            obtain ⟨lh, hl⟩ := blM_pre (k := k) its fs hbefore; exact ⟨lh, by rw [hl, List.append_assoc], fun e => by cases e⟩
        obtain ⟨lh, hp1, hp2⟩ := hpre
        refine q1_sound (ops := ops.toArray) (o := o) (by simpa using ho) (c := c) (env := (stM its (pre k) st0).env) (h := (stM its (pre k) st0).heap) (l := lh) (by rw [hds]; exact e5) (fun t ht => ?_) hp1 hp2 (fun v bl φ' Ss' a' w' _ hJ hR' => ?_) hR
        · refine stM_lk its _ _ st0 st0 (fun k' it' h1 h2 => ?_) rfl
          obtain ⟨x2, c2, h3, h4, h5⟩ := hitk k' it' h1; rcases Nat.lt_trichotomy k' k with h6 | h6 | h6
          · have := hpair k' it' x2 c2 h1 h3 h6
            simp only [pairOk, h4, h2, Bool.and_eq_true, Bool.or_eq_true, List.contains_iff_mem] at this; rcases this.2.2 with h7 | ⟨⟨_, h7⟩, _⟩
            · rw [hfst k' x2 c2 h3 h7]; simp [pre, h6]
            · simp at h7; exact absurd ht h7
          · subst h6; rw [hfk]; simp [pre]
          · have := hpair2 k' it' x2 c2 h1 h3 h4 h6
            simp only [pairOk, ho, h2, Bool.and_eq_true, Bool.or_eq_true, List.contains_iff_mem] at this; have h9 : pre k k' = false := by simp [pre]; omega
            rw [h9]; rcases this.2.2 with h7 | ⟨_, h7⟩
            · cases h8 : fs k' with
              | false => rfl
              | true => exact absurd h7 (hlat k' x2 c2 h3 h8)
            · simp at h7; exact absurd ht h7
        · obtain ⟨rfl, rfl⟩ := hJ
          have hkpd : k ∈ pd := (hfs k hkl).1 hfk
          have hR2 : Rel N w0 B0 φ' Ss' (stM its (setF fs k) st0) a' w' := by
            refine hR'.lkc (fun t => ?_) ?_
            · subst e3
              refine (stM_put its fs st0 e1 hfk fun k' it' h1 h2 d hd => ?_).symm; obtain ⟨x2, c2, h3, h4, h5⟩ := hitk k' it' h1; rcases Nat.lt_or_ge k' k with h6 | h6
              · have := hpair k' it' x2 c2 h1 h3 h6
                simp only [pairOk, h4, hd, Bool.and_eq_true] at this
                simpa using this.2.1
              · have := hpair2 k' it' x2 c2 h1 h3 h4 (by omega)
                simp only [pairOk, ho, hd, Bool.and_eq_true] at this; intro h7; rw [h7] at this
                simpa using this.2.1
            · show (stM its (setF fs k) st0).heap = (stM its fs st0).heap ++ it.bl.map some
              rw [stM_heap, stM_heap, blM_set its fs e1 hfk ?_, List.append_assoc]
              cases hcc : c with
              | false => exact .inl (e4 hcc)
              | true => exact .inr fun k' it' h1 h2 h3 => by rw [hmk hcc k' it' h1 h2] at h3; cases h3
          refine ih (pd.erase k) (setF fs k) φ' Ss' a' w' _ f (by rw [List.length_erase_of_mem hkpd]; omega) (hnd.erase k) (fun k' h => hlt k' (List.mem_of_mem_erase h)) (fun k' hk' => ?_) (by simpa using hs) (hcl.set hs ho hpr) (fun i hi => ?_) hR2 (by omega)
          · rw [hnd.mem_erase_iff]
            unfold setF; split
            · rename_i e; subst e; simp
            · rename_i e
              exact (hfs k' hk').trans ⟨fun h => ⟨e, h⟩, fun h => h.2⟩
          · rw [listed_set hs hxl]
            split
            · rename_i e; subst e
              simp only [true_iff]; exact .inr ⟨k, c, hk, by simp [setF]⟩
            · rename_i e
              refine (hL i hi).trans (or_congr Iff.rfl ⟨fun ⟨k', c', h1, h2⟩ => ⟨k', c', h1, ?_⟩, fun ⟨k', c', h1, h2⟩ => ⟨k', c', h1, ?_⟩⟩)
              · unfold setF; split
                · rfl
                · exact h2
              · unfold setF at h2
                split at h2
                · rename_i e'; subst e'; rw [hk] at h1; cases h1; exact absurd rfl e
                · exact h2
      · have hne : pd ≠ [] := fun e => by rw [e] at hpl; cases hpl
        obtain ⟨k0, t, e⟩ := List.exists_cons_of_ne_nil hne; have hk0 : k0 ∈ pd := by rw [e]; simp
        rcases hlater x h1 with hlx | hlx
        rotate_left
        · exact hlx fs φ Ss a w listed f o ho hpr hun hanc hs hcl hL ⟨pd, hnd, hlt, hfs, by omega⟩ hR
        exfalso; obtain ⟨x0, c0, hx0⟩ := hidx k0 (hlt k0 hk0); have h2 := hanc x0 (hlx x0 (List.mem_map.2 ⟨(x0, c0), List.mem_of_getElem? hx0, rfl⟩))
        rw [hpend k0 x0 c0 hx0 ((hfs k0 (hlt k0 hk0)).2 hk0)] at h2; cases h2
theorem segX_sound {ops : List Oper} {T : List (Nat × List Nat)} {Q : Exit → Act → World → Prop} (hT : TOk ops T) {D : List Nat} {l : List (Nat × Bool)} {r : List PSeg} (hD : ∀ p ∈ D, p < ops.length) (hdis : ∀ x ∈ l.map (·.1), x ∉ D) (hq : qOk ops T D [] l = true)
    (hcov : ∀ x, x < ops.length → x ∈ D ∨ x ∈ l.map (·.1) ∨ x ∈ planIdx r) {its : List It} {st0 : St} {rest : Nat} {pend : Nat → Bool}
    (hlater : ∀ y ∈ planIdx r, ∀ z ∈ l.map (·.1), z ∈ lkT T y) {h9 : Heap} (hlen : its.length = l.length)
    (hits : ∀ (k : Nat) (x : Nat) (c : Bool), l[k]? = some ((x, c) : Nat × Bool) → ∃ it o, its[k]? = some it ∧ ops[x]? = some o ∧ it.o = o ∧ (c = false → it.bl = []) ∧
      Q1 P N (ops.map (·.dst)) c o (stM its (pre k) st0).env (stM its (pre k) st0).heap (fun v bl => v = it.v ∧ bl = it.bl))
    (hfl : ∀ (k : Nat) (x : Nat) (c : Bool) (it : It) (o : Oper), l[k]? = some ((x, c) : Nat × Bool) → its[k]? = some it → ops[x]? = some o → pend k = true → it.bl = [] ∧ Q1 P N (ops.map (·.dst)) false o (stM its (pre k) st0).env h9 (fun v bl => v = it.v ∧ bl = it.bl))
    (next : ∀ φ Ss a w listed fuel, listed.size = ops.length → Closed ops listed → (∀ i, i < ops.length → (listed.getD i false = true ↔ i ∈ D ++ l.map (·.1))) → Rel N w0 B0 φ Ss ⟨(stM its (fun _ => true) st0).env, h9⟩ a w → rest ≤ fuel →
      wpAny P .any ops.toArray Q fuel listed a w) :
    ∀ (n : Nat) (pd : List Nat) (fs : Nat → Bool) (φ : Refs) (Ss : List (List Nat)) (a : Act) (w : World) (listed : Array Bool) (fuel : Nat), pd.length = n → pd.Nodup → (∀ k ∈ pd, k < l.length) → (∀ k, k < l.length → (fs k = false ↔ k ∈ pd)) → (∀ k ∈ pd, pend k = true) →
      listed.size = ops.length → Closed ops listed → (∀ i, i < ops.length → (listed.getD i false = true ↔ i ∈ D ∨ ∃ k c, l[k]? = some ((i, c) : Nat × Bool) ∧ fs k = true)) → Rel N w0 B0 φ Ss ⟨(stM its fs st0).env, h9⟩ a w → n + rest ≤ fuel →
      wpAny P .any ops.toArray Q fuel listed a w := by
  have hinj : ∀ (k k' : Nat) (x : Nat) (c c' : Bool), l[k]? = some ((x, c) : Nat × Bool) → l[k']? = some ((x, c') : Nat × Bool) → k = k' := by
    intro k k' x c c' h1 h2; rcases Nat.lt_trichotomy k k' with hlt | he | hlt
    · obtain ⟨o, _, _, _, h3⟩ := qOk_spec hq k' x c' h2
      have := h3 k x c hlt h1
      simp [pairOk] at this
    · exact he
    · obtain ⟨o, _, _, _, h3⟩ := qOk_spec hq k x c h1
      have := h3 k' x c' hlt h2
      simp [pairOk] at this
  intro n
  induction n with
  | zero =>
    intro pd fs φ Ss a w listed fuel hpl hnd hlt hfs hpp hs hcl hL hR hfu; have hpd : pd = [] := List.eq_nil_of_length_eq_zero hpl
    subst hpd
    have hall : ∀ k, k < l.length → fs k = true := fun k hk => by
      have := hfs k hk
      cases h : fs k with
      | true => rfl
      | false => exact absurd (this.1 h) (by simp)
    refine next φ Ss a w listed fuel hs hcl (fun i hi => (hL i hi).trans ?_) (by rw [← stM_congr its fs (fun _ => true) st0 fun k hk => hall k (by omega)]; exact hR) (by omega)
    rw [List.mem_append]; refine or_congr Iff.rfl ⟨fun ⟨k, c, h1, _⟩ => List.mem_map.2 ⟨(i, c), List.mem_of_getElem? h1, rfl⟩, fun h => ?_⟩; obtain ⟨⟨i', c⟩, hm, rfl⟩ := List.mem_map.1 h; obtain ⟨k, hk⟩ := List.getElem?_of_mem hm
    exact ⟨k, c, hk, hall k (List.getElem?_eq_some_iff.1 hk).1⟩
  | succ n ih =>
    intro pd fs φ Ss a w listed fuel hpl hnd hlt hfs hpp hs hcl hL hR hfu; obtain ⟨f, rfl⟩ : ∃ f, fuel = f + 1 := ⟨fuel - 1, by omega⟩
    have hidx : ∀ k, k < l.length → ∃ x c, l[k]? = some ((x, c) : Nat × Bool) := fun k hk => ⟨_, _, List.getElem?_eq_getElem hk⟩
    have hxlt : ∀ (k x : Nat) (c : Bool), l[k]? = some ((x, c) : Nat × Bool) → x < ops.length := fun k x c hk => by
      obtain ⟨o, h1, _⟩ := qOk_spec hq k x c hk; exact (List.getElem?_eq_some_iff.1 h1).1
    -- what is pending is not listed
    have hpend : ∀ (k x : Nat) (c : Bool), l[k]? = some ((x, c) : Nat × Bool) → fs k = false → listed.getD x false = false := fun k x c hk hf => by
      cases h : listed.getD x false with
      | false => rfl
      | true =>
        rcases (hL x (hxlt k x c hk)).1 h with h1 | ⟨k', c', h1, h2⟩
        · exact absurd h1 (hdis x (List.mem_map.2 ⟨(x, c), List.mem_of_getElem? hk, rfl⟩))
        · have := hinj k k' x c c' hk h1
          subst this; rw [hf] at h2; cases h2
    have hlisted : ∀ (k x : Nat) (c : Bool), l[k]? = some ((x, c) : Nat × Bool) → listed.getD x false = true → fs k = true := fun k x c hk hx => by
      cases h : fs k with
      | true => rfl
      | false => rw [hpend k x c hk h] at hx; cases hx
    refine ⟨fun h0 => ?_, fun x hx => ?_⟩
    · exfalso
      have hne : pd ≠ [] := fun e => by rw [e] at hpl; cases hpl
      obtain ⟨k0, hk0, hmin⟩ := minOf l.length pd (by
        obtain ⟨k, t, e⟩ := List.exists_cons_of_ne_nil hne
        exact ⟨k, by rw [e]; simp, hlt k (by rw [e]; simp)⟩)
      obtain ⟨x, c, hx⟩ := hidx k0 (hlt k0 hk0); obtain ⟨o, h1, h2, _, _⟩ := qOk_spec hq k0 x c hx
      have : x ∈ Region.ready .any ops.toArray listed := (ready_iff hs).2 ⟨hpend k0 x c hx ((hfs k0 (hlt k0 hk0)).2 hk0), o, h1, fun p hp => by
        rcases h2 p hp with h3 | h3 | ⟨k', c', h3, h4⟩
        · exact (hL p (hD p h3)).2 (.inl h3)
        · simp at h3
        · refine (hL p (hxlt k' p c' h4)).2 (.inr ⟨k', c', h4, ?_⟩)
          cases h5 : fs k' with
          | true => rfl
          | false =>
            have := hmin k' ((hfs k' (List.getElem?_eq_some_iff.1 h4).1).1 h5)
            omega⟩
      rw [h0] at this; cases this
    · obtain ⟨hun, o, ho, hpr⟩ := (ready_iff hs).1 hx
      have hxl : x < ops.length := (List.getElem?_eq_some_iff.1 ho).1
      have hanc : ∀ z ∈ lkT T x, listed.getD z false = true := fun z hz => hcl.ready ho hpr (hT x z hz)
      rcases hcov x hxl with h1 | h1 | h1
      · rw [(hL x hxl).2 (.inl h1)] at hun; cases hun
      · obtain ⟨⟨x', c⟩, hm, rfl⟩ := List.mem_map.1 h1
        obtain ⟨k, hk⟩ := List.getElem?_of_mem hm; have hkl := (List.getElem?_eq_some_iff.1 hk).1
        have hfk : fs k = false := by
          cases h : fs k with
          | false => rfl
          | true => rw [(hL x' hxl).2 (.inr ⟨k, c, hk, h⟩)] at hun; cases hun
        obtain ⟨it, o', e1, e2, e3, e4, e5⟩ := hits k x' c hk; rw [ho] at e2; cases e2; obtain ⟨o2, q1, q2, q3, q4⟩ := qOk_spec hq k x' c hk; rw [ho] at q1; cases q1
        -- what comes later of the text and is done must not come behind
        have hlat : ∀ (k' x2 : Nat) (c2 : Bool), l[k']? = some ((x2, c2) : Nat × Bool) → fs k' = true → x' ∉ lkT T x2 := fun k' x2 c2 h1 h2 hz => by
          have := hcl.anc (hT x2 x' hz) ((hL x2 (hxlt k' x2 c2 h1)).2 (.inr ⟨k', c2, h1, h2⟩))
          rw [hun] at this; cases this
        have hitk : ∀ (k' : Nat) (it' : It), its[k']? = some it' → ∃ x2 c2, l[k']? = some ((x2, c2) : Nat × Bool) ∧ ops[x2]? = some it'.o ∧ (c2 = false → it'.bl = []) := fun k' it' h => by
          have hlt' : k' < l.length := by have := (List.getElem?_eq_some_iff.1 h).1; omega
          obtain ⟨x2, c2, h2⟩ := hidx k' hlt'; obtain ⟨it2, o2, g1, g2, g3, g4, _⟩ := hits k' x2 c2 h2; rw [h] at g1; cases g1; exact ⟨x2, c2, h2, by rw [g3]; exact g2, g4⟩
        -- two of them
        have hpair : ∀ (k' : Nat) (it' : It) (x2 : Nat) (c2 : Bool), its[k']? = some it' → l[k']? = some ((x2, c2) : Nat × Bool) → k' < k → pairOk ops T x' o x2 c2 = true := fun k' it' x2 c2 _ h2 h3 => q4 k' x2 c2 h3 h2
        have hpair2 : ∀ (k' : Nat) (it' : It) (x2 : Nat) (c2 : Bool), its[k']? = some it' → l[k']? = some ((x2, c2) : Nat × Bool) → ops[x2]? = some it'.o → k < k' → pairOk ops T x2 it'.o x' c = true := fun k' it' x2 c2 _ h2 h2' h3 => by
          obtain ⟨o3, g1, _, _, g4⟩ := qOk_spec hq k' x2 c2 h2; rw [h2'] at g1; cases g1; exact g4 k x' c h3 hk
        have hfst : ∀ (k' x2 : Nat) (c2 : Bool), l[k']? = some ((x2, c2) : Nat × Bool) → x2 ∈ lkT T x' → fs k' = true := fun k' x2 c2 h1 h2 => hlisted k' x2 c2 h1 (hanc x2 h2)
        have hds : ops.toArray.toList.map (·.dst) = ops.map (·.dst) := by simp
        obtain ⟨hb9, hq9⟩ := hfl k x' c it o hk e1 ho (hpp k ((hfs k hkl).1 hfk))
        refine q1_sound (ops := ops.toArray) (o := o) (by simpa using ho) (c := false) (env := (stM its (pre k) st0).env) (h := h9) (l := []) (by rw [hds]; exact hq9) (fun t ht => ?_) (by simp) (fun e => by cases e) (fun v bl φ' Ss' a' w' _ hJ hR' => ?_) hR
        · refine stM_lk its _ _ st0 st0 (fun k' it' h1 h2 => ?_) rfl
          obtain ⟨x2, c2, h3, h4, h5⟩ := hitk k' it' h1; rcases Nat.lt_trichotomy k' k with h6 | h6 | h6
          · have := hpair k' it' x2 c2 h1 h3 h6
            simp only [pairOk, h4, h2, Bool.and_eq_true, Bool.or_eq_true, List.contains_iff_mem] at this; rcases this.2.2 with h7 | ⟨⟨_, h7⟩, _⟩
            · rw [hfst k' x2 c2 h3 h7]; simp [pre, h6]
            · simp at h7; exact absurd ht h7
          · subst h6; rw [hfk]; simp [pre]
          · have := hpair2 k' it' x2 c2 h1 h3 h4 h6
            simp only [pairOk, ho, h2, Bool.and_eq_true, Bool.or_eq_true, List.contains_iff_mem] at this; have h9 : pre k k' = false := by simp [pre]; omega
            rw [h9]; rcases this.2.2 with h7 | ⟨_, h7⟩
            · cases h8 : fs k' with
              | false => rfl
              | true => exact absurd h7 (hlat k' x2 c2 h3 h8)
            · simp at h7; exact absurd ht h7
        · obtain ⟨rfl, rfl⟩ := hJ
          have hkpd : k ∈ pd := (hfs k hkl).1 hfk
          have hR2 : Rel N w0 B0 φ' Ss' ⟨(stM its (setF fs k) st0).env, h9⟩ a' w' := by
            refine hR'.lkc (fun t => ?_) ?_
            · subst e3
              refine (stM_put its fs st0 e1 hfk fun k' it' h1 h2 d hd => ?_).symm; obtain ⟨x2, c2, h3, h4, h5⟩ := hitk k' it' h1; rcases Nat.lt_or_ge k' k with h6 | h6
              · have := hpair k' it' x2 c2 h1 h3 h6
                simp only [pairOk, h4, hd, Bool.and_eq_true] at this
                simpa using this.2.1
              · have := hpair2 k' it' x2 c2 h1 h3 h4 (by omega)
                simp only [pairOk, ho, hd, Bool.and_eq_true] at this; intro h7; rw [h7] at this
                simpa using this.2.1
            · simp [hb9]
          refine ih (pd.erase k) (setF fs k) φ' Ss' a' w' _ f (by rw [List.length_erase_of_mem hkpd]; omega) (hnd.erase k) (fun k' h => hlt k' (List.mem_of_mem_erase h)) (fun k' hk' => ?_) (fun k' h => hpp k' (List.mem_of_mem_erase h)) (by simpa using hs) (hcl.set hs ho hpr) (fun i hi => ?_) hR2 (by omega)
          · rw [hnd.mem_erase_iff]
            unfold setF; split
            · rename_i e; subst e; simp
            · rename_i e
              exact (hfs k' hk').trans ⟨fun h => ⟨e, h⟩, fun h => h.2⟩
          · rw [listed_set hs hxl]
            split
            · rename_i e; subst e
              simp only [true_iff]; exact .inr ⟨k, c, hk, by simp [setF]⟩
            · rename_i e
              refine (hL i hi).trans (or_congr Iff.rfl ⟨fun ⟨k', c', h1, h2⟩ => ⟨k', c', h1, ?_⟩, fun ⟨k', c', h1, h2⟩ => ⟨k', c', h1, ?_⟩⟩)
              · unfold setF; split
                · rfl
                · exact h2
              · unfold setF at h2
                split at h2
                · rename_i e'; subst e'; rw [hk] at h1; cases h1; exact absurd rfl e
                · exact h2
      · have hne : pd ≠ [] := fun e => by rw [e] at hpl; cases hpl
        obtain ⟨k0, t, e⟩ := List.exists_cons_of_ne_nil hne; have hk0 : k0 ∈ pd := by rw [e]; simp
        have hlx := hlater x h1
        exfalso; obtain ⟨x0, c0, hx0⟩ := hidx k0 (hlt k0 hk0); have h2 := hanc x0 (hlx x0 (List.mem_map.2 ⟨(x0, c0), List.mem_of_getElem? hx0, rfl⟩))
        rw [hpend k0 x0 c0 hx0 ((hfs k0 (hlt k0 hk0)).2 hk0)] at h2; cases h2
def drawXOk (ops : List Oper) (l : List (Nat × Bool)) (i : Nat) (X : List Nat) (r : List PSeg) : Bool :=
  qOk ops (ancT ops (l.map (·.1) ++ i :: planIdx r) []) [] [] l && planOk ops (ancT ops (l.map (·.1) ++ i :: planIdx r) []) (l.map (·.1) ++ [i]) r &&
    X.all (fun x => l.contains (x, false) && match ops[i]?, ops[x]? with | some o, some ox => flOk o ox | _, _ => false) && match ops[i]? with
    | some o => isSt o && (prd o).all (fun p => !X.contains p && (l.map (·.1)).contains p) && decide (i ∉ l.map (·.1)) && (l.map (·.1)).all (fun z => X.contains z || (lkT (ancT ops (l.map (·.1) ++ i :: planIdx r) []) i).contains z)
    | none => false
theorem SW.drawX {id : Nat} {ops : List Oper} {Q : Exit → St → Prop} {st0 : St} (hm : P.follows .mixedOrders = true) (l : List (Nat × Bool)) (i : Nat) (X : List Nat) (r : List PSeg) (hp : drawXOk ops l i X r = true) (hn : l.length + 1 + (planIdx r).length = ops.length)
    (hr0 : runDW P N ops (ops.map (·.dst)) l i r st0 (Q .normal)) : SW P N (.region id ops.toArray true) Q st0 := fun w0 B0 φ0 Ss0 a0 wl hR0 => by
  refine wp_region_any hm ?_
  generalize hTT : ancT ops (l.map (·.1) ++ i :: planIdx r) [] = T at *
  have hT : TOk ops T := by rw [← hTT]; exact ancT_ok _ fun x z hz => by simp [lkT] at hz
  have hR' : Rel N w0 B0 φ0 Ss0 st0 a0 { wl with drawn := wl.drawn + 1 } := hR0.drew _
  have hrep : ∀ i, (Array.replicate ops.length false).getD i false = false := fun i => by
    by_cases hi : i < ops.length
    · simp [hi]
    · simp [hi]
  rw [show ops.toArray.size = ops.length by simp]; unfold drawXOk at hp; rw [hTT] at hp; simp only [Bool.and_eq_true] at hp; obtain ⟨⟨⟨hq, hp3⟩, hxin⟩, hp4⟩ := hp
  cases ho : ops[i]? with
  | none => rw [ho] at hp4; simp at hp4
  | some o =>
  rw [ho] at hp4; simp only [Bool.and_eq_true, decide_eq_true_eq, List.all_eq_true, Bool.or_eq_true, List.contains_iff_mem, Bool.not_eq_true', List.contains_eq_mem, decide_eq_false_iff_not] at hp4 hxin
  obtain ⟨⟨⟨hw, hpo⟩, hinl⟩, hanc⟩ := hp4; unfold runDW at hr0; rw [ho] at hr0; simp only at hr0
  have hfm : ∀ (m : List (Nat × Bool)), (∀ x ∈ m, ∃ o, ops[x.1]? = some o) → (m.filterMap fun x => (ops[x.1]?).map fun o => (x.2, o)).length = m.length ∧
      ∀ (k x : Nat) (c : Bool), m[k]? = some ((x, c) : Nat × Bool) → ∃ o, ops[x]? = some o ∧ (m.filterMap fun x => (ops[x.1]?).map fun o => (x.2, o))[k]? = some (c, o) := by
    intro m
    induction m with
    | nil => intro _; exact ⟨rfl, fun k x c h => by simp at h⟩
    | cons y m ih =>
      intro hm; obtain ⟨o, ho⟩ := hm y (by simp); obtain ⟨i1, i2⟩ := ih fun x hx => hm x (by simp [hx])
      have e : ((y :: m).filterMap fun x => (ops[x.1]?).map fun o => (x.2, o)) = (y.2, o) :: (m.filterMap fun x => (ops[x.1]?).map fun o => (x.2, o)) := by
        rw [List.filterMap_cons, ho]; rfl
      rw [e]; refine ⟨by simp [i1], fun k x c h => ?_⟩
      cases k with
      | zero => simp at h; subst h; exact ⟨o, ho, by simp⟩
      | succ k => simpa using i2 k x c (by simpa using h)
  have hex : ∀ x ∈ l, ∃ o, ops[x.1]? = some o := fun x hx => by
    obtain ⟨k, hk⟩ := List.getElem?_of_mem hx; obtain ⟨o, h1, _⟩ := qOk_spec hq k x.1 x.2 hk; exact ⟨o, h1⟩
  obtain ⟨f1, f2⟩ := hfm l hex; obtain ⟨its, i1, i2, i3⟩ := runQ_its hr0; have hitl : its.length = l.length := i1.trans f1
  have hits : ∀ (k : Nat) (x : Nat) (c : Bool), l[k]? = some ((x, c) : Nat × Bool) → ∃ it o, its[k]? = some it ∧ ops[x]? = some o ∧ it.o = o ∧ (c = false → it.bl = []) ∧
      Q1 P N (ops.map (·.dst)) c o (stM its (pre k) st0).env (stM its (pre k) st0).heap (fun v bl => v = it.v ∧ bl = it.bl) := fun k x c hk => by
    obtain ⟨o, h1, h2⟩ := f2 k x c hk; obtain ⟨it, h3, h4, h5, h6⟩ := i3 k c o h2; exact ⟨it, o, h3, h1, h4, h5, h6⟩
  have hno : ∀ (l : List It) (s : St), stM l (fun _ => false) s = s := fun l => by
    induction l with
    | nil => intro s; rfl
    | cons y l ih => intro s; simp only [stM]; exact ih s
  have hidxlt : ∀ p ∈ l.map (·.1), p < ops.length := fun p hp => by
    obtain ⟨y, hy, rfl⟩ := List.mem_map.1 hp; obtain ⟨o, ho⟩ := hex y hy; exact (List.getElem?_eq_some_iff.1 ho).1
  have hil := (List.getElem?_eq_some_iff.1 ho).1
  have hcov2 : ∀ z, z < ops.length → z ∈ l.map (·.1) ∨ z = i ∨ z ∈ planIdx r := fun z hz => by
    rcases plan_cover hp3 z hz with h | h
    · rcases List.mem_append.1 h with h | h
      · exact .inl h
      · simp at h; exact .inr (.inl h)
    · exact .inr (.inr h)
  have hpl : ∀ z ∈ planIdx r, ∀ y ∈ l.map (·.1) ++ [i], y ∈ lkT T z := fun z hz y hy => plan_later hp3 z hz y hy
  have hend : ∀ (st' : St) φ' Ss' a' w' (listed' : Array Bool) f', listed'.size = ops.length → Closed ops listed' → (∀ j, j < ops.length → (listed'.getD j false = true ↔ j ∈ l.map (·.1) ++ [i])) → Rel N w0 B0 φ' Ss' st' a' w' →
      runD P N ops (ops.map (·.dst)) r st' (Q .normal) → (planIdx r).length ≤ f' → wpAny P .any ops.toArray (QR N w0 B0 Q) f' listed' a' w' := fun st' φ' Ss' a' w' l2 f' h1 h2 h3 h4 h5 h6 =>
    plan_sound hT (K := Q .normal) (fun _ h => h) r (l.map (·.1) ++ [i]) st' φ' Ss' a' w' l2 f' hp3 (fun p hp => by
      rcases List.mem_append.1 hp with h | h
      · exact hidxlt p h
      · simp at h; subst h; exact hil) h1 h2 h3 h4 h5 h6
  have hinj : ∀ (k k' : Nat) (x : Nat) (c c' : Bool), l[k]? = some ((x, c) : Nat × Bool) → l[k']? = some ((x, c') : Nat × Bool) → k = k' := by
    intro k k' x c c' h1 h2; rcases Nat.lt_trichotomy k k' with hlt | he | hlt
    · obtain ⟨o, _, _, _, h3⟩ := qOk_spec hq k' x c' h2
      have := h3 k x c hlt h1
      simp [pairOk] at this
    · exact he
    · obtain ⟨o, _, _, _, h3⟩ := qOk_spec hq k x c h1
      have := h3 k' x c' hlt h2
      simp [pairOk] at this
  have hXk : ∀ k z c, l[k]? = some ((z, c) : Nat × Bool) → z ∈ X → c = false ∧ ∃ o', ops[z]? = some o' ∧ flOk o o' = true := fun k z c hk hz => by
    obtain ⟨h1, h2⟩ := hxin z hz; obtain ⟨k', hk'⟩ := List.getElem?_of_mem h1; have := hinj k k' z c false hk hk'
    subst this; rw [hk] at hk'; cases hk'
    refine ⟨rfl, ?_⟩; split at h2
    · rename_i o1 o' e1 ho'
      rw [ho] at e1; cases e1; exact ⟨o', ho', h2⟩
    · cases h2
  refine segY_sound (D := []) (r := .b i :: r) (rest := 1 + (planIdx r).length) hT (by simp) (by simp) hq (fun z hz => ?_) (fun y hy => ?_) hitl hits
    (fun φ' Ss' a' w' listed' fuel' hs' hcl' hL' hR' hf' => ?_)
    l.length (List.range l.length) (fun _ => false) φ0 Ss0 a0 _ _ _ (by simp) List.nodup_range (fun k hk => by simpa using hk) (fun k hk => by simp [hk]) (by simp) (fun y o hy => by rw [hrep] at hy; cases hy) (fun i hi => by rw [hrep]; simp) (by rw [hno]; exact hR') (by omega)
  · rcases hcov2 z hz with h | h | h
    · exact .inr (.inl h)
    · subst h; exact .inr (.inr (by simp [planIdx, PSeg.idx]))
    · exact .inr (.inr (by simp only [planIdx, List.map_cons, List.flatten_cons, PSeg.idx, List.mem_append]; exact .inr h))
  · have hy' : y = i ∨ y ∈ planIdx r := by simpa [planIdx, PSeg.idx] using hy
    rcases hy' with rfl | hy'
    rotate_left
    · exact .inl fun z hz => hpl y hy' z (List.mem_append_left _ hz)
    refine .inr fun fs φ' Ss' a' w' listed' f oy hoy hpy huy hay hs' hcl' hL' hpend hR' => ?_; obtain ⟨pd, hpd1, hpd2, hpd3, hf'⟩ := hpend; rw [ho] at hoy; cases hoy
    have hL2 : ∀ j, j < ops.length → (listed'.getD j false = true ↔ ∃ k c, l[k]? = some ((j, c) : Nat × Bool) ∧ fs k = true) := fun j hj => by
      rw [hL' j hj]; simp
    have hidx : ∀ k, k < l.length → ∃ z c, l[k]? = some ((z, c) : Nat × Bool) := fun k hk => ⟨_, _, List.getElem?_eq_getElem hk⟩
    have hdone : ∀ k z c, l[k]? = some ((z, c) : Nat × Bool) → z ∉ X → fs k = true := fun k z c hz hzx => by
      have hzm : z ∈ l.map (·.1) := List.mem_map.2 ⟨(z, c), List.mem_of_getElem? hz, rfl⟩
      have hzT : z ∈ lkT T y := by
        rcases hanc z hzm with h | h
        · exact absurd h hzx
        · exact h
      obtain ⟨k', c', h1, h2⟩ := (hL2 z (hidxlt z hzm)).1 (hay z hzT); have := hinj k k' z c c' hz h1
      subst this; exact h2
    have hitk : ∀ (k' : Nat) (it' : It), its[k']? = some it' → ∃ x2 c2, l[k']? = some ((x2, c2) : Nat × Bool) ∧ ops[x2]? = some it'.o ∧ (c2 = false → it'.bl = []) := fun k' it' h => by
      have hlt' : k' < l.length := by have := (List.getElem?_eq_some_iff.1 h).1; omega
      obtain ⟨x2, c2, h2⟩ := hidx k' hlt'; obtain ⟨it2, o2, g1, g2, g3, g4, _⟩ := hits k' x2 c2 h2; rw [h] at g1; cases g1; exact ⟨x2, c2, h2, by rw [g3]; exact g2, g4⟩
    have hlkS : ∀ t, t ∈ stT o → lk (stM its fs st0).env t = lk (stM its (fun _ => true) st0).env t := fun t ht => by
      refine stM_lk its _ _ st0 st0 (fun k it h1 h2 => ?_) rfl; obtain ⟨x2, c2, h3, h4, _⟩ := hitk k it h1; by_cases hx : x2 ∈ X
      · obtain ⟨_, o', g1, g2⟩ := hXk k x2 c2 h3 hx
        rw [h4] at g1; cases g1; exact absurd h2 (flOk_dst g2 ht)
      · exact hdone k x2 c2 h3 hx
    have hheap : (stM its fs st0).heap = (stM its (fun _ => true) st0).heap := by
      rw [stM_heap, stM_heap]
      congr 1
      refine blM_eq its _ _ fun k it h1 => ?_; obtain ⟨x2, c2, h3, h4, h5⟩ := hitk k it h1; by_cases hx : x2 ∈ X
      · exact .inl (h5 (hXk k x2 c2 h3 hx).1)
      · exact .inr (hdone k x2 c2 h3 hx)
    have hJ2 := x_store hw i2 hlkS hheap
    have hds : ops.toArray.toList.map (·.dst) = ops.map (·.dst) := by simp
    refine stepA_sound (ops := ops.toArray) (o := o) (by simpa using ho) (fun st' φ2 Ss2 a2 w2 hJ3 hR2 => ?_) hR' (by rw [hds]; exact hJ2); obtain ⟨h9, rfl, hJ4, hh9⟩ := hJ3
    refine segX_sound (P := P) (N := N) (w0 := w0) (B0 := B0) (its := its) (st0 := st0) (h9 := h9) (D := [y]) (l := l) (r := r) (rest := (planIdx r).length) (pend := fun k => !fs k) hT (fun p hp => by simp at hp; subst hp; exact hil) (fun z hz e => by simp at e; subst e; exact hinl hz) (qOk_more hq) (fun z hz => ?_) (fun z hz v hv => hpl z hz v (List.mem_append_left _ hv)) hitl hits (fun k z c it o' h1 h2 h3 h4 => ?_)
      (fun φ3 Ss3 a3 w3 l3 f3 g1 g2 g3 g4 g5 => hend ⟨(stM its (fun _ => true) st0).env, h9⟩ φ3 Ss3 a3 w3 l3 f3 g1 g2 (fun j hj => (g3 j hj).trans (by simp [or_comm])) g4 hJ4 g5)
      pd.length pd fs φ2 Ss2 a2 w2 _ f rfl hpd1 hpd2 hpd3 (fun k hk => by simp [(hpd3 k (hpd2 k hk)).2 hk]) (by simpa using hs') (hcl'.set hs' ho hpy) (fun j hj => ?_) hR2 ?_
    · rcases hcov2 z hz with h | h | h
      · exact .inr (.inl h)
      · exact .inl (by simp [h])
      · exact .inr (.inr h)
    · have hz : z ∈ X := by
        by_cases hz : z ∈ X
        · exact hz
        · rw [hdone k z c h1 hz] at h4; cases h4
      obtain ⟨hc, o2, g1, g2⟩ := hXk k z c h1 hz; subst hc; rw [h3] at g1; cases g1; obtain ⟨it2, o3, d1, d2, d3, d4, d5⟩ := hits k z false h1; rw [h2] at d1; cases d1; rw [h3] at d2; cases d2
      refine ⟨d4 rfl, flOk_q1 g2 d5 fun id b hb => ?_⟩
      have : hb' (stM its (fun _ => true) st0).heap id = some b := by
        have hle : ∃ lh, (stM its (fun _ => true) st0).heap = (stM its (pre k) st0).heap ++ lh := by
          rw [stM_heap, stM_heap]; obtain ⟨lh, hlh⟩ := blM_pre (k := k) its (fun _ => true) (fun k' it' _ _ => .inr rfl); exact ⟨lh, by rw [hlh, List.append_assoc]⟩
        obtain ⟨lh, hlh⟩ := hle; rw [hlh]; have h5 := hb_spec hb
        unfold hb'
        rw [show HK.hb ((stM its (pre k) st0).heap ++ lh) id = HK.hb (stM its (pre k) st0).heap id from by
          unfold HK.hb
          rw [List.getElem?_append_left (List.getElem?_eq_some_iff.1 h5).1]]
        exact hb
      exact hh9 id b this
    · rw [listed_set hs' hil]
      split
      · rename_i e; subst e; simp
      · rename_i e
        rw [hL2 j hj]; simp [e]
    · omega
  · obtain ⟨f', rfl⟩ : ∃ f', fuel' = f' + 1 := ⟨fuel' - 1, by omega⟩
    refine b_step hT (D := l.map (·.1)) (L := planIdx r) ho hinl (fun p hp => (hpo p hp).2) hidxlt (fun z hz => hcov2 z hz) (fun z hz => hpl z hz i (List.mem_append_right _ (by simp))) hs' hcl' (fun j hj => by rw [hL' j hj]; simp) hR' i2 (fun st3 φ3 Ss3 a3 w3 l3 h1 h2 h3 h4 h5 => hend st3 φ3 Ss3 a3 w3 l3 f' h1 h2 h3 h4 h5 (by omega))
theorem SW.drawXK {id : Nat} {l : List Oper} {y : Code} {Q : Exit → St → Prop} {st : St} (hm : P.follows .mixedOrders = true) (q : List (Nat × Bool)) (i : Nat) (X : List Nat) (r : List PSeg) (hp : drawXOk l q i X r = true) (hn : q.length + 1 + (planIdx r).length = l.length)
    (h : ∀ K : St → Prop, (∀ st, SW P N y Q st → K st) → runDW P N l (l.map (·.dst)) q i r st K) : SW P N (.seq (.region id l.toArray true) y) Q st :=
  SW.seq (SW.drawX hm q i X r hp hn (h _ fun _ h => h))
end
end HK
