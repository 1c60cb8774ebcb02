/-
  My own text (road H): HK16.
-/
import Derived.Test.YtflanhfpjgcfbaaHK15
namespace HK
open Go

/-! ### what a value reads as -/
def viewN (h : Heap) : Nat → AV → AV
  | 0, _ => .undef
  | d + 1, v => match v with
    | .sl id off len => match hb h id with
      | some b => if off + len ≤ b.es.length then .fz (((b.es.drop off).take len).map (List.map (viewN h d))) else .undef
      | none => .undef
    | .own _ es => .fz (es.map (List.map (viewN h d)))
    | .agg cs => .agg (cs.map (viewN h d))
    | .tup cs => .tup (cs.map (viewN h d))
    | .fn f first cap => .fn f (first.map (viewN h d)) (cap.map (viewN h d))
    | .ptr _ _ _ => .undef
    | .cond _ _ => .undef
    | v => v

theorem map_flatten_uni {sz : Nat} {es : List (List AV)} (hu : ∀ e ∈ es, e.length = sz) (f : AV → AV) : (∀ e ∈ es.map (List.map f), e.length = sz) := by
  intro e he
  obtain ⟨x, hx, rfl⟩ := List.mem_map.1 he
  rw [List.length_map]; exact hu x hx

section
variable {w : World} {own own2 : Nat → Prop} {φ0 : Refs} {h : Heap} {Ss : List (List Nat)}
theorem cr_map_view {f : AV → AV} {φ : Refs} (hf : ∀ v x F, VR w own φ v x F → (∀ b ∈ F, ¬ own2 b) → VR w own2 nof (f v) x []) : ∀ {cs : List AV} {vs : List Value} {S : List Nat}, CR w own φ cs vs S → (∀ b ∈ S, ¬ own2 b) → CR w own2 nof (cs.map f) vs []
  | [], _, _, k, _ => by cases k; exact .nil
  | c :: cs, _, _, k, hS => by
    obtain ⟨v, us, S1, S2, rfl, rfl, k1, k2⟩ := k.uncons
    have := CR.cons _ _ _ _ _ _ (hf _ _ _ k1 (fun b hb => hS b (List.mem_append_left _ hb))) (cr_map_view hf k2 (fun b hb => hS b (List.mem_append_right _ hb)))
    simpa using this
theorem view_sound (ho : ∀ b, own2 b → own b) (hh : HR w own φ0 h Ss) (hd : ∀ (id : Nat) S, (∃ b, h[id]? = some (some b)) → Ss[id]? = some S → ∀ b ∈ S, ¬ own2 b) :
    ∀ (d : Nat) {φ : Refs} (v : AV) (x : Value) (F : List Nat), (∀ id r, φ id = some r → φ0 id = some r) → VR w own φ v x F → (∀ b ∈ F, ¬ own2 b) → VR w own2 nof (viewN h d v) x []
  | 0, _, v, x, F, _, _, _ => .undef _
  | d + 1, φ, v, x, F, hφ, k, hF => by
    have ih : ∀ {φ : Refs} (v : AV) (x : Value) (F : List Nat), (∀ id r, φ id = some r → φ0 id = some r) → VR w own φ v x F → (∀ b ∈ F, ¬ own2 b) → VR w own2 nof (viewN h d v) x [] := fun v x F => view_sound ho hh hd d v x F
    have ihl : ∀ {φ : Refs} {cs : List AV} {vs : List Value} {S : List Nat}, (∀ id r, φ id = some r → φ0 id = some r) → CR w own φ cs vs S → (∀ b ∈ S, ¬ own2 b) → CR w own2 nof (cs.map (viewN h d)) vs [] :=
      fun hφ k hS => cr_map_view (fun v x F k hF => ih v x F hφ k hF) k hS
    cases k with
    | undef _ => exact .undef _
    | nil _ => exact .nil _
    | bool _ => exact .bool _
    | int _ _ => exact .int _ _
    | str _ => exact .str _
    | con _ => exact .con _
    | fz0 _ _ => exact .fz0 _ _
    | fz es sz A cap vs hlt hno hu hcap hs hc =>
      exact .fz es sz A cap vs hlt (fun hb => hno (ho _ hb)) hu hcap hs (hc.tr (fun b _ hb => ⟨fun hb' => hb (ho _ hb'), rfl⟩) (Nat.le_refl _) (fun _ _ e => e) (fun _ _ => rfl))
    | own0 _ _ => exact .fz0 _ _
    | own es sz rb o cap lim vs S hr hu hcap hlim hs hc =>
      simp only [viewN]
      have h2 := ihl (fun _ _ e => by cases e) hc (fun b hb => hF b (List.mem_cons_of_mem _ hb))
      rw [List.map_flatten] at h2
      obtain ⟨c, T, hrow, -⟩ := hr
      have := VR.fz (w := w) (own := own2) (φ := nof) (es.map (List.map (viewN h d))) sz ⟨rb, o, none⟩ cap vs (Array.getElem?_eq_some_iff.1 hrow).1 (hF rb (List.mem_cons_self ..)) (map_flatten_uni hu _) (by simpa using hcap) hs h2
      simpa using this
    | sl0 id off r A hr =>
      simp only [viewN]
      split
      · split
        · simp only [List.take_zero, List.map_nil]; exact .fz0 _ _
        · exact .undef _
      · exact .undef _
    | sl id off len cap r hr hcap hlim =>
      simp only [viewN]
      cases hb' : hb h id with
      | none => exact .undef _
      | some b =>
        simp only []
        split
        · rename_i hle
          obtain ⟨S, hS, hB⟩ := hh id b (hb_spec hb')
          rcases hB with ⟨h1, _, _⟩ | ⟨r', vs, T, h1, h2, h3, h4, h5, h6, h7, rfl⟩
          · rw [hφ _ _ hr] at h1; cases h1
          · rw [hφ _ _ hr] at h1; cases h1
            have hdis := hd id _ ⟨b, hb_spec hb'⟩ hS
            obtain ⟨f1, f2, f3, f4⟩ := es_part h4 hle
            rw [f1] at h7
            obtain ⟨v1, v2', S1, S2', rfl, rfl, c1, c2⟩ := h7.split
            obtain ⟨v2, v3, S2, S3, rfl, rfl, c2, c3⟩ := c2.split
            have k2 := ihl (fun _ _ e => e) c2 (fun b hb => hdis b (by simp [hb]))
            rw [List.map_flatten] at k2
            have hseg := seg_mid h6
            rw [add_row, ← c1.length, f2, ← h2] at hseg
            obtain ⟨c, ty, hrow, -⟩ := h3
            have := VR.fz (w := w) (own := own2) (φ := nof) (((b.es.drop off).take len).map (List.map (viewN h d))) b.sz ⟨r.rb, r.base + off * r.sz, none⟩ cap v2 (Array.getElem?_eq_some_iff.1 hrow).1 (hdis r.rb (List.mem_cons_self ..))
              (map_flatten_uni (fun e he => h4 e (List.mem_of_mem_drop (List.mem_of_mem_take he))) _) (by rw [List.length_map, f4]; exact hcap) hseg k2
            rw [List.length_map, f4] at this
            exact this
        · exact .undef _
    | ptr _ _ _ _ _ => exact .undef _
    | fptr es sz A vs i j hlt hno hu hs hc =>
      exact .fptr es sz A vs i j hlt (fun hb => hno (ho _ hb)) hu hs (hc.tr (fun b _ hb => ⟨fun hb' => hb (ho _ hb'), rfl⟩) (Nat.le_refl _) (fun _ _ e => e) (fun _ _ => rfl))
    | agg cs vs S hc => exact .agg _ _ _ (ihl hφ hc hF)
    | tup cs vs S hc => exact .tup _ _ _ (ihl hφ hc hF)
    | fn f first cap fs cs hc hc' => exact .fn f _ _ _ _ (ihl hφ hc (fun _ hb => by cases hb)) (ihl hφ hc' (fun _ hb => by cases hb))
    | condT _ _ _ _ => exact .undef _
    | condF _ => exact .undef _
end

/-! ### contracts -/
/-- It is a Go function with a body. -/
def Enter (P : Program) (f : FuncId) : Prop := ∃ fn, P.funcs[f]? = some fn ∧ ¬ fn.name = "runtime.NumGoroutine" ∧ ¬ fn.body = none
/-- The function, called with values that read so, comes back with this, new; nothing that was there has turned. -/
def Fn (P : Program) (f : FuncId) (args : List AV) (out : AV) : Prop := Enter P f ∧ ∀ (w : World) (vs : List Value), CR w (fun _ => False) nof args vs [] →
  Calls P f vs.toArray w fun e w' => ∃ v S, e = .returned v ∧ VR w' (fun _ => True) nof out v S ∧ S.Nodup ∧ (∀ b ∈ S, w.heap.size ≤ b ∧ b < w'.heap.size) ∧ Fr w [] w'

/-! ### results -/
/-- Cells of a result, the slices under names from n on. -/
def impC : Nat → List AV → List AV × List Blk
  | _, [] => ([], [])
  | n, .own sz es :: l => (.sl n 0 es.length :: (impC (n + 1) l).1, ⟨sz, es⟩ :: (impC (n + 1) l).2)
  | n, v :: l => (v :: (impC n l).1, (impC n l).2)
def impT : Nat → List AV → List AV × List Blk
  | _, [] => ([], [])
  | n, .agg cs :: l => (.agg (impC n cs).1 :: (impT (n + (impC n cs).2.length) l).1, (impC n cs).2 ++ (impT (n + (impC n cs).2.length) l).2)
  | n, .own sz es :: l => (.sl n 0 es.length :: (impT (n + 1) l).1, ⟨sz, es⟩ :: (impT (n + 1) l).2)
  | n, v :: l => (v :: (impT n l).1, (impT n l).2)
def imp (n : Nat) : AV → AV × List Blk
  | .tup vs => (.tup (impT n vs).1, (impT n vs).2)
  | .agg cs => (.agg (impC n cs).1, (impC n cs).2)
  | .own sz es => (.sl n 0 es.length, [⟨sz, es⟩])
  | v => (v, [])

/-- Names from n on stand for rs. -/
def Named (φ : Refs) (n : Nat) (rs : List (Option Ref)) : Prop := ∀ k r, rs[k]? = some r → φ (n + k) = some r
theorem Named.left {φ : Refs} {n : Nat} {rs rs' : List (Option Ref)} (h : Named φ n (rs ++ rs')) : Named φ n rs := fun k r hk => h k r (by rw [List.getElem?_append_left (List.getElem?_eq_some_iff.1 hk).1]; exact hk)
theorem Named.right {φ : Refs} {n : Nat} {rs rs' : List (Option Ref)} (h : Named φ n (rs ++ rs')) : Named φ (n + rs.length) rs' := fun k r hk => by
  rw [Nat.add_assoc]; exact h _ r (by rw [List.getElem?_append_right (by omega), Nat.add_sub_cancel_left]; exact hk)

/-- The blocks bs, under names from n on, are real; their footprints are Sk. -/
def BRs (w : World) (own : Nat → Prop) (φ : Refs) (n : Nat) (bs : List Blk) (Sk : List (List Nat)) : Prop := ∀ (k : Nat) b, bs[k]? = some b → ∃ S, Sk[k]? = some S ∧ BR w own φ (n + k) b S
theorem BRs.app {w : World} {own : Nat → Prop} {φ : Refs} {n : Nat} {bs bs' : List Blk} {Sk Sk' : List (List Nat)} (h : BRs w own φ n bs Sk) (hl : bs.length = Sk.length) (h' : BRs w own φ (n + bs.length) bs' Sk') : BRs w own φ n (bs ++ bs') (Sk ++ Sk') := by
  intro k b hk
  by_cases hlt : k < bs.length
  · rw [List.getElem?_append_left hlt] at hk
    obtain ⟨S, h1, h2⟩ := h k b hk
    exact ⟨S, by rw [List.getElem?_append_left (by omega)]; exact h1, h2⟩
  · rw [List.getElem?_append_right (by omega)] at hk
    obtain ⟨S, h1, h2⟩ := h' _ b hk
    refine ⟨S, by rw [List.getElem?_append_right (by omega), ← hl]; exact h1, ?_⟩
    rwa [show n + bs.length + (k - bs.length) = n + k by omega] at h2

section
variable {w : World} {own : Nat → Prop}
theorem own_imp {sz : Nat} {es : List (List AV)} {x : Value} {S : List Nat} (h : VR w own nof (.own sz es) x S) : ∃ r : Option Ref, ∀ (φ : Refs) (n : Nat), φ n = some r → VR w own φ (.sl n 0 es.length) x [] ∧ BR w own φ n ⟨sz, es⟩ S := by
  cases h with
  | own0 _ A => exact ⟨none, fun φ n hn => ⟨.sl0 _ _ _ _ hn, .inl ⟨hn, rfl, rfl⟩⟩⟩
  | own _ _ rb o cap lim vs S hr hu hcap hlim hs hc =>
    refine ⟨some ⟨rb, o, lim, sz⟩, fun φ n hn => ⟨?_, .inr ⟨_, vs, S, hn, rfl, hr, hu, ?_, hs, hc.up, rfl⟩⟩⟩
    · have := VR.sl (w := w) (own := own) n 0 es.length cap _ hn hcap (by simpa using hlim)
      simpa using this
    · have := Nat.mul_le_mul_right sz hcap
      simp only; omega
def isOwn : AV → Bool
  | .own _ _ => true
  | _ => false
def okC (cs : List AV) : Bool := cs.all fun c => isOwn c || plain c
def okT (cs : List AV) : Bool := cs.all fun c => match c with | .agg l => okC l | c => isOwn c || plain c
def okI : AV → Bool
  | .tup vs => okT vs
  | .agg cs => okC cs
  | c => isOwn c || plain c
theorem impC_other {n : Nat} {c : AV} (h : isOwn c = false) (cs : List AV) : impC n (c :: cs) = (c :: (impC n cs).1, (impC n cs).2) := by
  cases c <;> first | rfl | simp [isOwn] at h
theorem Named.tail {φ : Refs} {n : Nat} {r : Option Ref} {rs : List (Option Ref)} (h : Named φ n (r :: rs)) : φ n = some r ∧ Named φ (n + 1) rs :=
  ⟨by simpa using h 0 r rfl, fun k x hk => by
    have := h (k + 1) x (by simpa using hk)
    rwa [show n + (k + 1) = n + 1 + k by omega] at this⟩
theorem BRs.one {φ : Refs} {n : Nat} {b : Blk} {S : List Nat} (h : BR w own φ n b S) : BRs w own φ n [b] [S] := by
  intro k b' hk
  cases k with
  | zero => simp at hk; subst hk; exact ⟨S, rfl, h⟩
  | succ k => simp at hk
theorem BRs.nil {φ : Refs} {n : Nat} : BRs w own φ n [] [] := fun k b hk => by simp at hk
theorem impC_sound : ∀ {cs : List AV} {xs : List Value} {S : List Nat} (n : Nat), CR w own nof cs xs S → okC cs = true → ∃ (rs : List (Option Ref)) (Sk : List (List Nat)), rs.length = (impC n cs).2.length ∧ Sk.length = (impC n cs).2.length ∧ Sk.flatten = S ∧
    ∀ φ, Named φ n rs → CR w own φ (impC n cs).1 xs [] ∧ BRs w own φ n (impC n cs).2 Sk
  | [], _, _, n, h, _ => by
    cases h
    exact ⟨[], [], rfl, rfl, by simp, fun φ _ => ⟨.nil, .nil⟩⟩
  | c :: cs, _, _, n, h, hok => by
    obtain ⟨v, us, S1, S2, rfl, rfl, h1, h2⟩ := h.uncons
    simp only [okC, List.all_cons, Bool.and_eq_true] at hok
    cases ho : isOwn c with
    | true =>
      obtain ⟨sz, es, rfl⟩ : ∃ sz es, c = .own sz es := by cases c <;> simp [isOwn] at ho; exact ⟨_, _, rfl⟩
      obtain ⟨rs, Sk, e1, e2, e3, e4⟩ := impC_sound (n + 1) h2 hok.2
      obtain ⟨r, hr⟩ := own_imp h1
      refine ⟨r :: rs, S1 :: Sk, by simp [impC, e1], by simp [impC, e2], by simp [e3], fun φ hn => ?_⟩
      obtain ⟨hn0, hn'⟩ := hn.tail
      obtain ⟨k1, k2⟩ := hr φ n hn0
      obtain ⟨k3, k4⟩ := e4 φ hn'
      exact ⟨CR.cons _ _ _ _ _ _ k1 k3, (BRs.one k2).app rfl k4⟩
    | false =>
      have hp : plain c = true := by simpa [ho] using hok.1
      have := plain_nil h1 hp
      subst this
      obtain ⟨rs, Sk, e1, e2, e3, e4⟩ := impC_sound n h2 hok.2
      rw [impC_other ho]
      refine ⟨rs, Sk, e1, e2, by simpa using e3, fun φ hn => ?_⟩
      obtain ⟨k3, k4⟩ := e4 φ hn
      exact ⟨CR.cons _ _ _ _ _ _ h1.up k3, k4⟩
theorem impT_sound : ∀ {cs : List AV} {xs : List Value} {S : List Nat} (n : Nat), CR w own nof cs xs S → okT cs = true → ∃ (rs : List (Option Ref)) (Sk : List (List Nat)), rs.length = (impT n cs).2.length ∧ Sk.length = (impT n cs).2.length ∧ Sk.flatten = S ∧
    ∀ φ, Named φ n rs → CR w own φ (impT n cs).1 xs [] ∧ BRs w own φ n (impT n cs).2 Sk
  | [], _, _, n, h, _ => by
    cases h
    exact ⟨[], [], rfl, rfl, by simp, fun φ _ => ⟨.nil, .nil⟩⟩
  | c :: cs, _, _, n, h, hok => by
    obtain ⟨v, us, S1, S2, rfl, rfl, h1, h2⟩ := h.uncons
    simp only [okT, List.all_cons, Bool.and_eq_true] at hok
    by_cases ha : ∃ l, c = .agg l
    · obtain ⟨l, rfl⟩ := ha
      cases h1 with
      | agg _ vs _ hl =>
        obtain ⟨rs1, Sk1, d1, d2, d3, d4⟩ := impC_sound n hl hok.1
        obtain ⟨rs, Sk, e1, e2, e3, e4⟩ := impT_sound (n + (impC n l).2.length) h2 hok.2
        refine ⟨rs1 ++ rs, Sk1 ++ Sk, by simp [impT, e1, d1], by simp [impT, e2, d2], by simp [e3, d3], fun φ hn => ?_⟩
        obtain ⟨k1, k2⟩ := d4 φ hn.left
        obtain ⟨k3, k4⟩ := e4 φ (by rw [← d1]; exact hn.right)
        exact ⟨CR.cons _ _ _ _ _ _ (.agg _ _ _ k1) k3, k2.app d2.symm k4⟩
    · have hok1 : (isOwn c || plain c) = true := by
        have := hok.1
        split at this
        · rename_i l; exact absurd ⟨l, rfl⟩ ha
        · exact this
      cases ho : isOwn c with
      | true =>
        obtain ⟨sz, es, rfl⟩ : ∃ sz es, c = .own sz es := by cases c <;> simp [isOwn] at ho; exact ⟨_, _, rfl⟩
        obtain ⟨rs, Sk, e1, e2, e3, e4⟩ := impT_sound (n + 1) h2 hok.2
        obtain ⟨r, hr⟩ := own_imp h1
        refine ⟨r :: rs, S1 :: Sk, by simp [impT, e1], by simp [impT, e2], by simp [e3], fun φ hn => ?_⟩
        obtain ⟨hn0, hn'⟩ := hn.tail
        obtain ⟨k1, k2⟩ := hr φ n hn0
        obtain ⟨k3, k4⟩ := e4 φ hn'
        exact ⟨CR.cons _ _ _ _ _ _ k1 k3, (BRs.one k2).app rfl k4⟩
      | false =>
        have hp : plain c = true := by simpa [ho] using hok1
        have := plain_nil h1 hp
        subst this
        obtain ⟨rs, Sk, e1, e2, e3, e4⟩ := impT_sound n h2 hok.2
        have hI : impT n (c :: cs) = (c :: (impT n cs).1, (impT n cs).2) := by
          cases c <;> first | rfl | exact (ha ⟨_, rfl⟩).elim | (simp [isOwn] at ho; done)
        rw [hI]
        refine ⟨rs, Sk, e1, e2, by simpa using e3, fun φ hn => ?_⟩
        obtain ⟨k3, k4⟩ := e4 φ hn
        exact ⟨CR.cons _ _ _ _ _ _ h1.up k3, k4⟩
theorem imp_sound {v : AV} {x : Value} {S : List Nat} (n : Nat) (h : VR w own nof v x S) (hok : okI v = true) : ∃ (rs : List (Option Ref)) (Sk : List (List Nat)), rs.length = (imp n v).2.length ∧ Sk.length = (imp n v).2.length ∧ Sk.flatten = S ∧
    ∀ φ, Named φ n rs → VR w own φ (imp n v).1 x [] ∧ BRs w own φ n (imp n v).2 Sk := by
  by_cases ha : ∃ l, v = .agg l
  · obtain ⟨l, rfl⟩ := ha
    cases h with
    | agg _ vs _ hl =>
      obtain ⟨rs, Sk, d1, d2, d3, d4⟩ := impC_sound n hl hok
      exact ⟨rs, Sk, d1, d2, d3, fun φ hn => ⟨.agg _ _ _ (d4 φ hn).1, (d4 φ hn).2⟩⟩
  · by_cases hb : ∃ l, v = .tup l
    · obtain ⟨l, rfl⟩ := hb
      cases h with
      | tup _ vs _ hl =>
        obtain ⟨rs, Sk, d1, d2, d3, d4⟩ := impT_sound n hl hok
        exact ⟨rs, Sk, d1, d2, d3, fun φ hn => ⟨.tup _ _ _ (d4 φ hn).1, (d4 φ hn).2⟩⟩
    · cases ho : isOwn v with
      | true =>
        obtain ⟨sz, es, rfl⟩ : ∃ sz es, v = .own sz es := by cases v <;> simp [isOwn] at ho; exact ⟨_, _, rfl⟩
        obtain ⟨r, hr⟩ := own_imp h
        refine ⟨[r], [S], rfl, rfl, by simp, fun φ hn => ?_⟩
        obtain ⟨k1, k2⟩ := hr φ n hn.tail.1
        exact ⟨k1, .one k2⟩
      | false =>
        have hok1 : (isOwn v || plain v) = true := by
          cases v <;> first | exact hok | exact (ha ⟨_, rfl⟩).elim | exact (hb ⟨_, rfl⟩).elim | (simp [isOwn] at ho; done)
        have hp : plain v = true := by simpa [ho] using hok1
        have := plain_nil h hp
        subst this
        have hI : imp n v = (v, []) := by cases v <;> first | rfl | exact (ha ⟨_, rfl⟩).elim | exact (hb ⟨_, rfl⟩).elim | (simp [isOwn] at ho; done)
        rw [hI]
        exact ⟨[], [], rfl, rfl, rfl, fun φ _ => ⟨h.up, .nil⟩⟩
end
end HK
