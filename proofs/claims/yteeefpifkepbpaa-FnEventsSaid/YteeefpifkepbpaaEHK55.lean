import Derived.Test.YteeefpifkepbpaaEHK54
/-
  My own texts (road H): HK55.
-/
set_option linter.unusedVariables false
set_option linter.unusedSimpArgs false
namespace HK
open Go Go.RowKit
section
variable {P : Program} {ks : List Tmp} {val : Tmp → Value}
def KT (ks : List Tmp) (val : Tmp → Value) (a : Act) : Prop := ∀ d ∈ ks, a.tmps.getD d Go.undef = val d
theorem KT.put {a : Act} (h : KT ks val a) {d : Option Tmp} (hd : ∀ k ∈ ks, d ≠ some k) (x : Value) : KT ks val (a.put d x) := fun k hk => by
  rw [← h k hk]
  cases d with
  | none => rfl
  | some e =>
    have : e ≠ k := fun c => hd k hk (by rw [c])
    simp [Act.put, Array.getD_eq_getD_getElem?, Array.getElem?_setIfInBounds_ne this]
theorem wp_keepOp {o : Oper} {a : Act} {w : World} {K K' : Act → World → Prop} {Q Q' : Exit → Act → World → Prop} (hd : ∀ k ∈ ks, o.dst ≠ some k) (ha : KT ks val a)
    (h : ∀ a' w', KT ks val a' → K a' w' → K' a' w') (hq : ∀ c a w, Q (.panic c) a w → Q' (.panic c) a w) (hl : LetsOut Q → LetsOut Q') (hh : o.wp P a w K Q) : o.wp P a w K' Q' := by
  unfold Oper.wp at *
  generalize (execOp a.eval o).run P w = r at *
  have hp := fun (x : Value) => ha.put hd x
  cases r with
  | ok n w' =>
    cases n <;> simp only [Oper.upon] at hh ⊢ <;>
      first
        | exact h _ _ (hp _) hh
        | exact h _ _ (fun k hk => by have := hp Go.undef k hk; cases hx : o.dst <;> simp only [Act.put, hx] at this ⊢ <;> exact this) hh
        | exact Calls.mono hh (fun e w'' he => by cases e <;> first | exact h _ _ (hp _) he | exact hq _ _ _ he | exact hl he)
        | exact Rows.mono hh (fun _ _ he => h _ _ (hp _) he)
  | halt x w' => cases x <;> simp only [Oper.upon] at hh ⊢ <;> first | exact hq _ _ _ hh | exact hh
def QK (ks : List Tmp) (val : Tmp → Value) (Q : Exit → Act → World → Prop) : Exit → Act → World → Prop := fun e a w => Q e a w ∧ (e = .normal → KT ks val a)
theorem letsK {Q : Exit → Act → World → Prop} (h : LetsOut Q) : LetsOut (QK ks val Q) := let ⟨a, w, h⟩ := h; ⟨a, w, h, fun e => by cases e⟩
theorem wpList_keep {ops : Array Oper} {Q : Exit → Act → World → Prop} : ∀ (l : List Oper) {a : Act} {w : World}, (∀ o ∈ l, ∀ k ∈ ks, o.dst ≠ some k) → KT ks val a → wpList P ops Q l a w → wpList P ops (QK ks val Q) l a w
  | [], a, w, _, ha, h => ⟨h, fun _ => ha⟩
  | o :: rest, a, w, hd, ha, h => by
    have ih := fun {a : Act} {w : World} (h1 : KT ks val a) (h2 : wpList P ops Q rest a w) => wpList_keep rest (fun o ho => hd o (List.mem_cons_of_mem _ ho)) h1 h2
    have hd0 := hd o (List.mem_cons_self ..)
    unfold wpList at h ⊢; split
    · rename_i hw
      rw [if_pos hw] at h; exact h.imp (wp_keepOp hd0 ha (fun a' w' h1 h2 => ih h1 h2) (fun c a w h => ⟨h, fun e => by cases e⟩) letsK) (fun ⟨h1, h2⟩ => ⟨h1, letsK h2⟩)
    · rename_i hw
      rw [if_neg hw] at h; exact ih (ha.put hd0 _) h
theorem wpAny_keep {md : Region.Mode} {ops : Array Oper} {Q : Exit → Act → World → Prop} (hd : ∀ o ∈ ops.toList, ∀ k ∈ ks, o.dst ≠ some k) :
    ∀ (fuel : Nat) {listed : Array Bool} {a : Act} {w : World}, KT ks val a → wpAny P md ops Q fuel listed a w → wpAny P md ops (QK ks val Q) fuel listed a w
  | 0, listed, a, w, ha, h => ⟨h.1, h.2, fun _ => ha⟩
  | fuel + 1, listed, a, w, ha, h => by
    refine ⟨fun e => ⟨h.1 e, fun _ => ha⟩, fun i hi => ?_⟩; have hi' := h.2 i hi
    unfold wpOp at hi' ⊢
    cases ho : ops[i]? with
    | none => rw [ho] at hi'; exact wpAny_keep hd fuel ha hi'
    | some o =>
      rw [ho] at hi'; simp only at hi' ⊢; have hd0 := hd o (by rw [Array.mem_toList_iff]; exact Array.mem_of_getElem? ho)
      split
      · rename_i hw
        rw [if_pos hw] at hi'; exact hi'.imp (wp_keepOp hd0 ha (fun a' w' h1 h2 => wpAny_keep hd fuel h1 h2) (fun c a w h => ⟨h, fun e => by cases e⟩) letsK) (fun ⟨h1, h2⟩ => ⟨h1, letsK h2⟩)
      · rename_i hw
        rw [if_neg hw] at hi'; exact wpAny_keep hd fuel (ha.put hd0 _) hi'
theorem rel0 {nt : Nat} {env : Env} {a : Act} {w : World} (hE : ∀ t, VR w (Own []) nof (lk env t) (a.tmps.getD t Go.undef) []) (hsz : a.tmps.size = nt) (hdf : a.defers = []) : Rel ⟨nt, 0⟩ w ⟨[], nof⟩ nof [] ⟨env, []⟩ a w :=
  ⟨hE, fun id b h => by simp at h, rfl, fun _ _ => rfl, by simp, fun b h => by simp at h, Fr.refl _ _, hsz, hdf, fun _ _ => rfl, fun _ _ h => h⟩
theorem region_x {id nt : Nat} {l : List Oper} {env : Env} {K : St → Prop} {a : Act} {w : World} (hE : ∀ t, VR w (Own []) nof (lk env t) (a.tmps.getD t Go.undef) []) (hsz : a.tmps.size = nt) (hdf : a.defers = [])
    (ks : List Tmp) (hks : ∀ o ∈ l, ∀ k ∈ ks, o.dst ≠ some k) (hr : runA P ⟨nt, 0⟩ (l.map (·.dst)) l ⟨env, []⟩ K) :
    (Code.region id l.toArray false).wp P (QK ks (fun d => a.tmps.getD d Go.undef) (QR ⟨nt, 0⟩ w ⟨[], nof⟩ fun e s => e = .normal ∧ K s)) a w :=
  wp_region_lit (wpList_keep l hks (fun _ _ => rfl) (runA_sound (ops := l.toArray) (K := K) (Q := fun e s => e = .normal ∧ K s) (fun _ h => ⟨rfl, h⟩) l (rel0 hE hsz hdf) (by simpa using hr)))
theorem draw_x {id nt : Nat} {l : List Oper} {env : Env} {K : St → Prop} {a : Act} {w : World} (hm : P.follows .mixedOrders = true) (plan : List PSeg) (hp : drawOk l plan = true) (hn : (planIdx plan).length = l.length)
    (hE : ∀ t, VR w (Own []) nof (lk env t) (a.tmps.getD t Go.undef) []) (hsz : a.tmps.size = nt) (hdf : a.defers = [])
    (ks : List Tmp) (hks : ∀ o ∈ l, ∀ k ∈ ks, o.dst ≠ some k) (hr : runD P ⟨nt, 0⟩ l (l.map (·.dst)) plan ⟨env, []⟩ K) :
    (Code.region id l.toArray true).wp P (QK ks (fun d => a.tmps.getD d Go.undef) (QR ⟨nt, 0⟩ w ⟨[], nof⟩ fun e s => e = .normal ∧ K s)) a w := by
  refine wp_region_any hm (wpAny_keep (by simpa using hks) _ (fun _ _ => rfl) ?_); have hT : TOk l (ancT l (planIdx plan) []) := ancT_ok _ fun x z hz => by simp [lkT] at hz
  have hR' : Rel ⟨nt, 0⟩ w ⟨[], nof⟩ nof [] ⟨env, []⟩ a { w with drawn := w.drawn + 1 } := (rel0 hE hsz hdf).drew _
  have hrep : ∀ i, (Array.replicate l.length false).getD i false = false := fun i => by
    by_cases hi : i < l.length
    · simp [hi]
    · simp [hi]
  refine plan_sound hT (K := K) (Q := fun e s => e = .normal ∧ K s) (fun _ h => ⟨rfl, h⟩) plan [] _ nof [] a _ _ _ hp (fun p hp => by simp at hp) (by simp) (fun y o hy => ?_) (fun i hi => ?_) hR' hr (by simp; omega)
  · rw [show l.toArray.size = l.length by simp, hrep] at hy; cases hy
  · rw [show l.toArray.size = l.length by simp, hrep]; simp
variable {ops : Array Oper} {Q : Exit → Act → World → Prop} {ro : Option Nat} {n : Nat} {rest : List Oper} {o : Oper} {a : Act} {w : World}
theorem stepX {y : Value} (hg : o.guard = none) (hd : ∀ c, o.op ≠ .defer c) (hr : (execOp a.eval o).run P w = .ok (.value y) w) (h : wpListIn (FW ro) n P ops Q rest (a.put o.dst y) w) : wpListIn (FW ro) n P ops Q (o :: rest) a w := by
  unfold wpListIn; rw [if_pos (by simp [Region.wanted, hg])]; refine ⟨fun _ _ => trivial, ?_⟩; rw [Oper.semAt_eq _ _ _ hd, hr]; exact h
theorem stepY {l : Nat} {f x : Operand} {ats : Array TypeId} {R : Ending → World → Prop} (hg : o.guard = none) (ho : o.op = .call { callee := .value f, args := #[x], argTypes := ats }) (hf : a.eval f = .func (.yield l) #[] #[])
    (hy : YieldAt Fence.wide (n - 1) P l #[a.eval x] w R) (h : ∀ e w', R e w' → ∃ v, e = .returned v ∧ wpListIn (FW ro) n P ops Q rest (a.put o.dst v) w') : wpListIn (FW ro) n P ops Q (o :: rest) a w := by
  obtain ⟨fn, tmps, assign, body, h1, h2⟩ := hy; unfold wpListIn; rw [if_pos (by simp [Region.wanted, hg])]; refine ⟨fun _ _ => trivial, ?_⟩
  have hr : (execOp a.eval o).run P w = .ok (.round l fn tmps assign body) w := by
    obtain ⟨dst, op, ty, pos, after, guard⟩ := o; simp only at ho; subst ho; simp only [execOp, resolve, hf, Deferred.ofValue, Sem.run_bind, Sem.run_pure, Result.andThen_ok, invoke]
    simpa using h1
  rw [Oper.semAt_eq _ _ _ (fun c e => by rw [ho] at e; cases e), hr]; refine ⟨fun h => (by cases h), RoundIn.mono (F := FW ro) (show RoundIn (FW ro) (n - 1) P l fn tmps assign body w R from h2) fun e w' hR => ?_⟩
  obtain ⟨v, rfl, hv⟩ := h e w' hR; exact hv
end
section
variable {P : Program} {w : World} {φ : Refs} {h : Heap} {Ss : List (List Nat)}
theorem HP.freeze (hp : HP φ Ss h w) {id : Nat} {b : Blk} (hid : h[id]? = some (some b)) : ∃ S, Ss[id]? = some S ∧ BR w (Own (Ss.set id [])) φ id b S ∧ HP φ (Ss.set id []) (h.set id none) w ∧ (∀ x, Own (Ss.set id []) x → Own Ss x) ∧ ∀ x ∈ S, ¬ Own (Ss.set id []) x := by
  obtain ⟨S, hS, hB⟩ := hp.heap id b hid; obtain ⟨A, B, e1, e2⟩ := flatten_set hS []
  have hsub : ∀ x, Own (Ss.set id []) x → Own Ss x := fun x hx => by
    have hx' : x ∈ (Ss.set id []).flatten := hx
    rw [e2] at hx'
    show x ∈ Ss.flatten
    rw [e1]; simp at hx' ⊢; rcases hx' with h | h
    · exact .inl h
    · exact .inr (.inr h)
  have htr : ∀ x, x < w.heap.size → ¬ Own Ss x → ¬ Own (Ss.set id []) x ∧ w.heap[x]? = w.heap[x]? := fun x _ hx => ⟨fun h => hx (hsub x h), rfl⟩
  refine ⟨S, hS, hB.tr htr (Nat.le_refl _) (fun _ _ e => e) (fun _ _ => rfl), ⟨fun j b' hj => ?_, by simp [hp.len], fun j hj => hp.fresh j (by simpa using hj), ?_, fun x hx => hp.bound x (hsub x hx)⟩, hsub, fun x hx hx2 => ?_⟩
  · have hne : id ≠ j := fun e => by
      subst e; rw [List.getElem?_set_self (List.getElem?_eq_some_iff.1 hid).1] at hj; cases hj
    rw [List.getElem?_set_ne hne] at hj; obtain ⟨S', q1, q2⟩ := hp.heap j b' hj; exact ⟨S', by rw [List.getElem?_set_ne hne]; exact q1, q2.tr htr (Nat.le_refl _) (fun _ _ e => e) (fun _ _ => rfl)⟩
  · rw [e2]
    have := hp.nodup
    rw [e1] at this; exact this.sublist (by simp)
  · have hx2' : x ∈ (Ss.set id []).flatten := hx2
    rw [e2] at hx2'; have := hp.nodup
    rw [e1, List.nodup_append] at this; simp at hx2'; rcases hx2' with h | h
    · exact this.2.2 x h x (List.mem_append_left _ hx) rfl
    · exact (List.nodup_append.1 this.2.1).2.2 x hx x h rfl
theorem VR.boxed {own : Nat → Prop} {id : Nat} {S : List Nat} {v : AV} {x : Value} (hB : BR w own φ id ⟨1, [[v]]⟩ S) (hS : ∀ x ∈ S, ¬ own x) (hb : ∀ x ∈ S, x < w.heap.size) (hl : ∀ x T, VR w own φ v x T → T = [] ∧ VR w own nof v x []) (hx : VR w own φ (.ptr id 0 0) x []) :
    VR w own φ (.fptr [[v]] 0 0) x [] := by
  cases hx with
  | ptr _ _ _ r hr =>
    rcases hB with ⟨h1, h2, _⟩ | ⟨r', vs, T, h1, h2, h3, h4, h5, h6, h7, rfl⟩
    · cases h2
    · rw [hr] at h1; cases h1
      simp only [List.flatten_cons, List.flatten_nil, List.append_nil] at h7; obtain ⟨y, us, S1, S2, rfl, rfl, k1, k2⟩ := h7.uncons; cases k2
      obtain ⟨rfl, k3⟩ := hl _ _ k1; have hm : r.rb ∈ r.rb :: ([] ++ []) := by simp
      have := VR.fptr (w := w) (own := own) (φ := φ) [[v]] 1 ⟨r.rb, r.base, none⟩ [y] 0 0 (hb _ hm) (hS _ hm) (by simp) h6 (by simpa using CR.cons _ _ _ _ _ _ k3 (.nil (φ := nof)))
      simpa [Addr.add] using this
theorem CallS.freezeFI {f : FuncId} {args : List AV} {fid : Go.Fn} {es : List (List AV)} {k : IntKind} {n : Int}
    (hc : CallS P f args h (fun o h' => o = .fn fid [] [.ptr h.length 0 0, .ptr (h.length + 1) 0 0] ∧ h' = h ++ [some ⟨1, [[.fz es]]⟩, some ⟨1, [[.int k n]]⟩])) :
    CallS P f args h (fun o h' => o = .fn fid [] [.fptr [[.fz es]] 0 0, .fptr [[.int k n]] 0 0] ∧ h' = h ++ [none, none]) := by
  refine ⟨hc.1, fun φ Ss w vs hp hcr => (hc.2 φ Ss w vs hp hcr).mono fun e w' ⟨v, out, h', φ', Ss', e1, e2, hp', hv, hφ, hown, hfr⟩ => ?_⟩; obtain ⟨rfl, rfl⟩ := e2
  obtain ⟨S0, a1, a2, hp1, a3, a4⟩ := hp'.freeze (id := h.length) (b := ⟨1, [[.fz es]]⟩) (by simp)
  obtain ⟨S1, b1, b2, hp2, b3, b4⟩ := hp1.freeze (id := h.length + 1) (b := ⟨1, [[.int k n]]⟩) (by rw [List.getElem?_set_ne (by omega), List.getElem?_append_right (by omega)]; simp)
  have hh : ((h ++ [some (⟨1, [[.fz es]]⟩ : Blk), some (⟨1, [[.int k n]]⟩ : Blk)]).set h.length none).set (h.length + 1) none = h ++ [none, none] := by
    rw [List.set_append_right _ _ (by omega)]; rw [List.set_append_right _ _ (by omega)]; simp
  rw [hh] at hp2; have ht : ∀ {own' : Nat → Prop}, (∀ x, own' x → Own Ss' x) → ∀ x, x < w'.heap.size → ¬ Own Ss' x → ¬ own' x ∧ w'.heap[x]? = w'.heap[x]? := fun ho x _ hx => ⟨fun h => hx (ho x h), rfl⟩
  have hsub : ∀ x, Own ((Ss'.set h.length []).set (h.length + 1) []) x → Own Ss' x := fun x hx => a3 x (b3 x hx)
  cases hv with
  | fn _ _ _ fs cs k1 k2 =>
  cases k1
  obtain ⟨y0, us, T1, T2, rfl, e0, c1, c2⟩ := k2.uncons; obtain ⟨y1, us', T3, T4, rfl, e3, c3, c4⟩ := c2.uncons; cases c4
  have hT1 : T1 = [] := by cases c1; rfl
  have hT3 : T3 = [] := by cases c3; rfl
  subst hT1; subst hT3; have hb0 : ∀ x ∈ S0, x < w'.heap.size := fun x hx => hp'.bound x (List.mem_flatten.2 ⟨S0, List.mem_of_getElem? a1, hx⟩)
  have hb1 : ∀ x ∈ S1, x < w'.heap.size := fun x hx => hp1.bound x (List.mem_flatten.2 ⟨S1, List.mem_of_getElem? b1, hx⟩)
  have hlf : ∀ {own : Nat → Prop} x T, VR w' own φ' (.fz es) x T → T = [] ∧ VR w' own nof (.fz es) x [] := fun x T h => by
    cases h with
    | fz0 A cap => exact ⟨rfl, .fz0 A cap⟩
    | fz _ sz A cap vs hlt ho hu hcap hs h => exact ⟨rfl, .fz es sz A cap vs hlt ho hu hcap hs h⟩
  have hli : ∀ {own : Nat → Prop} x T, VR w' own φ' (.int k n) x T → T = [] ∧ VR w' own nof (.int k n) x [] := fun x T h => by cases h; exact ⟨rfl, .int _ _⟩
  have d0 := VR.boxed (φ := φ') (a2.tr (own' := Own ((Ss'.set h.length []).set (h.length + 1) [])) (fun x _ hx => ⟨fun h => hx (b3 x h), rfl⟩) (Nat.le_refl _) (fun _ _ e => e) (fun _ _ => rfl)) (fun x hx h => a4 x hx (b3 x h)) hb0 hlf (c1.tr (ht hsub) (Nat.le_refl _) (fun _ _ e => e) (fun _ _ => rfl))
  have d1 := VR.boxed (φ := φ') b2 b4 hb1 hli (c3.tr (ht hsub) (Nat.le_refl _) (fun _ _ e => e) (fun _ _ => rfl))
  refine ⟨_, _, _, φ', _, e1, ⟨rfl, rfl⟩, hp2, ?_, hφ, fun b hb => hown b (hsub b hb), hfr⟩
  have := VR.fn (w := w') (own := Own ((Ss'.set h.length []).set (h.length + 1) [])) (φ := φ') fid [] [.fptr [[.fz es]] 0 0, .fptr [[.int k n]] 0 0] [] [y0, y1] .nil (by simpa using CR.cons _ _ _ _ _ _ d0 (CR.cons _ _ _ _ _ _ d1 .nil))
  simpa using this
end
end HK
namespace HK
open Go Go.RowKit
theorem after_x {nt : Nat} {ks : List Tmp} {val : Tmp → Value} {w w' : World} {K : St → Prop} {e : Exit} {a' : Act} (h : QK ks val (QR ⟨nt, 0⟩ w ⟨[], nof⟩ fun e s => e = .normal ∧ K s) e a' w') :
    e = .normal ∧ a'.defers = [] ∧ a'.tmps.size = nt ∧ (∀ d ∈ ks, a'.tmps.getD d Go.undef = val d) ∧ Fr w [] w' ∧ ∃ s, K s ∧ (∀ t k n, lk s.env t = .int k n → a'.tmps.getD t Go.undef = .int k n) ∧ ∀ t b, lk s.env t = .bool b → a'.tmps.getD t Go.undef = .bool b := by
  obtain ⟨⟨s, φ, Ss, ⟨rfl, hK⟩, hR⟩, hk⟩ := h; refine ⟨rfl, hR.defers, hR.size, hk rfl, hR.fr, s, hK, fun t k n ht => ?_, fun t b ht => ?_⟩
  · have := hR.env t
    rw [ht] at this
    generalize hx : a'.tmps.getD t Go.undef = x at this
    cases this; rfl
  · have := hR.env t
    rw [ht] at this
    generalize hx : a'.tmps.getD t Go.undef = x at this
    cases this; rfl
theorem Keep.fr {own : Nat → Prop} {w A B : World} (h : Keep own w A) (hf : Fr A [] B) : Keep own w B := ⟨Nat.le_trans h.1 hf.size, fun b h1 h2 => (hf.block b (Nat.lt_of_lt_of_le h1 h.1) (by simp)).trans (h.2 b h1 h2)⟩
theorem Keep.vr {own : Nat → Prop} {w W : World} (h : Keep own w W) {v : AV} {x : Value} (hv : VR w own nof v x []) : VR W (Own []) nof v x [] :=
  hv.tr (fun b hb ho => ⟨fun c => by simp [Own] at c, h.2 b hb ho⟩) h.1 (fun _ _ e => e) (fun b hb => by cases hb)
section
variable {P : Program} {ks : List Tmp} {val : Tmp → Value} {F : Fence} {n : Nat}
theorem wpIn_keepOp {o : Oper} {a : Act} {w : World} {K K' : Act → World → Prop} {Q Q' : Exit → Act → World → Prop} (hd : ∀ k ∈ ks, o.dst ≠ some k) (ha : KT ks val a)
    (h : ∀ a' w', KT ks val a' → K a' w' → K' a' w') (hq : ∀ c a w, Q (.panic c) a w → Q' (.panic c) a w) (hl : LetsOut Q → LetsOut Q') (hh : o.wpIn F n P a w K Q) : o.wpIn F n P a w K' Q' := by
  unfold Oper.wpIn at *; refine ⟨hh.1, ?_⟩; have hh := hh.2
  generalize (o.semAt F.round a.eval).run P w = r at *
  have hp := fun (x : Value) => ha.put hd x
  cases r with
  | ok x w' =>
    cases x <;> simp only [Oper.uponIn] at hh ⊢ <;>
      first
        | exact h _ _ (hp _) hh
        | exact h _ _ (fun k hk => by have := hp Go.undef k hk; cases hx : o.dst <;> simp only [Act.put, hx] at this ⊢ <;> exact this) hh
        | exact ⟨hh.1, CallsIn.mono hh.2 (fun e w'' he => by cases e <;> first | exact h _ _ (hp _) he | exact hq _ _ _ he | exact hl he)⟩
        | exact ⟨hh.1, RoundIn.mono hh.2 (fun e w'' he => by cases e <;> first | exact h _ _ (hp _) he | exact hq _ _ _ he | exact hl he)⟩
        | exact ⟨hh.1, RowsIn.mono hh.2 (fun _ _ he => h _ _ (hp _) he)⟩
  | halt x w' => cases x <;> simp only [Oper.uponIn] at hh ⊢ <;> first | exact hq _ _ _ hh | exact hh
theorem wpListIn_keep {ops : Array Oper} {Q : Exit → Act → World → Prop} : ∀ (l : List Oper) {a : Act} {w : World}, (∀ o ∈ l, ∀ k ∈ ks, o.dst ≠ some k) → KT ks val a → wpListIn F n P ops Q l a w → wpListIn F n P ops (QK ks val Q) l a w
  | [], a, w, _, ha, h => ⟨h, fun _ => ha⟩
  | o :: rest, a, w, hd, ha, h => by
    have ih := fun {a : Act} {w : World} (h1 : KT ks val a) (h2 : wpListIn F n P ops Q rest a w) => wpListIn_keep rest (fun o ho => hd o (List.mem_cons_of_mem _ ho)) h1 h2
    have hd0 := hd o (List.mem_cons_self ..)
    unfold wpListIn at h ⊢; split
    · rename_i hw
      rw [if_pos hw] at h; exact wpIn_keepOp hd0 ha (fun a' w' h1 h2 => ih h1 h2) (fun c a w h => ⟨h, fun e => by cases e⟩) letsK h
    · rename_i hw
      rw [if_neg hw] at h; exact ⟨h.1, ih (ha.put hd0 _) h.2⟩
theorem runI_split {ops : Array Oper} {Q : Exit → Act → World → Prop} {K : St → Prop} {N : Sz} {w0 : World} {B0 : Cx} {ro : Option Nat} {ds : List Deferred} (k : Nat) {L : List Oper} {φ : Refs} {Ss : List (List Nat)} {st : St} {tm : Array Value} {w : World}
    (hR : Rel N w0 B0 φ Ss st ⟨tm, []⟩ w) (hr : runA P N (ops.toList.map (·.dst)) (L.take k) st K) (hK : ∀ st φ Ss t w, K st → Rel N w0 B0 φ Ss st ⟨t, []⟩ w → wpListIn (FW ro) n P ops Q (L.drop k) ⟨t, ds⟩ w) : wpListIn (FW ro) n P ops Q L ⟨tm, ds⟩ w := by
  have := runI_app (P := P) (N := N) (w0 := w0) (B0 := B0) (ops := ops) (Q := Q) (K := K) (more := L.drop k) (ro := ro) (ds := ds) (n := n) hK (L.take k) hR hr
  rwa [List.take_append_drop] at this
theorem putGet (a : Act) (d t : Tmp) (x : Value) (h : d < a.tmps.size) : (a.put (some d) x).tmps.getD t Go.undef = if t = d then x else a.tmps.getD t Go.undef := by
  simp only [Act.put, Array.getD_eq_getD_getElem?]; split
  · rename_i e; subst e; simp [h]
  · rename_i e; rw [Array.getElem?_setIfInBounds_ne (Ne.symm e)]
theorem put_size (a : Act) (d : Option Tmp) (x : Value) : (a.put d x).tmps.size = a.tmps.size := by cases d <;> simp [Act.put]
theorem put_defers (a : Act) (d : Option Tmp) (x : Value) : (a.put d x).defers = a.defers := by cases d <;> rfl
end
end HK
