/-
  My own text (road H): HK19.
-/
import Derived.Test.YtflanhfpjgcfbaaHK18
namespace HK
open Go

/-- From this abstract state the code comes to an exit of which Q is said. -/
def SW (P : Program) (N : Sz) (c : Code) (Q : Exit → St → Prop) (st : St) : Prop := ∀ w0 B0 φ Ss a w, Rel N w0 B0 φ Ss st a w → c.wp P (QR N w0 B0 Q) a w
/-- What can be said of the first state can be said of the second. -/
def Wk (N : Sz) (st st' : St) : Prop := ∀ w0 B0 φ Ss a w, Rel N w0 B0 φ Ss st a w → ∃ φ' Ss', Rel N w0 B0 φ' Ss' st' a w
def Ex.then (K : St → Prop) (Q : Exit → St → Prop) : Exit → St → Prop
  | .normal, st => K st
  | e, st => Q e st
def Ex.inBlock (id : Nat) (Q : Exit → St → Prop) : Exit → St → Prop
  | .exit id', st => if id' = id then Q .normal st else Q (.exit id') st
  | e, st => Q e st

section
variable {P : Program} {N : Sz} {Q : Exit → St → Prop} {st : St}

theorem Wk.refl (N : Sz) (st : St) : Wk N st st := fun _ _ φ Ss _ _ h => ⟨φ, Ss, h⟩
theorem Wk.trans {a b c : St} (h : Wk N a b) (k : Wk N b c) : Wk N a c := fun w0 B0 φ Ss a w hR =>
  let ⟨φ', Ss', hR'⟩ := h w0 B0 φ Ss a w hR
  k w0 B0 φ' Ss' a w hR'
theorem SW.wk {c : Code} {st' : St} (h : Wk N st st') (k : SW P N c Q st') : SW P N c Q st := fun w0 B0 φ Ss a w hR =>
  let ⟨φ', Ss', hR'⟩ := h w0 B0 φ Ss a w hR
  k w0 B0 φ' Ss' a w hR'
theorem SW.mono {c : Code} {Q' : Exit → St → Prop} (h : SW P N c Q st) (hq : ∀ e s, Q e s → Q' e s) : SW P N c Q' st := fun w0 B0 φ Ss a w hR =>
  wp_mono (h w0 B0 φ Ss a w hR) fun _ _ _ ⟨s, φ', Ss', h1, h2⟩ => ⟨s, φ', Ss', hq _ _ h1, h2⟩

theorem SW.skip (h : Q .normal st) : SW P N .skip Q st := fun _ _ φ Ss _ _ hR => wp_skip ⟨st, φ, Ss, h, hR⟩
theorem SW.exit {id : Nat} (h : Q (.exit id) st) : SW P N (.exit id) Q st := fun _ _ φ Ss _ _ hR => wp_exit ⟨st, φ, Ss, h, hR⟩
theorem SW.ret (h : Q .ret st) : SW P N .ret Q st := fun _ _ φ Ss _ _ hR => wp_ret ⟨st, φ, Ss, h, hR⟩
theorem SW.seq {x y : Code} (h : SW P N x (Ex.then (SW P N y Q) Q) st) : SW P N (.seq x y) Q st := fun w0 B0 φ Ss a w hR =>
  wp_seq (wp_mono (h w0 B0 φ Ss a w hR) fun e a' w' ⟨s, φ', Ss', h1, h2⟩ => by
    cases e <;> first | exact h1 w0 B0 φ' Ss' a' w' h2 | exact ⟨s, φ', Ss', h1, h2⟩)
theorem SW.cond {c : Operand} {x y : Code} (b : Bool) (hc : st1 (ev st.env c) = .bool b) (hg : gk (ev st.env c)) (ht : b = true → SW P N x Q st) (hf : b = false → SW P N y Q st) : SW P N (.cond c x y) Q st := fun w0 B0 φ Ss a w hR => by
  have hv := (act_eval hR c).strip hg
  rw [hc] at hv
  generalize hx : a.eval c = v at hv
  cases hv
  exact wp_cond_split hx (fun e => ht e w0 B0 φ Ss a w hR) (fun e => hf e w0 B0 φ Ss a w hR)
theorem SW.block {id : Nat} {c : Code} (h : SW P N c (Ex.inBlock id Q) st) : SW P N (.block id c) Q st := fun w0 B0 φ Ss a w hR =>
  wp_block (wp_mono (h w0 B0 φ Ss a w hR) fun e a' w' ⟨s, φ', Ss', h1, h2⟩ => by
    cases e with
    | exit id' =>
      simp only [Ex.inBlock] at h1
      simp only [Exit.inBlock]
      split at h1
      · rename_i he; rw [if_pos he]; exact ⟨s, φ', Ss', h1, h2⟩
      · rename_i he; rw [if_neg he]; exact ⟨s, φ', Ss', h1, h2⟩
    | _ => exact ⟨s, φ', Ss', h1, h2⟩)

/-- A loop: the states at its head are named by x; each round leads to one with a smaller measure. -/
theorem SW.loop {α : Type} {c : Code} (inv : α → St) (p : α → Prop) (m : α → Nat) (x0 : α) (hp : p x0) (h0 : Wk N st (inv x0))
    (hr : ∀ x, p x → SW P N c (Ex.then (fun s => ∃ y, p y ∧ m y < m x ∧ Wk N s (inv y)) Q) (inv x)) : SW P N (.loop c) Q st := by
  intro w0 B0 φ0 Ss0 a0 w1 hR0
  obtain ⟨φ1, Ss1, hR1⟩ := h0 w0 B0 φ0 Ss0 a0 w1 hR0
  intro b k cs
  have key : ∀ n x φ Ss a w, m x = n → p x → Rel N w0 B0 φ Ss (inv x) a w →
      ∃ e a' w', QR N w0 B0 Q e a' w' ∧ Arrives P (lone (b.at a (.code c :: .inLoop c :: k)) cs w) b k cs e a' w' := by
    intro n
    induction n using Nat.strongRecOn with
    | _ n ih =>
      intro x φ Ss a w hm hpx hR
      obtain ⟨e, a₁, w₁, ⟨s, φ', Ss', hq, hR'⟩, harr⟩ := hr x hpx w0 B0 φ Ss a w hR b (.inLoop c :: k) cs
      cases e with
      | normal =>
        obtain ⟨y, hpy, hlt, hwk⟩ := hq
        obtain ⟨φ2, Ss2, hR2⟩ := hwk w0 B0 φ' Ss' a₁ w₁ hR'
        obtain ⟨e₂, a₂, w₂, hq₂, harr₂⟩ := ih (m y) (hm ▸ hlt) y φ2 Ss2 a₁ w₁ rfl hpy hR2
        exact ⟨e₂, a₂, w₂, hq₂, .of_steps (Steps.trans harr (.one step_inLoop)) harr₂⟩
      | exit id => exact ⟨_, a₁, w₁, ⟨s, φ', Ss', hq, hR'⟩, .pass (x := .inLoop c) rfl (fun _ _ => .inl (by simp)) harr⟩
      | goto l => exact ⟨_, a₁, w₁, ⟨s, φ', Ss', hq, hR'⟩, .pass (x := .inLoop c) rfl (fun _ _ => .inl (by simp)) harr⟩
      | ret => exact ⟨_, a₁, w₁, ⟨s, φ', Ss', hq, hR'⟩, .pass (x := .inLoop c) rfl (fun _ _ => .inl (by simp)) harr⟩
      | panic ch => exact ⟨_, a₁, w₁, ⟨s, φ', Ss', hq, hR'⟩, .pass (x := .inLoop c) rfl (fun _ _ => .inl (by simp)) harr⟩
      | outgrown => exact ⟨_, a₁, w₁, ⟨s, φ', Ss', hq, hR'⟩, .pass (x := .inLoop c) rfl (fun _ _ => .inl (by simp)) harr⟩
  obtain ⟨e, a', w', hq, harr⟩ := key _ x0 φ1 Ss1 a0 w1 rfl hp hR1
  exact ⟨e, a', w', hq, .of_steps (.one step_loop) harr⟩

/-- A region in the order of the text. -/
theorem SW.region {id : Nat} {l : List Oper} (h : runA P N (l.map (·.dst)) l st (Q .normal)) : SW P N (.region id l.toArray false) Q st := fun w0 B0 φ Ss a w hR =>
  wp_region_lit (runA_sound (ops := l.toArray) (K := Q .normal) (fun _ h => h) l hR (by simpa using h))

/-! ### states with fewer facts -/
def subE (env : Env) : Env → Prop
  | [] => True
  | (k, v) :: e => lk env k = v ∧ subE env e
theorem subE_lk {env : Env} : ∀ {e : Env}, subE env e → ∀ t, lk e t = lk env t ∨ lk e t = .undef
  | [], _, _ => .inr rfl
  | (k, v) :: e, h, t => by
    simp only [lk]
    split
    · rename_i hk; subst hk; exact .inl h.1.symm
    · exact subE_lk h.2 t
/-- No name from n on. -/
def lowN : Nat → Nat → AV → Bool
  | 0, _, _ => false
  | d + 1, n, v => match v with
    | .sl id _ _ | .ptr id _ _ => decide (id < n)
    | .agg cs | .tup cs => cs.all (lowN d n)
    | .fn _ f c => f.all (lowN d n) && c.all (lowN d n)
    | .cond _ v => lowN d n v
    | _ => true
section
variable {w : World} {own : Nat → Prop} {n : Nat}
theorem cr_low {φ φ' : Refs} {p : AV → Bool} (hf : ∀ v x S, VR w own φ v x S → p v = true → VR w own φ' v x S) : ∀ {cs : List AV} {vs : List Value} {S : List Nat}, CR w own φ cs vs S → cs.all p = true → CR w own φ' cs vs S
  | [], _, _, k, _ => by cases k; exact .nil
  | c :: cs, _, _, k, h => by
    obtain ⟨v, us, S1, S2, rfl, rfl, k1, k2⟩ := k.uncons
    simp only [List.all_cons, Bool.and_eq_true] at h
    exact .cons _ _ _ _ _ _ (hf _ _ _ k1 h.1) (cr_low hf k2 h.2)
theorem VR.low : ∀ (d : Nat) {φ φ' : Refs} {v : AV} {x : Value} {S : List Nat}, (∀ id, id < n → φ' id = φ id) → VR w own φ v x S → lowN d n v = true → VR w own φ' v x S
  | 0, _, _, _, _, _, _, _, hl => by simp [lowN] at hl
  | d + 1, _, _, _, _, _, hφ, k, hl => by
    cases k with
    | undef _ => exact .undef _
    | nil A => exact .nil A
    | bool b => exact .bool b
    | int k n => exact .int k n
    | str s => exact .str s
    | con _ => exact .con _
    | fz0 A cap => exact .fz0 A cap
    | fz es sz A cap vs hlt ho hu hcap hs hc => exact .fz es sz A cap vs hlt ho hu hcap hs hc
    | own0 sz A => exact .own0 sz A
    | own es sz rb o cap lim vs S hr hu hcap hlim hs hc => exact .own es sz rb o cap lim vs S hr hu hcap hlim hs hc
    | sl0 id off r A hr => simp only [lowN, decide_eq_true_eq] at hl; exact .sl0 id off r A ((hφ id hl).trans hr)
    | sl id off len cap r hr hcap hlim => simp only [lowN, decide_eq_true_eq] at hl; exact .sl id off len cap r ((hφ id hl).trans hr) hcap hlim
    | ptr id i j r hr => simp only [lowN, decide_eq_true_eq] at hl; exact .ptr id i j r ((hφ id hl).trans hr)
    | fptr es sz A vs i j hlt ho hu hs hc => exact .fptr es sz A vs i j hlt ho hu hs hc
    | agg cs vs S hc => simp only [lowN] at hl; exact .agg _ _ _ (cr_low (fun v x S k h => VR.low d hφ k h) hc hl)
    | tup cs vs S hc => simp only [lowN] at hl; exact .tup _ _ _ (cr_low (fun v x S k h => VR.low d hφ k h) hc hl)
    | fn f first cap fs cs hc hc' =>
      simp only [lowN, Bool.and_eq_true] at hl
      exact .fn _ _ _ _ _ (cr_low (fun v x S k h => VR.low d hφ k h) hc hl.1) (cr_low (fun v x S k h => VR.low d hφ k h) hc' hl.2)
    | condT y x S hv => simp only [lowN] at hl; exact .condT _ _ _ (VR.low d hφ hv hl)
    | condF y => exact .condF y
end
/-- The heap cut back. -/
def cutH : Heap → Heap → Prop
  | _, [] => True
  | [], _ :: _ => False
  | x :: h, y :: h' => (y = x ∨ y = none) ∧ cutH h h'
theorem cutH_spec : ∀ {h h' : Heap}, cutH h h' → h'.length ≤ h.length ∧ ∀ (id : Nat) (b : Blk), h'[id]? = some (some b) → h[id]? = some (some b)
  | _, [], _ => ⟨by simp, fun id b hb => by simp at hb⟩
  | [], _ :: _, h => h.elim
  | x :: h, y :: h', hc => by
    obtain ⟨h1, h2⟩ := cutH_spec hc.2
    refine ⟨by simp; exact h1, fun id b hb => ?_⟩
    cases id with
    | zero =>
      simp at hb
      rcases hc.1 with e | e
      · simp [← e, hb]
      · rw [e] at hb; cases hb
    | succ id => simpa using h2 id b (by simpa using hb)
def lowE (n : Nat) : Env → Bool
  | [] => true
  | (_, v) :: e => lowN 4 n v && lowE n e
theorem lowE_lk {n : Nat} : ∀ {e : Env}, lowE n e = true → ∀ t, lowN 4 n (lk e t) = true
  | [], _, _ => by simp [lk, lowN]
  | (k, v) :: e, h, t => by
    simp only [lowE, Bool.and_eq_true] at h
    simp only [lk]
    split
    · exact h.1
    · exact lowE_lk h.2 t
def lowB (n : Nat) : Option Blk → Bool
  | none => true
  | some b => b.es.all fun e => e.all (lowN 2 n)

theorem Wk.cut {env' : Env} {h' : Heap} (h0 : N.b ≤ h'.length) (h1 : subE st.env env') (h2 : cutH st.heap h') (h3 : lowE h'.length env' = true) (h4 : ∀ x ∈ h', lowB h'.length x = true) : Wk N st ⟨env', h'⟩ := by
  intro w0 B0 φ Ss a w hR
  obtain ⟨hl, hc⟩ := cutH_spec h2
  let φ' : Refs := fun id => if id < h'.length then φ id else none
  have hφ : ∀ id, id < h'.length → φ' id = φ id := fun id hid => by simp only [φ']; rw [if_pos hid]
  have hsub : (Ss.take h'.length).flatten.Sublist Ss.flatten := by
    conv => rhs; rw [← List.take_append_drop h'.length Ss, List.flatten_append]
    exact List.sublist_append_left _ _
  have hfz : ∀ b, b < w.heap.size → ¬ Own Ss b → ¬ Own (Ss.take h'.length) b ∧ w.heap[b]? = w.heap[b]? := fun b _ ho => ⟨fun hb => ho (hsub.subset hb), rfl⟩
  refine ⟨φ', Ss.take h'.length, fun t => ?_, fun id b hid => ?_, by rw [List.length_take, hR.len, Nat.min_eq_left hl], fun id hid => if_neg (Nat.not_lt.2 hid), hR.nodup.sublist hsub, fun b hb => hR.bound b (hsub.subset hb), hR.fr, hR.size, hR.defers, hR.cx, fun i r e => ?_⟩
  · have hv : VR w (Own Ss) φ' (lk env' t) (a.tmps.getD t Go.undef) [] := by
      rcases subE_lk h1 t with e | e
      · exact VR.low 4 hφ (by rw [e]; exact hR.env t) (lowE_lk h3 t)
      · rw [e]; exact .undef _
    exact hv.tr hfz (Nat.le_refl _) (fun _ _ e => e) (fun _ _ => rfl)
  · obtain ⟨S, q1, q2⟩ := hR.heap id b (hc id b hid)
    have hidl : id < h'.length := (List.getElem?_eq_some_iff.1 hid).1
    refine ⟨S, by rw [List.getElem?_take, if_pos hidl]; exact q1, ?_⟩
    have hlow : (b.es.all fun e => e.all (lowN 2 h'.length)) = true := h4 _ (List.mem_of_getElem? hid)
    have q3 : BR w (Own Ss) φ' id b S := by
      rcases q2 with ⟨e1, e2, e3⟩ | ⟨r, vs, T, e1, e2, e3, e4, e5, e6, e7, e8⟩
      · exact .inl ⟨(hφ id hidl).trans e1, e2, e3⟩
      · refine .inr ⟨r, vs, T, (hφ id hidl).trans e1, e2, e3, e4, e5, e6, cr_low (fun v x S k h => VR.low 2 hφ k h) e7 ?_, e8⟩
        rw [List.all_eq_true] at hlow ⊢
        intro v hv
        obtain ⟨e, he, hve⟩ := List.mem_flatten.1 hv
        exact List.all_eq_true.1 (hlow e he) v hve
    exact q3.tr hfz (Nat.le_refl _) (fun _ _ e => e) (fun _ _ => rfl)
  · have hi : i < h'.length := by
      rcases Nat.lt_or_ge i N.b with hlt | hge
      · omega
      · rw [hR.cx i hge] at e; cases e
    exact (hφ i hi).trans (hR.keep i r e)
end
end HK
