import Derived.Test.YtdhoappjadnhcaaGreatHK36
import Derived.Laws.IdiomRangeMap
import Derived.WideKeyEntry
/-
  My own texts (road H): HK40 HK41 HK42 HK43 HK44 HK45 HK46 HK47.
-/
set_option maxHeartbeats 8000000
set_option linter.unusedVariables false
set_option linter.unusedSimpArgs false
namespace HK
open Go
structure WL (w w' : World) : Prop where
  size : w.heap.size ≤ w'.heap.size
  cells : ∀ (b : Nat) c T z, w.heap[b]? = some (.cells c T z) → w'.heap[b]? = some (.cells c T z)
section
variable {w w' : World} {own : Nat → Prop}
theorem WL.cell (h : WL w w') {A : Addr} {v : Value} (e : w.cell? A = some v) : w'.cell? A = some v := by
  unfold World.cell? at e ⊢; split at e
  · rename_i c T z hc
    rw [h.cells _ _ _ _ hc]; exact e
  · cases e
theorem WL.row (h : WL w w') {rb lim : Nat} (e : RowAt w rb lim) : RowAt w' rb lim := by
  obtain ⟨c, T, h1, h2⟩ := e; exact ⟨c, T, h.cells _ _ _ _ h1, h2⟩
theorem WL.seg (h : WL w w') {A : Addr} {vs : List Value} (e : Seg w A vs) : Seg w' A vs := fun n v hv => h.cell (e n v hv)
mutual
theorem VR.wl (hw : WL w w') : ∀ {φ : Refs} {v : AV} {x : Value} {S : List Nat}, VR w own φ v x S → VR w' own φ v x S
  | _, _, _, _, .undef v => .undef v
  | _, _, _, _, .nil A => .nil A
  | _, _, _, _, .bool b => .bool b
  | _, _, _, _, .int k n => .int k n
  | _, _, _, _, .str s => .str s
  | _, _, _, _, .con v => .con v
  | _, _, _, _, .fz0 A cap => .fz0 A cap
  | _, _, _, _, .fz es sz A cap vs hlt ho hu hcap hs h => .fz es sz A cap vs (Nat.lt_of_lt_of_le hlt hw.size) ho hu hcap (hw.seg hs) (CR.wl hw h)
  | _, _, _, _, .own0 sz A => .own0 sz A
  | _, _, _, _, .own es sz rb o cap lim vs S hr hu hcap hlim hs h => .own es sz rb o cap lim vs S (hw.row hr) hu hcap hlim (hw.seg hs) (CR.wl hw h)
  | _, _, _, _, .sl0 id off r A h => .sl0 id off r A h
  | _, _, _, _, .sl id off len cap r h hcap hlim => .sl id off len cap r h hcap hlim
  | _, _, _, _, .ptr id i j r h => .ptr id i j r h
  | _, _, _, _, .fptr es sz A vs i j hlt ho hu hs h => .fptr es sz A vs i j (Nat.lt_of_lt_of_le hlt hw.size) ho hu (hw.seg hs) (CR.wl hw h)
  | _, _, _, _, .agg cs vs S h => .agg cs vs S (CR.wl hw h)
  | _, _, _, _, .tup cs vs S h => .tup cs vs S (CR.wl hw h)
  | _, _, _, _, .fn f first cap fs cs h h' => .fn f first cap fs cs (CR.wl hw h) (CR.wl hw h')
  | _, _, _, _, .condT v x S h => .condT v x S (VR.wl hw h)
  | _, _, _, _, .condF v => .condF v
theorem CR.wl (hw : WL w w') : ∀ {φ : Refs} {v : List AV} {x : List Value} {S : List Nat}, CR w own φ v x S → CR w' own φ v x S
  | _, _, _, _, .nil => .nil
  | _, _, _, _, .cons a v S as vs T h h' => .cons a v S as vs T (VR.wl hw h) (CR.wl hw h')
end
theorem BR.wl (hw : WL w w') {φ : Refs} {id : Nat} {b : Blk} {S : List Nat} (h : BR w own φ id b S) : BR w' own φ id b S := by
  rcases h with h | ⟨r, vs, T, h1, h2, h3, h4, h5, h6, h7, h8⟩
  · exact .inl h
  · exact .inr ⟨r, vs, T, h1, h2, hw.row h3, h4, h5, hw.seg h6, h7.wl hw, h8⟩
end
section
variable {P : Program} {N : Sz} {w0 w w' : World} {B0 : Cx} {φ : Refs} {Ss : List (List Nat)} {st : St} {a : Act}
theorem Rel.wl (h : Rel N w0 B0 φ Ss st a w) (hw : WL w w') (h1 : w'.os = w.os) (h2 : w'.tape = w.tape) (h3 : w'.output = w.output) (hb : ∀ b, b < w0.heap.size → b ∉ B0.l → w'.heap[b]? = w.heap[b]?) : Rel N w0 B0 φ Ss st a w' :=
  ⟨fun t => (h.env t).wl hw, fun id b hid => by
    obtain ⟨S, e1, e2⟩ := h.heap id b hid; exact ⟨S, e1, e2.wl hw⟩, h.len, h.fresh, h.nodup, fun b hb' => ⟨Nat.lt_of_lt_of_le (h.bound b hb').1 hw.size, (h.bound b hb').2⟩,
    ⟨h1.trans h.fr.os, h2.trans h.fr.tape, h3.trans h.fr.output, Nat.le_trans h.fr.size hw.size, fun b e1 e2 => (hb b e1 e2).trans (h.fr.block b e1 e2)⟩, h.size, h.defers, h.cx, h.keep⟩
theorem Rel.rebase (h : Rel N w0 B0 φ Ss st a w) : Rel N w ⟨Ss.flatten, B0.φ⟩ φ Ss st a w :=
  ⟨h.env, h.heap, h.len, h.fresh, h.nodup, fun b hb => ⟨(h.bound b hb).1, .inl hb⟩, Fr.refl _ _, h.size, h.defers, h.cx, h.keep⟩
theorem Rel.unbase (h : Rel N w0 B0 φ Ss st a w) {φ' : Refs} {Ss' : List (List Nat)} {st' : St} {a' : Act} (h' : Rel N w ⟨Ss.flatten, B0.φ⟩ φ' Ss' st' a' w') : Rel N w0 B0 φ' Ss' st' a' w' := by
  have hf := h.fr.size
  refine ⟨h'.env, h'.heap, h'.len, h'.fresh, h'.nodup, fun b hb => ⟨(h'.bound b hb).1, ?_⟩, h.fr.trans h'.fr fun x hx => (h.bound x hx).2, h'.size, h'.defers, h'.cx, h'.keep⟩; rcases (h'.bound b hb).2 with h1 | h1
  · exact (h.bound b h1).2
  · right; omega
def noCells : Obj → Prop
  | .cells _ _ _ => False
  | _ => True
abbrev GS := List (Nat × Obj)
structure Gh (w0 : World) (Ss : List (List Nat)) (gs : GS) (w : World) : Prop where
  here : ∀ q ∈ gs, w.heap[q.1]? = some q.2
  no : ∀ q ∈ gs, noCells q.2
  own : ∀ q ∈ gs, q.1 ∉ Ss.flatten
  new : ∀ q ∈ gs, w0.heap.size ≤ q.1
  nd : (gs.map (·.1)).Nodup
theorem Gh.keep {gs : GS} (hg : Gh w0 Ss gs w) (h : Rel N w0 B0 φ Ss st a w) {φ' : Refs} {Ss' : List (List Nat)} {st' : St} {a' : Act} (h' : Rel N w ⟨Ss.flatten, B0.φ⟩ φ' Ss' st' a' w') : Gh w0 Ss' gs w' := by
  have hlt : ∀ q ∈ gs, q.1 < w.heap.size := fun q hq => by
    rcases Nat.lt_or_ge q.1 w.heap.size with h1 | h1
    · exact h1
    · have := hg.here q hq
      rw [Array.getElem?_eq_none h1] at this; cases this
  refine ⟨fun q hq => (h'.fr.block q.1 (hlt q hq) (hg.own q hq)).trans (hg.here q hq), hg.no, fun q hq hm => ?_, hg.new, hg.nd⟩; rcases (h'.bound q.1 hm).2 with h1 | h1
  · exact hg.own q hq h1
  · have := hlt q hq; omega
def QM (N : Sz) (w0 : World) (B0 : Cx) (Q : Exit → St → GS → Prop) : Exit → Act → World → Prop := fun e a w => ∃ st gs φ Ss, Q e st gs ∧ Rel N w0 B0 φ Ss st a w ∧ Gh w0 Ss gs w
def SM (P : Program) (N : Sz) (c : Code) (Q : Exit → St → GS → Prop) (st : St) (gs : GS) : Prop := ∀ w0 B0 φ Ss a w, Rel N w0 B0 φ Ss st a w → Gh w0 Ss gs w → c.wp P (QM N w0 B0 Q) a w
def Em.then (K : St → GS → Prop) (Q : Exit → St → GS → Prop) : Exit → St → GS → Prop
  | .normal, st, g => K st g
  | e, st, g => Q e st g
def Em.inBlock (id : Nat) (Q : Exit → St → GS → Prop) : Exit → St → GS → Prop
  | .exit id', st, g => if id' = id then Q .normal st g else Q (.exit id') st g
  | e, st, g => Q e st g
end
section
variable {P : Program} {N : Sz} {Q : Exit → St → GS → Prop} {st : St} {gs : GS}
theorem SM.of {c : Code} (h : SW P N c (fun e s => Q e s gs) st) : SM P N c Q st gs := fun w0 B0 φ Ss a w hR hG =>
  wp_mono (h w ⟨Ss.flatten, B0.φ⟩ φ Ss a w hR.rebase) fun _ _ _ ⟨s, φ', Ss', h1, h2⟩ => ⟨s, gs, φ', Ss', h1, hR.unbase h2, hG.keep hR h2⟩
theorem Wk.gh {st' : St} (h : Wk N st st') {w0 : World} {B0 : Cx} {φ : Refs} {Ss : List (List Nat)} {a : Act} {w : World} (hR : Rel N w0 B0 φ Ss st a w) (hG : Gh w0 Ss gs w) : ∃ φ' Ss', Rel N w0 B0 φ' Ss' st' a w ∧ Gh w0 Ss' gs w :=
  let ⟨φ', Ss', hR'⟩ := h w ⟨Ss.flatten, B0.φ⟩ φ Ss a w hR.rebase
  ⟨φ', Ss', hR.unbase hR', hG.keep hR hR'⟩
theorem SM.wk {c : Code} {st' : St} (h : Wk N st st') (k : SM P N c Q st' gs) : SM P N c Q st gs := fun w0 B0 φ Ss a w hR hG =>
  let ⟨φ', Ss', hR', hG'⟩ := h.gh hR hG
  k w0 B0 φ' Ss' a w hR' hG'
theorem SM.mono {c : Code} {Q' : Exit → St → GS → Prop} (h : SM P N c Q st gs) (hq : ∀ e s g, Q e s g → Q' e s g) : SM P N c Q' st gs := fun w0 B0 φ Ss a w hR hG =>
  wp_mono (h w0 B0 φ Ss a w hR hG) fun _ _ _ ⟨s, g, φ', Ss', h1, h2, h3⟩ => ⟨s, g, φ', Ss', hq _ _ _ h1, h2, h3⟩
theorem SM.skip (h : Q .normal st gs) : SM P N .skip Q st gs := fun _ _ φ Ss _ _ hR hG => wp_skip ⟨st, gs, φ, Ss, h, hR, hG⟩
theorem SM.exit {id : Nat} (h : Q (.exit id) st gs) : SM P N (.exit id) Q st gs := fun _ _ φ Ss _ _ hR hG => wp_exit ⟨st, gs, φ, Ss, h, hR, hG⟩
theorem SM.ret (h : Q .ret st gs) : SM P N .ret Q st gs := fun _ _ φ Ss _ _ hR hG => wp_ret ⟨st, gs, φ, Ss, h, hR, hG⟩
theorem SM.seq {x y : Code} (h : SM P N x (Em.then (SM P N y Q) Q) st gs) : SM P N (.seq x y) Q st gs := fun w0 B0 φ Ss a w hR hG =>
  wp_seq (wp_mono (h w0 B0 φ Ss a w hR hG) fun e a' w' ⟨s, g, φ', Ss', h1, h2, h3⟩ => by
    cases e <;> first | exact h1 w0 B0 φ' Ss' a' w' h2 h3 | exact ⟨s, g, φ', Ss', h1, h2, h3⟩)
theorem SM.seqK {x y : Code} (h : ∀ K : St → GS → Prop, (∀ st gs, SM P N y Q st gs → K st gs) → SM P N x (Em.then K Q) st gs) : SM P N (.seq x y) Q st gs := SM.seq (h _ fun _ _ h => h)
theorem SM.cond {c : Operand} {x y : Code} (b : Bool) (hc : st1 (ev st.env c) = .bool b) (hg : gk (ev st.env c)) (ht : b = true → SM P N x Q st gs) (hf : b = false → SM P N y Q st gs) : SM P N (.cond c x y) Q st gs := fun w0 B0 φ Ss a w hR hG => by
  have hv := (act_eval hR c).strip hg
  rw [hc] at hv
  generalize hx : a.eval c = v at hv
  cases hv
  exact wp_cond_split hx (fun e => ht e w0 B0 φ Ss a w hR hG) (fun e => hf e w0 B0 φ Ss a w hR hG)
theorem SM.block {id : Nat} {c : Code} (h : SM P N c (Em.inBlock id Q) st gs) : SM P N (.block id c) Q st gs := fun w0 B0 φ Ss a w hR hG =>
  wp_block (wp_mono (h w0 B0 φ Ss a w hR hG) fun e a' w' ⟨s, g, φ', Ss', h1, h2, h3⟩ => by
    cases e with
    | exit id' =>
      simp only [Em.inBlock] at h1; simp only [Exit.inBlock]; split at h1
      · rename_i he; rw [if_pos he]; exact ⟨s, g, φ', Ss', h1, h2, h3⟩
      · rename_i he; rw [if_neg he]; exact ⟨s, g, φ', Ss', h1, h2, h3⟩
    | _ => exact ⟨s, g, φ', Ss', h1, h2, h3⟩)
theorem SM.loop {α : Type} {c : Code} (inv : α → St) (g : α → GS) (p : α → Prop) (m : α → Nat) (x0 : α) (hp : p x0) (hg0 : g x0 = gs) (h0 : Wk N st (inv x0))
    (hr : ∀ x, p x → SM P N c (Em.then (fun s g' => ∃ y, p y ∧ m y < m x ∧ g' = g y ∧ Wk N s (inv y)) Q) (inv x) (g x)) : SM P N (.loop c) Q st gs := by
  intro w0 B0 φ0 Ss0 a0 w1 hR0 hG0; obtain ⟨φ1, Ss1, hR1, hG1⟩ := h0.gh hR0 hG0; rw [← hg0] at hG1; intro b k cs
  have key : ∀ n x φ Ss a w, m x = n → p x → Rel N w0 B0 φ Ss (inv x) a w → Gh w0 Ss (g x) w →
      ∃ e a' w', QM N w0 B0 Q e a' w' ∧ Arrives P (lone (b.at a (.code c :: .inLoop c :: k)) cs w) b k cs e a' w' := by
    intro n
    induction n using Nat.strongRecOn with
    | _ n ih =>
      intro x φ Ss a w hm hpx hR hG; obtain ⟨e, a₁, w₁, ⟨s, g', φ', Ss', hq, hR', hG'⟩, harr⟩ := hr x hpx w0 B0 φ Ss a w hR hG b (.inLoop c :: k) cs
      cases e with
      | normal =>
        obtain ⟨y, hpy, hlt, rfl, hwk⟩ := hq; obtain ⟨φ2, Ss2, hR2, hG2⟩ := hwk.gh hR' hG'; obtain ⟨e₂, a₂, w₂, hq₂, harr₂⟩ := ih (m y) (hm ▸ hlt) y φ2 Ss2 a₁ w₁ rfl hpy hR2 hG2
        exact ⟨e₂, a₂, w₂, hq₂, .of_steps (Steps.trans harr (.one step_inLoop)) harr₂⟩
      | exit id => exact ⟨_, a₁, w₁, ⟨s, g', φ', Ss', hq, hR', hG'⟩, .pass (x := .inLoop c) rfl (fun _ _ => .inl (by simp)) harr⟩
      | goto l => exact ⟨_, a₁, w₁, ⟨s, g', φ', Ss', hq, hR', hG'⟩, .pass (x := .inLoop c) rfl (fun _ _ => .inl (by simp)) harr⟩
      | ret => exact ⟨_, a₁, w₁, ⟨s, g', φ', Ss', hq, hR', hG'⟩, .pass (x := .inLoop c) rfl (fun _ _ => .inl (by simp)) harr⟩
      | panic ch => exact ⟨_, a₁, w₁, ⟨s, g', φ', Ss', hq, hR', hG'⟩, .pass (x := .inLoop c) rfl (fun _ _ => .inl (by simp)) harr⟩
      | outgrown => exact ⟨_, a₁, w₁, ⟨s, g', φ', Ss', hq, hR', hG'⟩, .pass (x := .inLoop c) rfl (fun _ _ => .inl (by simp)) harr⟩
  obtain ⟨e, a', w', hq, harr⟩ := key _ x0 φ1 Ss1 a0 w1 rfl hp hR1 hG1; exact ⟨e, a', w', hq, .of_steps (.one step_loop) harr⟩
theorem SM.region {id : Nat} {l : List Oper} (h : runA P N (l.map (·.dst)) l st (fun s => Q .normal s gs)) : SM P N (.region id l.toArray false) Q st gs := SM.of (SW.region h)
theorem SM.regionK {id : Nat} {l : List Oper} {y : Code} (h : ∀ K : St → Prop, (∀ st, SM P N y Q st gs → K st) → runA P N (l.map (·.dst)) l st K) : SM P N (.seq (.region id l.toArray false) y) Q st gs :=
  SM.seq (SM.region (Q := Em.then (SM P N y Q) Q) (h _ fun _ h => h))
theorem SM.regionE {id : Nat} {l : List Oper} (h : ∀ K : St → Prop, (∀ st, Q .normal st gs → K st) → runA P N (l.map (·.dst)) l st K) : SM P N (.region id l.toArray false) Q st gs := SM.region (h _ fun _ h => h)
theorem SM.drawK {id : Nat} {l : List Oper} {y : Code} (hm : P.follows .mixedOrders = true) (plan : List PSeg) (hp : drawOk l plan = true) (hn : (planIdx plan).length = l.length)
    (h : ∀ K : St → Prop, (∀ st, SM P N y Q st gs → K st) → runD P N l (l.map (·.dst)) plan st K) : SM P N (.seq (.region id l.toArray true) y) Q st gs :=
  SM.seq (SM.of (SW.draw (Q := fun e s => Em.then (SM P N y Q) Q e s gs) hm plan hp hn (h _ fun _ h => h)))
theorem SM.drawE {id : Nat} {l : List Oper} (hm : P.follows .mixedOrders = true) (plan : List PSeg) (hp : drawOk l plan = true) (hn : (planIdx plan).length = l.length)
    (h : ∀ K : St → Prop, (∀ st, Q .normal st gs → K st) → runD P N l (l.map (·.dst)) plan st K) : SM P N (.region id l.toArray true) Q st gs :=
  SM.of (SW.draw (Q := fun e s => Q e s gs) hm plan hp hn (h _ fun _ h => h))
end
end HK
namespace HK
open Go
def rv : AV → Value
  | .int k n => .int k n
  | .bool b => .bool b
  | .str s => .string s
  | _ => Go.undef
def basic : AV → Bool
  | .int _ _ | .bool _ | .str _ => true
  | _ => false
def keyV (k : List AV) : Value := .agg (k.map rv).toArray
section
variable {P : Program} {w : World} {own : Nat → Prop} {φ : Refs}
theorem CR.basic : ∀ {xs : List AV} {us : List Value}, CR w own φ xs us [] → xs.all HK.basic = true → us = xs.map rv
  | [], _, h, _ => by cases h; rfl
  | x :: xs, _, h, hb => by
    obtain ⟨v, us, S1, S2, rfl, hS, h1, h2⟩ := h.uncons; have eS : S1 = [] ∧ S2 = [] := by simpa using hS.symm
    obtain ⟨rfl, rfl⟩ := eS; simp only [List.all_cons, Bool.and_eq_true] at hb; rw [CR.basic h2 hb.2, List.map_cons]
    congr 1
    cases x <;> simp [HK.basic] at hb <;> cases h1 <;> rfl
theorem basic_cr : ∀ (xs : List AV), xs.all HK.basic = true → CR w own φ xs (xs.map rv) []
  | [], _ => .nil
  | x :: xs, hb => by
    simp only [List.all_cons, Bool.and_eq_true] at hb; have h2 := basic_cr xs hb.2
    have h1 : VR w own φ x (rv x) [] := by
      cases x <;> simp [HK.basic] at hb
      · exact .bool _
      · exact .int _ _
      · exact .str _
    exact .cons _ _ [] _ _ [] h1 h2
theorem ckF (D : Nat) (em : Bool) (g : TypeId → Option (List Nat))
    (ih : ∀ (t : TypeId) (xs : List AV) (us : List Value) (cu : Array Value) (j : Nat), g t = some (xs.map avk) → xs.all HK.basic = true → CR w own φ xs us [] → (∀ n v, us[n]? = some v → cu[j + n]? = some v) →
      (do let a ← part t cu j; Instr.checkKey em D t a : Sem Unit).run P w = .ok () w) :
    ∀ (fs : List Field) (j : Nat) (xs : List AV) (us : List Value) (cu : Array Value), fkindsG g fs j = some (xs.map avk) → xs.all HK.basic = true → CR w own φ xs us [] → (∀ n v, us[n]? = some v → cu[j + n]? = some v) →
    (forIn (m := Sem) fs PUnit.unit fun f _ => do
      if f.name ≠ "_" then Instr.checkKey em D f.type (← part f.type cu f.offset)
      pure (ForInStep.yield PUnit.unit)).run P w = .ok PUnit.unit w
  | [], j, xs, us, cu, hf, hb, hx, hu => by simp
  | f :: fs, j, xs, us, cu, hf, hb, hx, hu => by
    unfold fkindsG at hf; split at hf
    · rename_i hn
      split at hf
      · rename_i a ha
        split at hf
        · rename_i l hl
          obtain ⟨xs1, xs2, rfl, rfl, rfl⟩ := map_app (Option.some.inj hf).symm; obtain ⟨us1, us2, S1, S2, rfl, hS, x1, x2⟩ := hx.split; have eS : S1 = [] ∧ S2 = [] := by simpa using hS.symm
          obtain ⟨rfl, rfl⟩ := eS; have lx := x1.length
          rw [List.all_append, Bool.and_eq_true] at hb; have h1 := ih f.type xs1 us1 cu j ha hb.1 x1 (fun n v h => hu n v (by rw [List.getElem?_append_left (List.getElem?_eq_some_iff.1 h).1]; exact h))
          have h2 := ckF D em g ih fs (j + (xs1.map avk).length) xs2 us2 cu hl hb.2 x2 (fun n v h => by
              rw [List.length_map, lx, Nat.add_assoc]
              exact hu (us1.length + n) v (by rw [List.getElem?_append_right (by omega), Nat.add_sub_cancel_left]; exact h))
          rw [List.forIn_cons]; simp only [if_pos hn.1, hn.2, Sem.run_bind] at h1 ⊢
          generalize (part f.type cu j).run P w = r1 at h1 ⊢
          cases r1 with
          | ok a1 w1 =>
            simp only [Result.andThen_ok] at h1 ⊢; rw [h1]; simp only [Result.andThen_ok, Sem.run_pure]
            exact h2
          | _ => cases h1
        · cases hf
      · cases hf
    · cases hf
theorem ckT (em : Bool) : ∀ (d D : Nat), d ≤ D → ∀ (t : TypeId) (xs : List AV) (us : List Value) (cu : Array Value) (j : Nat), tkinds P d t = some (xs.map avk) → xs.all HK.basic = true → CR w own φ xs us [] →
    (∀ n v, us[n]? = some v → cu[j + n]? = some v) → (do let a ← part t cu j; Instr.checkKey em D t a : Sem Unit).run P w = .ok () w
  | 0, _, _, _, _, _, _, _, hf, _, _, _ => by simp [tkinds] at hf
  | d + 1, 0, h, _, _, _, _, _, _, _, _, _ => by omega
  | d + 1, D + 1, hD, t, xs, us, cu, j, hf, hb, hx, hu => by
    unfold tkinds at hf; split at hf
    · rename_i k hk0
      obtain ⟨x, rfl, hx0⟩ := one_of (Option.some.inj hf).symm; obtain ⟨u, rfl, hxv⟩ := hx.head; have hu0 := hu 0 u (by simp)
      simp only [Nat.add_zero] at hu0; simp only [Sem.run_bind, part_cell (.inr (.inl ⟨_, hk0⟩)) hu0, Result.andThen_ok, Instr.checkKey, run_underlying hk0]; rfl
    · rename_i hk0
      obtain ⟨x, rfl, hx0⟩ := one_of (Option.some.inj hf).symm; obtain ⟨u, rfl, hxv⟩ := hx.head; have hu0 := hu 0 u (by simp)
      simp only [Nat.add_zero] at hu0; simp only [Sem.run_bind, part_cell (.inr (.inr (.inl hk0))) hu0, Result.andThen_ok, Instr.checkKey, run_underlying hk0]; rfl
    · rename_i hk0
      obtain ⟨x, rfl, hx0⟩ := one_of (Option.some.inj hf).symm; obtain ⟨u, rfl, hxv⟩ := hx.head; have hu0 := hu 0 u (by simp)
      simp only [Nat.add_zero] at hu0; simp only [Sem.run_bind, part_cell (.inr (.inr (.inr hk0))) hu0, Result.andThen_ok, Instr.checkKey, run_underlying hk0]; rfl
    · rename_i fs hk0
      split at hf
      · rename_i hst
        split at hf
        · rename_i l hl
          split at hf
          · rename_i htk
            have e := Option.some.inj hf
            subst e; have lx := hx.length
            rw [List.length_map] at htk; simp only [Sem.run_bind, part_agg hk0 htk, Result.andThen_ok, Instr.checkKey, run_underlying hk0]; rw [← Array.forIn_toList]
            have h := ckF (P := P) (w := w) (own := own) (φ := φ) D em (tkinds P d) (ckT em d D (by omega)) fs.toList 0 xs us _ hl hb hx (seg_ext (n := xs.length) (by omega) hu)
            simp at h ⊢; rw [h]; rfl
          · cases hf
        · cases hf
      · cases hf
    · cases hf
end
end HK
set_option linter.unusedSectionVars false
namespace HK
open Go
structure KeyOk (P : Program) (kt : TypeId) {K : Type} [DecidableEq K] (cl : K → List AV) : Prop where
  kind : ∃ d, d ≤ 9999 ∧ ∀ x, tkinds P d kt = some ((cl x).map avk)
  st : ∃ fs, P.underlying kt = some (.struct fs)
  ek : ∀ x y, eqk (cl x) (cl y)
  ec : ∀ x y, eqc (cl x) (cl y) = decide (x = y)
  bs : ∀ x, (cl x).all basic = true
section
variable {K : Type} [DecidableEq K]
def entL (cl : K → List AV) : List (K × Int) → Nat → List MapEntry
  | [], _ => []
  | q :: r, i => ⟨keyV (cl q.1), .int .i64 q.2, i⟩ :: entL cl r (i + 1)
def mapO (cl : K → List AV) (l : List (K × Int)) : Obj := .map (entL cl l 0).toArray l.length
def findQ : List (K × Int) → Nat → K → Option (Nat × Int)
  | [], _, _ => none
  | q :: r, i, x => if x = q.1 then some (i, q.2) else findQ r (i + 1) x
def getQ (l : List (K × Int)) (x : K) : Int := match findQ l 0 x with | some q => q.2 | none => 0
def idxQ (l : List (K × Int)) (x : K) : Nat := match findQ l 0 x with | some q => q.1 | none => l.length
def ensQ (l : List (K × Int)) (x : K) : List (K × Int) := match findQ l 0 x with | some _ => l | none => l ++ [(x, 0)]
def putQ (l : List (K × Int)) (x : K) (v : Int) : List (K × Int) := (ensQ l x).set (idxQ l x) (x, v)
variable {P : Program} {w : World} {kt mt et : TypeId} {cl : K → List AV}
theorem entL_len : ∀ (l : List (K × Int)) (i : Nat), (entL cl l i).length = l.length
  | [], _ => rfl
  | q :: r, i => by simp [entL, entL_len r]
theorem entL_app : ∀ (l : List (K × Int)) (i : Nat) (q : K × Int), entL cl (l ++ [q]) i = entL cl l i ++ [⟨keyV (cl q.1), .int .i64 q.2, i + l.length⟩]
  | [], i, q => by simp [entL]
  | p :: r, i, q => by
    simp only [List.cons_append, entL, entL_app r (i + 1) q, List.length_cons]; rw [show i + 1 + r.length = i + (r.length + 1) by omega]
theorem entL_get : ∀ (l : List (K × Int)) (i j : Nat), (entL cl l i)[j]? = (l[j]?).map fun q => ⟨keyV (cl q.1), .int .i64 q.2, i + j⟩
  | [], i, j => by simp [entL]
  | p :: r, i, 0 => by simp [entL]
  | p :: r, i, j + 1 => by simp [entL, entL_get r (i + 1) j]; congr 1; funext q; rw [show i + 1 + j = i + (j + 1) by omega]
theorem entL_set : ∀ (l : List (K × Int)) (i j : Nat) (q : K × Int), entL cl (l.set j q) i = (entL cl l i).set j ⟨keyV (cl q.1), .int .i64 q.2, i + j⟩
  | [], i, j, q => by simp [entL]
  | p :: r, i, 0, q => by simp [entL]
  | p :: r, i, j + 1, q => by simp [entL, entL_set r (i + 1) j, show i + 1 + j = i + (j + 1) by omega]
theorem entL_born (l : List (K × Int)) (i : Nat) : (entL cl l i).map (·.born) = (List.range l.length).map (i + ·) := by
  refine List.ext_getElem? fun j => ?_; rw [List.getElem?_map, entL_get, List.getElem?_map]; rcases Nat.lt_or_ge j l.length with h | h
  · rw [List.getElem?_eq_getElem h, List.getElem?_range h]; rfl
  · rw [List.getElem?_eq_none h, List.getElem?_eq_none (by simpa using h)]; rfl
theorem findQ_some : ∀ {l : List (K × Int)} {i : Nat} {x : K} {q : Nat × Int}, findQ l i x = some q → i ≤ q.1 ∧ l[q.1 - i]? = some (x, q.2)
  | [], _, _, _, h => by simp [findQ] at h
  | p :: r, i, x, q, h => by
    unfold findQ at h; split at h
    · rename_i e
      cases h
      subst e; simp
    · obtain ⟨h1, h2⟩ := findQ_some h
      refine ⟨by omega, ?_⟩; rw [show q.1 - i = (q.1 - (i + 1)) + 1 by omega]
      simpa using h2
theorem findQ_none : ∀ {l : List (K × Int)} {i : Nat} {x : K}, findQ l i x = none ↔ ∀ q ∈ l, q.1 ≠ x
  | [], _, _ => by simp [findQ]
  | p :: r, i, x => by
    unfold findQ; split
    · rename_i e
      simp only [reduceCtorEq, false_iff]; intro h; exact h p (by simp) e.symm
    · rename_i e
      rw [findQ_none]; simp only [List.mem_cons, forall_eq_or_imp]; exact ⟨fun h => ⟨fun h' => e h'.symm, h⟩, fun h => h.2⟩
theorem key_eq (hk : KeyOk P kt cl) (x y : K) : (Op.equal kt (keyV (cl x)) (keyV (cl y))).run P w = .ok (decide (x = y)) w := by
  obtain ⟨d, hd, hkd⟩ := hk.kind; obtain ⟨fs, hfs⟩ := hk.st
  have h := eqS (P := P) (w := w) (own := fun _ => False) (φ := nof) (t := kt) (d := d) (D := 10000) (xs := cl x) (ys := cl y) (us := (cl x).map rv) (vs := (cl y).map rv) (by omega) hfs (hkd x) (hk.ek x y) (basic_cr _ (hk.bs x)) (basic_cr _ (hk.bs y))
  rw [hk.ec] at h; exact h
theorem key_check (hk : KeyOk P kt cl) (em : Bool) (x : K) : (Instr.checkKey em 10000 kt (keyV (cl x))).run P w = .ok () w := by
  obtain ⟨d, hd, hkd⟩ := hk.kind; obtain ⟨fs, hfs⟩ := hk.st
  have h := ckT (P := P) (w := w) (own := fun _ => False) (φ := nof) em d 10000 (by omega) kt (cl x) ((cl x).map rv) ((cl x).map rv).toArray 0 (hkd x) (hk.bs x) (basic_cr _ (hk.bs x)) (fun n v h => by simpa using h)
  have htk : tk P kt = some (true, (cl x).length) := by
    have ht := hkd x
    cases d with
    | zero => simp [tkinds] at ht
    | succ d =>
      unfold tkinds at ht; rw [hfs] at ht; simp only at ht; split at ht
      · split at ht
        · split at ht
          · rename_i l _ h1
            rw [Option.some.inj ht, List.length_map] at h1; exact h1
          · cases ht
        · cases ht
      · cases ht
  simp only [Sem.run_bind, part_agg hfs htk, Result.andThen_ok] at h; have e1 : ((cl x).map rv).toArray.extract 0 (0 + (cl x).length) = ((cl x).map rv).toArray := by simp [List.take_of_length_le]
  rwa [e1] at h
theorem find_ask (hk : KeyOk P kt cl) (x : K) : ∀ (l : List (K × Int)) (i : Nat), (Instr.findAsking kt (keyV (cl x)) (entL cl l i) i).run P w = .ok ((findQ l i x).map fun q => (q.1, .int .i64 q.2)) w
  | [], i => by simp [entL, Instr.findAsking, findQ]
  | q :: r, i => by
    simp only [entL, Instr.findAsking, Sem.run_bind, key_eq hk, Result.andThen_ok, findQ]; by_cases e : x = q.1
    · simp [e]
    · simp [e, find_ask hk x r (i + 1)]
theorem find_key (hk : KeyOk P kt cl) (x : K) (l : List (K × Int)) : (Instr.findKey kt (keyV (cl x)) (entL cl l 0)).run P w = .ok ((findQ l 0 x).map fun q => (q.1, .int .i64 q.2)) w := by
  obtain ⟨fs, hfs⟩ := hk.st; unfold Instr.findKey; rw [Sem.run_bind, run_underlying hfs, Result.andThen_ok]
  cases l with
  | nil => simp [entL, Instr.findNow, findQ]
  | cons q r =>
    have e : Instr.findNow (.struct fs) (keyV (cl x)) (entL cl (q :: r) 0) 0 = none := rfl
    rw [e]; exact find_ask hk x (q :: r) 0
theorem run_lookup (hk : KeyOk P kt cl) (hm : P.underlying mt = some (.map kt et)) (hz : ∀ w : World, (zeroValue et).run P w = .ok (.int .i64 0) w) {r : Nat} {l : List (K × Int)} (hr : w.heap[r]? = some (mapO cl l)) (x : K) :
    (Instr.lookup mt (.map (some r)) (keyV (cl x)) false).run P w = .ok (.int .i64 (getQ l x)) w := by
  unfold Instr.lookup; simp only [Sem.run_bind, run_underlying hm, Result.andThen_ok, MapKept.run_getObj_map hr, key_check hk]; have hf := find_key (w := w) hk x l
  simp only [Sem.run_pure, Result.andThen_ok, hf]; unfold getQ
  cases findQ l 0 x with
  | none => simp [hz]
  | some q => simp
theorem same_rv : ∀ (n : Nat) (a : AV), basic a = true → Instr.sameBits n (rv a) (rv a) = true := by
  intro n a h; cases a <;> simp [basic] at h <;> cases n <;> simp [rv, Instr.sameBits, (MapKept.bytes_beq _ _).2]
theorem zip_same {α : Type} : ∀ {l : List α} {q : α × α}, q ∈ l.zip l → q.1 = q.2 ∧ q.1 ∈ l
  | [], _, h => by cases h
  | a :: l, q, h => by
    rw [List.zip_cons_cons] at h; rcases List.mem_cons.1 h with rfl | h
    · exact ⟨rfl, by simp⟩
    · obtain ⟨h1, h2⟩ := zip_same h
      exact ⟨h1, by simp [h2]⟩
theorem key_stays (x : List AV) (hb : x.all basic = true) : (Instr.keyThatStays (keyV x) (keyV x)).run P w = .ok (keyV x) w := by
  have h : Instr.sameBits 10000 (keyV x) (keyV x) = true := by
    unfold keyV; simp only [Instr.sameBits, beq_self_eq_true, Bool.true_and, List.all_eq_true]; intro q hq; obtain ⟨a, b⟩ := q; have hab : a = b ∧ a ∈ x.map rv := zip_same hq
    obtain ⟨rfl, hm⟩ := hab; obtain ⟨c, hc, rfl⟩ := List.mem_map.1 hm; exact same_rv _ c (List.all_eq_true.1 hb c hc)
  unfold Instr.keyThatStays; rw [h]; simp
abbrev setO (w : World) (r : Nat) (o : Obj) : World := { w with heap := w.heap.setIfInBounds r o }
theorem run_mapEntry (hk : KeyOk P kt cl) (hm : P.underlying mt = some (.map kt et)) (hz : ∀ w : World, (zeroValue et).run P w = .ok (.int .i64 0) w) {r : Nat} {l : List (K × Int)} (hr : w.heap[r]? = some (mapO cl l)) (x : K) :
    (Instr.mapEntry mt (.map (some r)) (keyV (cl x))).run P w = .ok (.tuple #[.int .i64 (getQ l x), goInt (idxQ l x)]) (setO w r (mapO cl (ensQ l x))) := by
  unfold Instr.mapEntry; simp only [Sem.run_bind, run_underlying hm, Result.andThen_ok, MapKept.run_getObj_map hr, key_check hk]; have hf := find_key (w := w) hk x l
  simp only [hf, Result.andThen_ok]; unfold getQ idxQ ensQ
  cases hq : findQ l 0 x with
  | none =>
    simp only [Option.map_none, Sem.run_bind, hz, Result.andThen_ok, MapKept.run_setObj_map _ hr, Sem.run_pure]
    congr 2
    unfold mapO; rw [entL_app]
    simp
  | some q =>
    obtain ⟨h1, h2⟩ := findQ_some hq; rw [Nat.sub_zero] at h2
    have he : (entL cl l 0).toArray[q.1]? = some ⟨keyV (cl x), .int .i64 q.2, q.1⟩ := by
      rw [List.getElem?_toArray, entL_get, h2]; simp
    have hmod : (entL cl l 0).toArray.modify q.1 (fun e => { e with key := keyV (cl x) }) = (entL cl l 0).toArray := by
      apply Array.ext_getElem?
      intro i; rw [Array.getElem?_modify]; split
      · rename_i e
        subst e; rw [he]; rfl
      · rfl
    simp only [Option.map_some, Sem.run_bind, he, Option.getD_some, key_stays _ (hk.bs x), Result.andThen_ok, hmod, MapKept.run_setObj_map _ hr, Sem.run_pure]; rfl
theorem ens_idx (l : List (K × Int)) (x : K) : ∃ n, (ensQ l x)[idxQ l x]? = some (x, n) := by
  unfold ensQ idxQ
  cases hq : findQ l 0 x with
  | none => exact ⟨0, by simp⟩
  | some q =>
    obtain ⟨h1, h2⟩ := findQ_some hq; exact ⟨q.2, by simpa using h2⟩
theorem run_entryStore {r : Nat} {l : List (K × Int)} {x : K} {v : Int} (hr : w.heap[r]? = some (mapO cl (ensQ l x))) :
    (Instr.entryStore mt (.map (some r)) (goInt (idxQ l x)) (.int .i64 v)).run P w = .ok () (setO w r (mapO cl (putQ l x v))) := by
  obtain ⟨n, hn⟩ := ens_idx l x; have hlt := (List.getElem?_eq_some_iff.1 hn).1
  unfold Instr.entryStore; simp only [Sem.run_bind, MapKept.run_getObj_map hr, Result.andThen_ok, asInt, asIntOf, goInt, Sem.run_pure]
  have hidx : (entL cl (ensQ l x) 0).toArray.findIdx? (fun e => ((e.born : Nat) : Int) == ((idxQ l x : Nat) : Int)) = some (idxQ l x) := by
    have hnd : ((entL cl (ensQ l x) 0).map (·.born)).Nodup := by
      rw [entL_born]
      simpa using List.nodup_range
    have h := WideElems.findIdx_born (l := entL cl (ensQ l x) 0) hnd (j := idxQ l x) (e0 := ⟨keyV (cl x), .int .i64 n, idxQ l x⟩) (by rw [entL_get, hn]; simp)
    rw [WideElems.findIdx_arr]; exact h
  rw [hidx]; simp only [MapKept.run_setObj_map _ hr]
  have e1 : (entL cl (ensQ l x) 0).toArray.modify (idxQ l x) (fun e => { e with val := .int .i64 v }) = (entL cl (putQ l x v) 0).toArray := by
    apply Array.ext_getElem?
    intro i; unfold putQ; rw [entL_set, Array.getElem?_modify, List.getElem?_toArray, List.getElem?_toArray, List.getElem?_set]; split
    · rename_i e
      subst e; rw [if_pos (by rw [entL_len]; exact hlt), entL_get, hn]; simp
    · rfl
  have e2 : (ensQ l x).length = (putQ l x v).length := by simp [putQ]
  unfold mapO; rw [← e1, ← e2]
end
end HK
namespace HK
open Go
section
variable {K : Type} [DecidableEq K]
theorem findQ_shift (x : K) : ∀ (l : List (K × Int)) (i : Nat), findQ l (i + 1) x = (findQ l i x).map fun q => (q.1 + 1, q.2)
  | [], _ => rfl
  | q :: r, i => by
    unfold findQ; split
    · rfl
    · exact findQ_shift x r (i + 1)
theorem getQ_nil (x : K) : getQ [] x = 0 := rfl
theorem getQ_cons (q : K × Int) (r : List (K × Int)) (x : K) : getQ (q :: r) x = if x = q.1 then q.2 else getQ r x := by
  unfold getQ; rw [show findQ (q :: r) 0 x = if x = q.1 then some (0, q.2) else findQ r (0 + 1) x from rfl]; by_cases e : x = q.1
  · rw [if_pos e, if_pos e]
  · rw [if_neg e, if_neg e, findQ_shift]
    cases findQ r 0 x <;> rfl
theorem putQ_nil (x : K) (v : Int) : putQ [] x v = [(x, v)] := rfl
theorem putQ_cons (q : K × Int) (r : List (K × Int)) (x : K) (v : Int) : putQ (q :: r) x v = if x = q.1 then (x, v) :: r else q :: putQ r x v := by
  unfold putQ ensQ idxQ; by_cases e : x = q.1
  · simp [findQ, e]
  · simp only [findQ, if_neg e, findQ_shift]
    cases findQ r 0 x <;> simp
theorem getQ_put (x y : K) (v : Int) : ∀ l : List (K × Int), getQ (putQ l x v) y = if y = x then v else getQ l y
  | [] => by rw [putQ_nil, getQ_cons, getQ_nil]
  | q :: r => by
    rw [putQ_cons]; by_cases e : x = q.1
    · rw [if_pos e, getQ_cons, getQ_cons]
      subst e; split
      · rfl
      · rfl
    · rw [if_neg e, getQ_cons, getQ_put x y v r, getQ_cons]
      by_cases e2 : y = q.1
      · rw [if_pos e2, if_pos e2, if_neg (fun h => e (h.symm.trans e2))]
      · rw [if_neg e2, if_neg e2]
def NQ (l : List (K × Int)) : Prop := (l.map (·.1)).Nodup
theorem NQ.nil : NQ ([] : List (K × Int)) := List.nodup_nil
theorem putQ_keys (x : K) (v : Int) : ∀ (l : List (K × Int)) (y : K), y ∈ (putQ l x v).map (·.1) → y = x ∨ y ∈ l.map (·.1)
  | [], y, h => by rw [putQ_nil] at h; simp at h; exact .inl h
  | q :: r, y, h => by
    rw [putQ_cons] at h; split at h
    · rename_i e
      simp only [List.map_cons, List.mem_cons] at h ⊢; rcases h with h | h
      · exact .inl h
      · exact .inr (.inr h)
    · simp only [List.map_cons, List.mem_cons] at h ⊢
      rcases h with h | h
      · exact .inr (.inl h)
      · rcases putQ_keys x v r y h with h | h
        · exact .inl h
        · exact .inr (.inr h)
theorem NQ.put {x : K} {v : Int} : ∀ {l : List (K × Int)}, NQ l → NQ (putQ l x v)
  | [], _ => by rw [putQ_nil]; simp [NQ]
  | q :: r, h => by
    unfold NQ at h ⊢; rw [List.map_cons, List.nodup_cons] at h; rw [putQ_cons]; split
    · rename_i e
      subst e; exact List.nodup_cons.2 h
    · rename_i e
      rw [List.map_cons, List.nodup_cons]; refine ⟨fun hm => ?_, NQ.put (l := r) h.2⟩; rcases putQ_keys x v r _ hm with h1 | h1
      · exact e h1.symm
      · exact h.1 h1
theorem NQ.get : ∀ {l : List (K × Int)}, NQ l → ∀ q ∈ l, getQ l q.1 = q.2
  | [], _, _, h => by cases h
  | p :: r, hn, q, h => by
    unfold NQ at hn; rw [List.map_cons, List.nodup_cons] at hn; rw [getQ_cons]; rcases List.mem_cons.1 h with rfl | h
    · rw [if_pos rfl]
    · rw [if_neg]
      · exact NQ.get (l := r) hn.2 q h
      · intro e
        exact hn.1 (e ▸ List.mem_map.2 ⟨q, h, rfl⟩)
theorem getQ_out {l : List (K × Int)} {x : K} (h : ∀ q ∈ l, q.1 ≠ x) : getQ l x = 0 := by
  unfold getQ; rw [findQ_none.2 h]
theorem NQ.zero {l : List (K × Int)} (hn : NQ l) : (∀ q ∈ l, q.2 = 0) ↔ ∀ x, getQ l x = 0 := by
  constructor
  · intro h x
    by_cases hx : ∃ q ∈ l, q.1 = x
    · obtain ⟨q, hq, rfl⟩ := hx
      rw [hn.get q hq, h q hq]
    · exact getQ_out fun q hq e => hx ⟨q, hq, e⟩
  · intro h q hq
    rw [← hn.get q hq, h]
end
section
variable {P : Program} {N : Sz} {w0 w : World} {B0 : Cx} {φ : Refs} {Ss : List (List Nat)} {st : St} {a : Act}
theorem WL.setO {r : Nat} {o o' : Obj} (h : w.heap[r]? = some o) (ho : noCells o) : WL w (setO w r o') := by
  refine ⟨by simp, fun b c T z hb => ?_⟩; rw [Array.getElem?_setIfInBounds]; split
  · rename_i e
    subst e; rw [h] at hb; cases hb
    exact ho.elim
  · exact hb
theorem WL.alloc (w : World) (o : Obj) : WL w (w.alloc o) := by
  refine ⟨by show w.heap.size ≤ (w.heap.push o).size; simp, fun b c T z hb => ?_⟩; have hlt := (Array.getElem?_eq_some_iff.1 hb).1
  show (w.heap.push o)[b]? = _
  rw [Array.getElem?_push_lt hlt, ← Array.getElem?_eq_getElem hlt]; exact hb
theorem Gh.mid {g1 g2 : GS} {q : Nat × Obj} (h : Gh w0 Ss (g1 ++ q :: g2) w) : w.heap[q.1]? = some q.2 ∧ noCells q.2 ∧ q.1 ∉ Ss.flatten ∧ w0.heap.size ≤ q.1 := by
  have hm : q ∈ g1 ++ q :: g2 := by simp
  exact ⟨h.here q hm, h.no q hm, h.own q hm, h.new q hm⟩
theorem Gh.set {g1 g2 : GS} {r : Nat} {o o' : Obj} (h : Gh w0 Ss (g1 ++ (r, o) :: g2) w) (ho : noCells o') : Gh w0 Ss (g1 ++ (r, o') :: g2) (setO w r o') := by
  obtain ⟨e1, e2, e3, e4⟩ := h.mid; have hnd := h.nd
  have hmem : ∀ q ∈ g1 ++ (r, o') :: g2, q = (r, o') ∨ (q ∈ g1 ++ (r, o) :: g2 ∧ q.1 ≠ r) := by
    intro q hq; simp only [List.map_append, List.map_cons] at hnd; rw [List.nodup_append, List.nodup_cons] at hnd; rcases List.mem_append.1 hq with h1 | h1
    · right
      refine ⟨List.mem_append_left _ h1, fun e => ?_⟩; exact hnd.2.2 q.1 (List.mem_map.2 ⟨q, h1, rfl⟩) r (by simp) e
    · rcases List.mem_cons.1 h1 with h1 | h1
      · exact .inl h1
      · right
        refine ⟨List.mem_append_right _ (List.mem_cons_of_mem _ h1), fun e => ?_⟩; exact hnd.2.1.1 (e ▸ List.mem_map.2 ⟨q, h1, rfl⟩)
  refine ⟨fun q hq => ?_, fun q hq => ?_, fun q hq => ?_, fun q hq => ?_, by simpa using hnd⟩
  · rcases hmem q hq with rfl | ⟨h1, h2⟩
    · show (w.heap.setIfInBounds r o')[r]? = some o'
      have := (Array.getElem?_eq_some_iff.1 e1).1
      simp [this]
    · show (w.heap.setIfInBounds r o')[q.1]? = some q.2
      rw [Array.getElem?_setIfInBounds, if_neg (fun e => h2 e.symm)]; exact h.here q h1
  · rcases hmem q hq with rfl | ⟨h1, h2⟩
    · exact ho
    · exact h.no q h1
  · rcases hmem q hq with rfl | ⟨h1, h2⟩
    · exact e3
    · exact h.own q h1
  · rcases hmem q hq with rfl | ⟨h1, h2⟩
    · exact e4
    · exact h.new q h1
theorem Rel.setO (h : Rel N w0 B0 φ Ss st a w) {g1 g2 : GS} {r : Nat} {o o' : Obj} (hG : Gh w0 Ss (g1 ++ (r, o) :: g2) w) : Rel N w0 B0 φ Ss st a (setO w r o') := by
  obtain ⟨e1, e2, e3, e4⟩ := hG.mid; refine h.wl (WL.setO e1 e2) rfl rfl rfl fun b hb _ => ?_
  show (w.heap.setIfInBounds r o')[b]? = _
  rw [Array.getElem?_setIfInBounds, if_neg (by simp only [] at e4; omega)]
theorem Rel.alloc (h : Rel N w0 B0 φ Ss st a w) (o : Obj) : Rel N w0 B0 φ Ss st a (w.alloc o) := by
  have hf := h.fr.size
  refine h.wl (WL.alloc w o) rfl rfl rfl fun b hb _ => ?_
  show (w.heap.push o)[b]? = _
  rw [Array.getElem?_push_lt (by omega), ← Array.getElem?_eq_getElem (by omega)]
theorem Gh.alloc {gs : GS} (h : Gh w0 Ss gs w) (hR : Rel N w0 B0 φ Ss st a w) {o : Obj} (ho : noCells o) : Gh w0 Ss ((w.heap.size, o) :: gs) (w.alloc o) := by
  have hlt : ∀ q ∈ gs, q.1 < w.heap.size := fun q hq => (Array.getElem?_eq_some_iff.1 (h.here q hq)).1
  refine ⟨fun q hq => ?_, fun q hq => ?_, fun q hq => ?_, fun q hq => ?_, ?_⟩
  · rcases List.mem_cons.1 hq with rfl | h1
    · show (w.heap.push o)[w.heap.size]? = some o
      simp
    · show (w.heap.push o)[q.1]? = some q.2
      have := hlt q h1
      rw [Array.getElem?_push_lt this, ← Array.getElem?_eq_getElem this]; exact h.here q h1
  · rcases List.mem_cons.1 hq with rfl | h1
    · exact ho
    · exact h.no q h1
  · rcases List.mem_cons.1 hq with rfl | h1
    · intro hm
      have := (hR.bound _ hm).1
      simp at this
    · exact h.own q h1
  · rcases List.mem_cons.1 hq with rfl | h1
    · exact hR.fr.size
    · exact h.new q h1
  · rw [List.map_cons, List.nodup_cons]
    refine ⟨fun hm => ?_, h.nd⟩; obtain ⟨q, hq, e⟩ := List.mem_map.1 hm; have := hlt q hq
    simp only [] at e; omega
theorem Rel.putU (h : Rel N w0 B0 φ Ss st a w) {d : Nat} (hd : d < N.n) (hu : lk st.env d = .undef) (x : Value) : Rel N w0 B0 φ Ss st (a.put (some d) x) w := by
  refine (h.put (d := some d) (by simp [dOk, hd]) (VR.undef x)).lkc (fun t => ?_) rfl; simp only [putE, lk]; split
  · rename_i e; subst e; exact hu
  · rfl
theorem put_get {d t : Nat} {x : Value} (h : d < a.tmps.size) : (a.put (some d) x).tmps.getD t Go.undef = if t = d then x else a.tmps.getD t Go.undef := by
  simp only [Act.put]; split
  · rename_i e
    subst e; simp [Array.getD_eq_getD_getElem?, h]
  · rename_i e
    simp [Array.getD_eq_getD_getElem?, Ne.symm e]
theorem wpOp_val {ops : Array Oper} {Q : Exit → Act → World → Prop} {i : Nat} {K : Act → World → Prop} {o : Oper} {y : Value} {w' : World} (hi : ops[i]? = some o) (hg : o.guard = none) (hrun : (execOp a.eval o).run P w = .ok (.value y) w') (hK : K (a.put o.dst y) w') : wpOp P ops Q i K a w := by
  unfold wpOp; rw [hi]; simp only; rw [if_pos (by simp [Region.wanted, hg])]
  left
  unfold Oper.wp; rw [hrun]; exact hK
theorem wpOp_skip {ops : Array Oper} {Q : Exit → Act → World → Prop} {i : Nat} {K : Act → World → Prop} {o : Oper} {w' : World} (hi : ops[i]? = some o) (hg : o.guard = none) (hd : o.dst = none) (hrun : (execOp a.eval o).run P w = .ok .skip w') (hK : K a w') : wpOp P ops Q i K a w := by
  unfold wpOp; rw [hi]; simp only; rw [if_pos (by simp [Region.wanted, hg])]
  left
  unfold Oper.wp; rw [hrun, Oper.upon_skip, hd]; exact hK
end
end HK
namespace HK
open Go
section
variable {P : Program} {N : Sz} {w0 w : World} {B0 : Cx} {φ : Refs} {Ss : List (List Nat)} {st : St} {a : Act}
theorem wpList_val {ops : Array Oper} {Q : Exit → Act → World → Prop} {rest : List Oper} {o : Oper} {y : Value} {w' : World} (hg : o.guard = none) (hrun : (execOp a.eval o).run P w = .ok (.value y) w') (hK : wpList P ops Q rest (a.put o.dst y) w') : wpList P ops Q (o :: rest) a w := by
  unfold wpList; rw [if_pos (by simp [Region.wanted, hg])]
  left
  unfold Oper.wp; rw [hrun]; exact hK
theorem eval_con (h : Rel N w0 B0 φ Ss st a w) {t : Nat} {v : Value} (e : lk st.env t = .con v) : a.eval (.tmp t) = v := by
  have := act_eval h (.tmp t)
  rw [show ev st.env (.tmp t) = lk st.env t from rfl, e] at this; cases this
  rfl
theorem eval_agg (h : Rel N w0 B0 φ Ss st a w) {t : Nat} {cs : List AV} (e : lk st.env t = .agg cs) (hb : cs.all basic = true) : a.eval (.tmp t) = keyV cs := by
  have := act_eval h (.tmp t)
  rw [show ev st.env (.tmp t) = lk st.env t from rfl, e] at this
  generalize a.eval (.tmp t) = x at this
  cases this with
  | agg _ vs _ hc => rw [hc.basic hb]; rfl
theorem Gh.none (w0 : World) (Ss : List (List Nat)) (w : World) : Gh w0 Ss [] w := ⟨fun _ h => absurd h (by simp), fun _ h => absurd h (by simp), fun _ h => absurd h (by simp), fun _ h => absurd h (by simp), List.nodup_nil⟩
theorem SW.mapK {id : Nat} {t : TypeId} {d d' : Nat} {ty ty' : TypeId} {pos pos' : String} {af af' : Array Edge} {y : Code} {Q : Exit → St → Prop} (hd : d < N.n) (hd' : d' < N.n)
    (h : ∀ r : Nat, SM P N y (fun e s _ => Q e s) ⟨(d', .con (.map (some r))) :: (d, .con (.map (some r))) :: st.env, st.heap⟩ [(r, .map #[] 0)]) :
    SW P N (.seq (.region id #[⟨some d, .makeMap t none, ty, pos, af, none⟩, ⟨some d', .assign (.tmp d), ty', pos', af', none⟩] false) y) Q st := by
  intro w0 B0 φ Ss a w hR; refine wp_seq (wp_region_lit (l := [⟨some d, .makeMap t none, ty, pos, af, none⟩, ⟨some d', .assign (.tmp d), ty', pos', af', none⟩]) ?_)
  have h1 : (execOp a.eval ⟨some d, .makeMap t none, ty, pos, af, none⟩).run P w = .ok (.value (.map (some w.heap.size))) (w.alloc (.map #[] 0)) := by
    simp [execOp, Instr.makeMap, newObj, Sem.run]
  have hR1 : Rel N w0 B0 φ Ss ⟨(d, .con (.map (some w.heap.size))) :: st.env, st.heap⟩ (a.put (some d) (.map (some w.heap.size))) (w.alloc (.map #[] 0)) :=
    (hR.alloc (.map #[] 0)).put (d := some d) (by simp [dOk, hd]) (VR.con _)
  have hG1 : Gh w0 Ss [(w.heap.size, .map #[] 0)] (w.alloc (.map #[] 0)) :=
    Gh.alloc (gs := []) (Gh.none w0 Ss w) hR trivial
  refine wpList_val rfl h1 ?_
  have h2 : (execOp (a.put (some d) (.map (some w.heap.size))).eval ⟨some d', .assign (.tmp d), ty', pos', af', none⟩).run P (w.alloc (.map #[] 0)) = .ok (.value (.map (some w.heap.size))) (w.alloc (.map #[] 0)) := by
    have e := eval_con (t := d) (v := .map (some w.heap.size)) hR1 (by simp [lk])
    simp only [execOp, Sem.run_pure]; rw [e]
  refine wpList_val rfl h2 ?_; have hR2 := hR1.put (d := some d') (by simp [dOk, hd']) (VR.con (.map (some w.heap.size)))
  exact wp_mono (h w.heap.size w0 B0 φ Ss _ _ hR2 hG1) fun e a' w' ⟨s, g, φ', Ss', q1, q2, q3⟩ => ⟨s, φ', Ss', q1, q2⟩
def mapOk (ops : List Oper) (k : Nat) : Bool :=
  qOk ops (ancT ops (List.range ops.length) []) [] [] ((List.range k).map fun i => (i, false)) && decide (ops.length = k + 5) &&
  (List.range 5).all (fun j => (List.range k).all fun z => (lkT (ancT ops (List.range ops.length) []) (k + j)).contains z) &&
  (List.range (k + 5)).all (fun j => match ops[j]? with | some o => (prd o).all fun p => decide (p < j) | none => false) &&
  (match ops[k + 1]?, ops[k + 3]?, ops[k + 4]? with
    | some oB, some oX, some oS => (prd oB).contains k && (prd oX).contains (k + 2) && (prd oS).contains (k + 1) && (prd oS).contains (k + 3)
    | _, _, _ => false)
theorem ready_all {ops : List Oper} {listed : Array Bool} (hs : listed.size = ops.length) (hd : ∀ j o, ops[j]? = some o → ∀ p ∈ prd o, p < j) (hr : Region.ready .any ops.toArray listed = []) : ∀ j, j < ops.length → listed.getD j false = true := by
  intro j
  induction j using Nat.strongRecOn with
  | _ j ih =>
    intro hj
    cases h : listed.getD j false with
    | true => rfl
    | false =>
      have : j ∈ Region.ready .any ops.toArray listed := (ready_iff hs).2 ⟨h, ops[j], List.getElem?_eq_getElem hj, fun p hp => by
        have hlt := hd j ops[j] (List.getElem?_eq_getElem hj) p hp
        exact ih p hlt (by omega)⟩
      rw [hr] at this; cases this
variable {K : Type} [DecidableEq K] {kt mt et : TypeId} {cl : K → List AV}
structure TI (P : Program) (N : Sz) (w0 : World) (B0 : Cx) (st : St) (g1 g2 : GS) (r : Nat) (cl : K → List AV) (l : List (K × Int)) (x : K) (v : Int) (tL tB tM tX k : Nat) (listed : Array Bool) (a : Act) (w : World) : Prop where
  rel : ∃ φ Ss, Rel N w0 B0 φ Ss st a w ∧ Gh w0 Ss (g1 ++ (r, mapO cl (if listed.getD (k + 2) false then ensQ l x else l)) :: g2) w
  hL : listed.getD k false = true → a.eval (.tmp tL) = .int .i64 (getQ l x)
  hB : listed.getD (k + 1) false = true → a.eval (.tmp tB) = .int .i64 v
  hM : listed.getD (k + 2) false = true → ∃ z, a.eval (.tmp tM) = .tuple #[z, goInt (idxQ l x)]
  hX : listed.getD (k + 3) false = true → a.eval (.tmp tX) = goInt (idxQ l x)
theorem eval_put {d t : Nat} {x : Value} (h : d < a.tmps.size) : (a.put (some d) x).eval (.tmp t) = if t = d then x else a.eval (.tmp t) := put_get h
theorem getQ_ens (l : List (K × Int)) (x : K) : getQ (ensQ l x) x = getQ l x := by
  unfold ensQ
  cases hq : findQ l 0 x with
  | some q => rfl
  | none =>
    simp only; have h0 : getQ l x = 0 := by unfold getQ; rw [hq]
    rw [h0]
    have : ∀ (l : List (K × Int)), (∀ q ∈ l, q.1 ≠ x) → getQ (l ++ [(x, 0)]) x = 0 := by
      intro l
      induction l with
      | nil => intro _; rw [List.nil_append, getQ_cons, if_pos rfl]
      | cons p r ih =>
        intro h; rw [List.cons_append, getQ_cons, if_neg (fun e => h p (by simp) e.symm)]; exact ih fun q hq => h q (by simp [hq])
    exact this l (findQ_none.1 hq)
theorem TI.put {g1 g2 : GS} {r : Nat} {l : List (K × Int)} {x : K} {v : Int} {tL tB tM tX k : Nat} {listed : Array Bool} (h : TI P N w0 B0 st g1 g2 r cl l x v tL tB tM tX k listed a w) : a.tmps.size = N.n := by
  obtain ⟨φ, Ss, hR, _⟩ := h.rel; exact hR.size
structure MapOps (ops : List Oper) (k : Nat) (mt : TypeId) (om ok tL tB tM tX : Nat) (bop : BinOp) (it it2 : TypeId) : Prop where
  L : ∃ y p a, ops[k]? = some ⟨some tL, .lookup mt (.tmp om) (.tmp ok) false, y, p, a, none⟩
  B : ∃ y p a, ops[k + 1]? = some ⟨some tB, .binOp bop it (.tmp tL) (.const (.int .i64 1)) it2, y, p, a, none⟩
  M : ∃ y p a, ops[k + 2]? = some ⟨some tM, .mapEntry mt (.tmp om) (.tmp ok), y, p, a, none⟩
  X : ∃ y p a, ops[k + 3]? = some ⟨some tX, .extract (.tmp tM) 1, y, p, a, none⟩
  S : ∃ y p a, ops[k + 4]? = some ⟨none, .entryStore mt (.tmp om) (.tmp tX) (.tmp tB), y, p, a, none⟩
theorem tail_sound {ops : List Oper} {k : Nat} {Q : Exit → Act → World → Prop} {g1 g2 : GS} {r : Nat} {l : List (K × Int)} {x : K} {v : Int} {tL tB tM tX om ok : Nat} {bop : BinOp} {it it2 : TypeId}
    (hk : KeyOk P kt cl) (hmt : P.underlying mt = some (.map kt et)) (hz : ∀ w : World, (zeroValue et).run P w = .ok (.int .i64 0) w) (ho : MapOps ops k mt om ok tL tB tM tX bop it it2)
    (hlen : ops.length = k + 5) (hdep : ∀ j o, ops[j]? = some o → ∀ p ∈ prd o, p < j) (hpB : ∀ o, ops[k + 1]? = some o → k ∈ prd o) (hpX : ∀ o, ops[k + 3]? = some o → k + 2 ∈ prd o) (hpS : ∀ o, ops[k + 4]? = some o → k + 1 ∈ prd o ∧ k + 3 ∈ prd o)
    (nL : tL < N.n) (nB : tB < N.n) (nM : tM < N.n) (nX : tX < N.n) (hnd : [tL, tB, tM, tX].Nodup)
    (em : lk st.env om = .con (.map (some r))) (ek : lk st.env ok = .agg (cl x)) (uL : lk st.env tL = .undef) (uB : lk st.env tB = .undef) (uM : lk st.env tM = .undef) (uX : lk st.env tX = .undef)
    (hop : bop = .add ∧ v = IntKind.i64.wrap (getQ l x + 1) ∨ bop = .sub ∧ v = IntKind.i64.wrap (getQ l x - 1))
    (next : ∀ a w φ Ss, Rel N w0 B0 φ Ss st a w → Gh w0 Ss (g1 ++ (r, mapO cl (putQ l x v)) :: g2) w → Q .normal a w) :
    ∀ (fuel : Nat) (listed : Array Bool) (a : Act) (w : World), listed.size = ops.length → Closed ops listed → (∀ j, j < k → listed.getD j false = true) → listed.getD (k + 4) false = false →
      TI P N w0 B0 st g1 g2 r cl l x v tL tB tM tX k listed a w → (!listed.getD k false).toNat + (!listed.getD (k + 1) false).toNat + (!listed.getD (k + 2) false).toNat + (!listed.getD (k + 3) false).toNat + 1 ≤ fuel →
      wpAny P .any ops.toArray Q fuel listed a w
  | 0, listed, a, w, _, _, _, _, _, hf => by omega
  | f + 1, listed, a, w, hs, hcl, hpre, hun, hI, hf => by
    have hta : a.tmps.size = N.n := hI.put
    simp only [List.nodup_cons, List.mem_cons, List.not_mem_nil, or_false, not_or, List.nodup_nil, and_true, not_false_eq_true] at hnd; obtain ⟨⟨d1, d2, d3⟩, ⟨d4, d5⟩, d6⟩ := hnd
    have eM : a.eval (.tmp om) = .map (some r) := by
      obtain ⟨φ, Ss, hR, _⟩ := hI.rel; exact eval_con hR em
    have eK : a.eval (.tmp ok) = keyV (cl x) := by
      obtain ⟨φ, Ss, hR, _⟩ := hI.rel; exact eval_agg hR ek (hk.bs x)
    have IH := fun (i : Nat) (a' : Act) (w' : World) (hi : i < ops.length) (hi4 : i ≠ k + 4) (hc : Closed ops (listed.setIfInBounds i true)) => tail_sound (Q := Q) hk hmt hz ho hlen hdep hpB hpX hpS nL nB nM nX (by simp [d1, d2, d3, d4, d5, d6]) em ek uL uB uM uX hop next f (listed.setIfInBounds i true) a' w' (by simpa using hs) hc
      (fun j hj => by rw [listed_set hs hi]; split <;> first | rfl | exact hpre j hj) (by rw [listed_set hs hi, if_neg (fun e => hi4 e.symm)]; exact hun)
    have lsd := fun (i j : Nat) (hi : i < ops.length) => listed_set (i := j) hs hi
    refine ⟨fun h0 => ?_, fun i hi => ?_⟩
    · have := ready_all hs hdep h0 (k + 4) (by omega)
      rw [this] at hun; cases hun
    · obtain ⟨hui, o, hoi, hpi⟩ := (ready_iff hs).1 hi
      have hil : i < ops.length := (List.getElem?_eq_some_iff.1 hoi).1
      have hge : k ≤ i := by
        rcases Nat.lt_or_ge i k with h | h
        · rw [hpre i h] at hui; cases hui
        · exact h
      have hcs := hcl.set hs hoi hpi
      obtain ⟨φ, Ss, hR, hG⟩ := hI.rel; have hcases : i = k ∨ i = k + 1 ∨ i = k + 2 ∨ i = k + 3 ∨ i = k + 4 := by omega
      rcases hcases with rfl | rfl | rfl | rfl | rfl
      · -- look-up
        obtain ⟨y1, y2, y3, hL⟩ := ho.L
        have hrun : (execOp a.eval ⟨some tL, .lookup mt (.tmp om) (.tmp ok) false, y1, y2, y3, none⟩).run P w = .ok (.value (.int .i64 (getQ l x))) w := by
          have hr := hG.mid.1
          simp only [execOp, eM, eK, Sem.run_bind]
          cases hb : listed.getD (i + 2) false with
          | false =>
            rw [hb] at hr
            rw [run_lookup hk hmt hz (l := l) hr x]; rfl
          | true =>
            rw [hb] at hr; rw [run_lookup hk hmt hz (l := ensQ l x) hr x, getQ_ens]; rfl
        refine wpOp_val (by simpa using hL) rfl hrun (IH _ _ _ hil (by omega) hcs ⟨⟨φ, Ss, hR.putU nL uL _, by rw [lsd _ _ hil, if_neg (show i + 2 ≠ i by omega)]; exact hG⟩, fun _ => by rw [eval_put (by omega), if_pos rfl], fun h => ?_, fun h => ?_, fun h => ?_⟩ ?_)
        · rw [lsd _ _ hil, if_neg (by omega)] at h
          rw [eval_put (by omega), if_neg (fun e => d1 e.symm)]; exact hI.hB h
        · rw [lsd _ _ hil, if_neg (by omega)] at h
          rw [eval_put (by omega), if_neg (fun e => d2 e.symm)]; exact hI.hM h
        · rw [lsd _ _ hil, if_neg (by omega)] at h
          rw [eval_put (by omega), if_neg (fun e => d3 e.symm)]; exact hI.hX h
        · rw [hui] at hf
          simp only [lsd _ _ hil, if_pos, if_neg (show i + 1 ≠ i by omega), if_neg (show i + 2 ≠ i by omega), if_neg (show i + 3 ≠ i by omega)]; simp at hf ⊢; omega
      · -- sum
        obtain ⟨y1, y2, y3, hB⟩ := ho.B; have hkL : listed.getD k false = true := hpi k (hpB o hoi)
        have hrun : (execOp a.eval ⟨some tB, .binOp bop it (.tmp tL) (.const (.int .i64 1)) it2, y1, y2, y3, none⟩).run P w = .ok (.value (.int .i64 v)) w := by
          have e1 := hI.hL hkL
          have hb : (binV P bop it (.int .i64 (getQ l x)) (.int .i64 1)).1 ∧ (binV P bop it (.int .i64 (getQ l x)) (.int .i64 1)).2 = .int .i64 v := by
            rcases hop with ⟨rfl, rfl⟩ | ⟨rfl, rfl⟩ <;> exact ⟨⟨rfl, trivial⟩, rfl⟩
          obtain ⟨z, h1, h2⟩ := binV_sound (P := P) (w := w) (own := fun _ => False) (φ := nof) (op := bop) (t := it) (x := .tmp tL) (y := .const (.int .i64 1)) (VR.int .i64 (getQ l x)) (VR.int .i64 1) hb.1; rw [hb.2] at h2; cases h2
          have e2 : a.eval (.const (.int .i64 1)) = .int .i64 1 := rfl
          simp only [execOp, e1, e2]; rw [Sem.run_bind, h1]; rfl
        refine wpOp_val (by simpa using hB) rfl hrun (IH _ _ _ hil (by omega) hcs ⟨⟨φ, Ss, hR.putU nB uB _, by rw [lsd _ _ hil, if_neg (show k + 2 ≠ k + 1 by omega)]; exact hG⟩, fun h => ?_, fun _ => by rw [eval_put (by omega), if_pos rfl], fun h => ?_, fun h => ?_⟩ ?_)
        · rw [lsd _ _ hil, if_neg (by omega)] at h
          rw [eval_put (by omega), if_neg d1]; exact hI.hL h
        · rw [lsd _ _ hil, if_neg (by omega)] at h
          rw [eval_put (by omega), if_neg (fun e => d4 e.symm)]; exact hI.hM h
        · rw [lsd _ _ hil, if_neg (by omega)] at h
          rw [eval_put (by omega), if_neg (fun e => d5 e.symm)]; exact hI.hX h
        · rw [hui] at hf
          simp only [lsd _ _ hil, if_pos, if_neg (show k ≠ k + 1 by omega), if_neg (show k + 2 ≠ k + 1 by omega), if_neg (show k + 3 ≠ k + 1 by omega)]; simp at hf ⊢; omega
      · -- entry
        obtain ⟨y1, y2, y3, hM⟩ := ho.M; rw [hui] at hG
        have hrun : (execOp a.eval ⟨some tM, .mapEntry mt (.tmp om) (.tmp ok), y1, y2, y3, none⟩).run P w = .ok (.value (.tuple #[.int .i64 (getQ l x), goInt (idxQ l x)])) (setO w r (mapO cl (ensQ l x))) := by
          have hr := hG.mid.1
          simp only [execOp, eM, eK, Sem.run_bind]; rw [run_mapEntry hk hmt hz (l := l) hr x]; rfl
        refine wpOp_val (by simpa using hM) rfl hrun (IH _ _ _ hil (by omega) hcs ⟨⟨φ, Ss, (hR.setO hG).putU nM uM _, by rw [lsd _ _ hil, if_pos (show k + 2 = k + 2 from rfl)]; exact hG.set trivial⟩, fun h => ?_, fun h => ?_, fun _ => ⟨_, by rw [eval_put (by omega), if_pos rfl]⟩, fun h => ?_⟩ ?_)
        · rw [lsd _ _ hil, if_neg (by omega)] at h
          rw [eval_put (by omega), if_neg d2]; exact hI.hL h
        · rw [lsd _ _ hil, if_neg (by omega)] at h
          rw [eval_put (by omega), if_neg d4]; exact hI.hB h
        · rw [lsd _ _ hil, if_neg (by omega)] at h
          rw [eval_put (by omega), if_neg (fun e => d6 e.symm)]; exact hI.hX h
        · rw [hui] at hf
          simp only [lsd _ _ hil, if_pos, if_neg (show k ≠ k + 2 by omega), if_neg (show k + 1 ≠ k + 2 by omega), if_neg (show k + 3 ≠ k + 2 by omega)]; simp at hf ⊢; omega
      · -- its stamp
        obtain ⟨y1, y2, y3, hX⟩ := ho.X; have hkM : listed.getD (k + 2) false = true := hpi (k + 2) (hpX o hoi)
        obtain ⟨z, hz2⟩ := hI.hM hkM
        have hrun : (execOp a.eval ⟨some tX, .extract (.tmp tM) 1, y1, y2, y3, none⟩).run P w = .ok (.value (goInt (idxQ l x))) w := by
          simp only [execOp, hz2, Instr.extract, Sem.run_bind]; rfl
        refine wpOp_val (by simpa using hX) rfl hrun (IH _ _ _ hil (by omega) hcs ⟨⟨φ, Ss, hR.putU nX uX _, by rw [lsd _ _ hil, if_neg (show k + 2 ≠ k + 3 by omega)]; exact hG⟩, fun h => ?_, fun h => ?_, fun h => ?_, fun _ => by rw [eval_put (by omega), if_pos rfl]⟩ ?_)
        · rw [lsd _ _ hil, if_neg (by omega)] at h
          rw [eval_put (by omega), if_neg d3]; exact hI.hL h
        · rw [lsd _ _ hil, if_neg (by omega)] at h
          rw [eval_put (by omega), if_neg d5]; exact hI.hB h
        · rw [lsd _ _ hil, if_neg (by omega)] at h
          rw [eval_put (by omega), if_neg d6]; exact hI.hM h
        · rw [hui] at hf
          simp only [lsd _ _ hil, if_pos, if_neg (show k ≠ k + 3 by omega), if_neg (show k + 1 ≠ k + 3 by omega), if_neg (show k + 2 ≠ k + 3 by omega)]; simp at hf ⊢; omega
      · -- store
        obtain ⟨y1, y2, y3, hS⟩ := ho.S; have hkB : listed.getD (k + 1) false = true := hpi (k + 1) (hpS o hoi).1
        have hkX : listed.getD (k + 3) false = true := hpi (k + 3) (hpS o hoi).2
        have hkL : listed.getD k false = true := by
          obtain ⟨z1, z2, z3, hB⟩ := ho.B; exact hcl (k + 1) _ hkB hB k (hpB _ hB)
        have hkM : listed.getD (k + 2) false = true := by
          obtain ⟨z1, z2, z3, hX⟩ := ho.X; exact hcl (k + 3) _ hkX hX (k + 2) (hpX _ hX)
        rw [hkM] at hG
        have hrun : (execOp a.eval ⟨none, .entryStore mt (.tmp om) (.tmp tX) (.tmp tB), y1, y2, y3, none⟩).run P w = .ok .skip (setO w r (mapO cl (putQ l x v))) := by
          have hr := hG.mid.1
          simp only [execOp, eM, hI.hX hkX, hI.hB hkB, Sem.run_bind]; rw [run_entryStore (cl := cl) (l := l) (x := x) (v := v) hr]; rfl
        refine wpOp_skip (by simpa using hS) rfl rfl hrun (wpAny_done ?_ (next _ _ φ Ss (hR.setO hG) (hG.set trivial)) f); rw [List.eq_nil_iff_forall_not_mem]; intro j hj; obtain ⟨h1, o2, h2, _⟩ := (ready_iff (by simpa using hs)).1 hj
        have hjl := (List.getElem?_eq_some_iff.1 h2).1
        rw [lsd _ _ hil] at h1; split at h1
        · cases h1
        · rename_i hne
          have : j < k ∨ j = k ∨ j = k + 1 ∨ j = k + 2 ∨ j = k + 3 := by omega
          rcases this with h | rfl | rfl | rfl | rfl
          · rw [hpre j h] at h1; cases h1
          · rw [hkL] at h1; cases h1
          · rw [hkB] at h1; cases h1
          · rw [hkM] at h1; cases h1
          · rw [hkX] at h1; cases h1
end
end HK
namespace HK
open Go
section
variable {P : Program} {N : Sz} {K : Type} [DecidableEq K] {kt mt et : TypeId} {cl : K → List AV}
theorem qrange_get {k i x : Nat} {c : Bool} (h : ((List.range k).map fun i => (i, false))[i]? = some ((x, c) : Nat × Bool)) : i < k ∧ x = i ∧ c = false := by
  rw [List.getElem?_map] at h; rcases Nat.lt_or_ge i k with hk | hk
  · rw [List.getElem?_range hk] at h
    simp at h; exact ⟨hk, h.1.symm, h.2⟩
  · rw [List.getElem?_eq_none (by simpa using hk)] at h
    cases h
theorem SM.countE (hm : P.follows .mixedOrders = true) {id : Nat} {ops : List Oper} {Q : Exit → St → GS → Prop} {st : St} (k : Nat) {g1 g2 : GS} {r : Nat} {l : List (K × Int)} (x : K) (v : Int) {tL tB tM tX om ok : Nat} {bop : BinOp} {it it2 : TypeId}
    (hk : KeyOk P kt cl) (hmt : P.underlying mt = some (.map kt et)) (hz : ∀ w : World, (zeroValue et).run P w = .ok (.int .i64 0) w) (ho : MapOps ops k mt om ok tL tB tM tX bop it it2) (hok : mapOk ops k = true)
    (nL : tL < N.n) (nB : tB < N.n) (nM : tM < N.n) (nX : tX < N.n) (hnd : [tL, tB, tM, tX].Nodup)
    (hop : bop = .add ∧ v = IntKind.i64.wrap (getQ l x + 1) ∨ bop = .sub ∧ v = IntKind.i64.wrap (getQ l x - 1))
    (h : ∀ J : St → Prop, (∀ s, lk s.env om = .con (.map (some r)) → lk s.env ok = .agg (cl x) → lk s.env tL = .undef → lk s.env tB = .undef → lk s.env tM = .undef → lk s.env tX = .undef →
      Q .normal s (g1 ++ (r, mapO cl (putQ l x v)) :: g2) → J s) → runQ P N (ops.map (·.dst)) ((ops.take k).map fun o => (false, o)) st J) :
    SM P N (.region id ops.toArray true) Q st (g1 ++ (r, mapO cl l) :: g2) := by
  intro w0 B0 φ Ss a w hR hG; refine wp_region_any hm ?_; have hR1 : Rel N w0 B0 φ Ss st a { w with drawn := w.drawn + 1 } := hR.drew _
  have hG1 : Gh w0 Ss (g1 ++ (r, mapO cl l) :: g2) { w with drawn := w.drawn + 1 } := ⟨hG.here, hG.no, hG.own, hG.new, hG.nd⟩
  generalize ({ w with drawn := w.drawn + 1 } : World) = w1 at hR1 hG1 ⊢
  have hR2 := hR1.rebase
  have hr0 := h (fun s => (lk s.env om = .con (.map (some r)) ∧ lk s.env ok = .agg (cl x) ∧ lk s.env tL = .undef ∧ lk s.env tB = .undef ∧ lk s.env tM = .undef ∧ lk s.env tX = .undef) ∧ Q .normal s (g1 ++ (r, mapO cl (putQ l x v)) :: g2)) (fun s h1 h2 h3 h4 h5 h6 h7 => ⟨⟨h1, h2, h3, h4, h5, h6⟩, h7⟩)
  obtain ⟨its, i1, i2, i3⟩ := runQ_its hr0; obtain ⟨⟨c1, c2, c3, c4, c5, c6⟩, hy⟩ := i2; unfold mapOk at hok; simp only [Bool.and_eq_true, decide_eq_true_eq, List.all_eq_true, List.mem_range, List.contains_iff_mem] at hok
  obtain ⟨⟨⟨⟨hq, hlen⟩, hanc⟩, hdep0⟩, hpp⟩ := hok
  have hdep : ∀ j o, ops[j]? = some o → ∀ p ∈ prd o, p < j := fun j o hj p hp => by
    have hjl := (List.getElem?_eq_some_iff.1 hj).1
    have := hdep0 j (by omega)
    rw [hj] at this; simp only [List.all_eq_true, decide_eq_true_eq] at this; exact this p hp
  obtain ⟨b1, b2, b3, hB⟩ := ho.B; obtain ⟨x1, x2, x3, hX⟩ := ho.X; obtain ⟨s1, s2, s3, hS⟩ := ho.S; rw [hB, hX, hS] at hpp; simp only [Bool.and_eq_true, List.contains_iff_mem] at hpp
  have hT : TOk ops (ancT ops (List.range ops.length) []) := ancT_ok _ fun x z hz => by simp [lkT] at hz
  generalize ancT ops (List.range ops.length) [] = T at hT hq hanc
  have hidx : planIdx [.b k, .b (k + 1), .b (k + 2), .b (k + 3), .b (k + 4)] = [k, k + 1, k + 2, k + 3, k + 4] := rfl
  have hno : ∀ (l : List It) (s : St), stM l (fun _ => false) s = s := fun l => by
    induction l with
    | nil => intro s; rfl
    | cons y l ih => intro s; simp only [stM]; exact ih s
  have hrep : ∀ i, (Array.replicate ops.length false).getD i false = false := fun i => by
    by_cases hi : i < ops.length
    · simp [hi]
    · simp [hi]
  have hitl : its.length = ((List.range k).map fun i => ((i, false) : Nat × Bool)).length := by
    rw [i1]; simp; omega
  have hmem : ∀ i, i ∈ ((List.range k).map fun i => ((i, false) : Nat × Bool)).map (·.1) ↔ i < k := fun i => by simp
  rw [show ops.toArray.size = ops.length by simp]
  refine seg_sound (D := []) (r := [.b k, .b (k + 1), .b (k + 2), .b (k + 3), .b (k + 4)]) (rest := 5) hT (by simp) (by simp) hq (fun z hz => ?_) (fun z hz => .inl fun p hp => ?_) hitl (fun i z c hi => ?_)
    (fun φ' Ss' a' w' listed' fuel' hs' hcl' hL' hR' hf' => ?_)
    k (List.range k) (fun _ => false) φ Ss a w1 _ _ (by simp) List.nodup_range (fun i hi => by simpa using hi) (fun i hi => by simpa using hi) (by simp) (fun y o hy => by rw [hrep] at hy; cases hy) (fun i hi => by rw [hrep]; simp) (by rw [hno]; exact hR2) (by omega)
  · rw [hidx, hmem]
    simp only [List.not_mem_nil, false_or, List.mem_cons, or_false]; omega
  · rw [hidx] at hz
    rw [hmem] at hp; simp only [List.mem_cons, List.not_mem_nil, or_false] at hz; rcases hz with rfl | rfl | rfl | rfl | rfl
    · exact hanc 0 (by omega) p hp
    · exact hanc 1 (by omega) p hp
    · exact hanc 2 (by omega) p hp
    · exact hanc 3 (by omega) p hp
    · exact hanc 4 (by omega) p hp
  · obtain ⟨h1, rfl, rfl⟩ := qrange_get hi
    have hil : z < ops.length := by omega
    have hget : ((ops.take k).map fun o => ((false, o) : Bool × Oper))[z]? = some (false, ops[z]) := by
      rw [List.getElem?_map, List.getElem?_take, if_pos h1, List.getElem?_eq_getElem hil]; rfl
    obtain ⟨it, e1, e2, e3, e4⟩ := i3 z false ops[z] hget; exact ⟨it, ops[z], e1, List.getElem?_eq_getElem hil, e2, e3, e4⟩
  · have hun : ∀ j, k ≤ j → j < ops.length → listed'.getD j false = false := fun j h1 h2 => by
      cases hc : listed'.getD j false with
      | false => rfl
      | true =>
        have := (hL' j h2).1 hc
        rw [List.nil_append, hmem] at this; omega
    have hf : ∀ {p : Prop} (j : Nat), k ≤ j → j < ops.length → listed'.getD j false = true → p := fun j h1 h2 h3 => by
      rw [hun j h1 h2] at h3; cases h3
    refine tail_sound (st := stM its (fun _ => true) st) (Q := QM N w0 B0 Q) hk hmt hz ho hlen hdep (fun o h => by rw [hB] at h; cases h; exact hpp.1.1.1) (fun o h => by rw [hX] at h; cases h; exact hpp.1.1.2) (fun o h => by rw [hS] at h; cases h; exact ⟨hpp.1.2, hpp.2⟩)
      nL nB nM nX hnd c1 c2 c3 c4 c5 c6 hop (fun a2 w2 φ2 Ss2 h1 h2 => ⟨_, _, φ2, Ss2, hy, h1, h2⟩)
      fuel' listed' a' w' hs' hcl' (fun j hj => (hL' j (by omega)).2 (by rw [List.nil_append, hmem]; exact hj)) (hun (k + 4) (by omega) (by omega)) ⟨⟨φ', Ss', hR1.unbase hR', ?_⟩, hf k (by omega) (by omega), hf (k + 1) (by omega) (by omega), hf (k + 2) (by omega) (by omega), hf (k + 3) (by omega) (by omega)⟩ ?_
    · rw [hun (k + 2) (by omega) (by omega)]
      exact hG1.keep hR1 hR'
    · rw [hun k (by omega) (by omega), hun (k + 1) (by omega) (by omega), hun (k + 2) (by omega) (by omega), hun (k + 3) (by omega) (by omega)]
      simpa using hf'
end
end HK
namespace HK
open Go
section
variable {P : Program} {N : Sz} {w : World} {K : Type} [DecidableEq K] {kt mt et : TypeId} {cl : K → List AV}
def iterO (r c : Nat) (seen : Array Nat) : Obj := .mapIter (some r) c seen c
theorem run_getO {i : Nat} {o : Obj} (h : w.heap[i]? = some o) (ho : noCells o) : (getObj i).run P w = .ok o w := by
  simp only [getObj, Sem.run, h]; cases o <;> first | rfl | exact ho.elim
theorem run_setO {i : Nat} {o : Obj} (o' : Obj) (h : w.heap[i]? = some o) (ho : noCells o) : (setObj i o').run P w = .ok () (setO w i o') := by
  simp only [setObj, Sem.run, h]; cases o <;> first | rfl | exact ho.elim
theorem entL_mem {l : List (K × Int)} {i : Nat} {e : MapEntry} (h : e ∈ entL cl l i) : ∃ j q, l[j]? = some q ∧ e = ⟨keyV (cl q.1), .int .i64 q.2, i + j⟩ := by
  obtain ⟨j, hj⟩ := List.getElem?_of_mem h; rw [entL_get] at hj
  cases hq : l[j]? with
  | none => rw [hq] at hj; cases hj
  | some q =>
    rw [hq] at hj; exact ⟨j, q, hq, (Option.some.inj hj).symm⟩
def leftN (l : List (K × Int)) (seen : Array Nat) : Nat := ((List.range l.length).filter fun j => !seen.contains j).length
theorem left_nil {l : List (K × Int)} {seen : Array Nat} (h : (leftOf (entL cl l 0).toArray seen).size = 0) : ∀ j, j < l.length → seen.contains j = true := by
  intro j hj; have h1 := all_seen (entL cl l 0).toArray seen h
  exact h1 ⟨keyV (cl l[j].1), .int .i64 l[j].2, j⟩ (List.mem_of_getElem? (i := j) (by rw [entL_get, List.getElem?_eq_getElem hj]; simp))
theorem left_less {l : List (K × Int)} {seen : Array Nat} {j : Nat} (hj : j < l.length) (hs : seen.contains j = false) : leftN l (seen.push j) < leftN l seen := by
  unfold leftN; refine filter_lt (fun i => !seen.contains i) (fun i => !(seen.push j).contains i) (fun i hi => ?_) j (by rw [hs]; rfl) (by simp [contains_push]) (List.range l.length) (List.mem_range.2 hj)
  simp only [Bool.not_eq_true', contains_push, Bool.or_eq_false_iff] at hi ⊢; exact hi.1
theorem run_next {it r : Nat} {l : List (K × Int)} {seen : Array Nat} {ty : TypeId} (hi : w.heap[it]? = some (iterO r l.length seen)) (hr : w.heap[r]? = some (mapO cl l)) :
    ((∀ j, j < l.length → seen.contains j = true) ∧ (Instr.next (.pointer (some ⟨it, 0, none⟩)) false ty).run P w = .ok (.tuple #[.bool false]) w) ∨
    ∃ j q n, l[j]? = some q ∧ seen.contains j = false ∧ (Instr.next (.pointer (some ⟨it, 0, none⟩)) false ty).run P w = .ok (.tuple #[.bool true, keyV (cl q.1), .int .i64 q.2]) { setO w it (iterO r l.length (seen.push j)) with drawn := n } := by
  have hold : ∀ x ∈ (entL cl l 0).toArray.toList, x.born < l.length := fun x hx => by
    obtain ⟨j, q, h1, rfl⟩ := entL_mem (cl := cl) (l := l) (i := 0) (by simpa using hx); have := (List.getElem?_eq_some_iff.1 h1).1
    simpa using this
  have hmem : ∀ x ∈ (leftOf (entL cl l 0).toArray seen).toList, x.born < l.length := fun x hx => hold x (mem_left hx).1
  unfold Instr.next
  simp only [Sem.run_bind, run_getO hi trivial, Result.andThen_ok, iterO, run_getO hr trivial, mapO]; rw [next_test_false seen (entL cl l 0).toArray l.length l.length hold (Nat.le_refl _)]; simp only [Bool.false_eq_true, if_false]
  show (_ ∧ Sem.run P _ w = _) ∨ _
  have hdef : (Array.filter (fun e => !seen.contains e.born) (entL cl l 0).toArray) = leftOf (entL cl l 0).toArray seen := rfl
  simp only [hdef]; have hL : ∀ h : (leftOf (entL cl l 0).toArray seen).size = 0, ∀ j, j < l.length → seen.contains j = true := fun h => left_nil h
  have hM : ∀ x ∈ (leftOf (entL cl l 0).toArray seen).toList, ∃ j q, l[j]? = some q ∧ seen.contains j = false ∧ x = ⟨keyV (cl q.1), .int .i64 q.2, j⟩ := fun x hx => by
    obtain ⟨h1, h2⟩ := mem_left hx; obtain ⟨j, q, h3, rfl⟩ := entL_mem (cl := cl) (l := l) (i := 0) (by simpa using h1); simp only [Nat.zero_add] at h2 ⊢; exact ⟨j, q, h3, h2, rfl⟩
  generalize leftOf (entL cl l 0).toArray seen = L at hmem hL hM ⊢
  have e1 : L.filter (fun x => decide (x.born < l.length)) = L := Array.filter_eq_self.2 (fun x hx => by simpa using hmem x (by simpa using hx))
  have e2 : L.filter (fun x => decide (x.born ≥ l.length)) = #[] := by
    rw [Array.filter_eq_empty_iff]; intro x hx; have := hmem x (by simpa using hx)
    simp; omega
  simp only [e1, e2, Array.append_empty]; by_cases h0 : L.size = 0
  · left
    have : L = #[] := Array.eq_empty_of_size_eq_zero h0
    subst this; refine ⟨hL rfl, ?_⟩; simp [choose, Sem.run, Question.forced]
  · right
    have hne : L.isEmpty = false := by simp [Array.isEmpty, h0]
    simp only [hne, Bool.false_eq_true, if_false, Array.empty_append, Array.size_map]
    have hch : ∃ (j n : Nat), j < L.size ∧ (choose (Question.mapNext L.size)).run P w = .ok j { w with drawn := n } := by
      by_cases hf : L.size ≤ 1
      · exact ⟨0, w.drawn, by omega, by simp [choose, Sem.run, Question.forced, hf]⟩
      · exact ⟨_, w.drawn + 1, Nat.mod_lt _ (by omega), by
          simp only [choose, Sem.run, Question.forced, decide_eq_true_eq, hf, if_false, Question.cut]
          rfl⟩
    obtain ⟨j, n, hj, hrun⟩ := hch; obtain ⟨j', q, h1, h2, h3⟩ := hM L[j] (by simp); refine ⟨j', q, n, h1, h2, ?_⟩; have hi2 : ({ w with drawn := n } : World).heap[it]? = some (.mapIter (some r) l.length seen l.length) := hi
    simp only [hrun, Array.getElem?_map, Array.getElem?_eq_getElem hj, Option.map_some, Sem.run_bind, Result.andThen_ok, h3]; rw [run_setO _ hi2 trivial]; rfl
theorem run_entry {it r : Nat} {l : List (K × Int)} {seen : Array Nat} {j : Nat} {q : K × Int} (hj : l[j]? = some q) (hi : w.heap[it]? = some (iterO r l.length (seen.push j))) (hr : w.heap[r]? = some (mapO cl l)) :
    (Instr.entry (.pointer (some ⟨it, 0, none⟩))).run P w = .ok (.tuple #[keyV (cl q.1), .int .i64 q.2]) w := by
  have hnd : ((entL cl l 0).map (·.born)).Nodup := by
    rw [entL_born]
    simpa using List.nodup_range
  have hm : (⟨keyV (cl q.1), .int .i64 q.2, j⟩ : MapEntry) ∈ entL cl l 0 := List.mem_of_getElem? (i := j) (by rw [entL_get, hj]; simp)
  have hf : (entL cl l 0).toArray.find? (·.born == j) = some ⟨keyV (cl q.1), .int .i64 q.2, j⟩ := by
    rw [← Array.find?_toList]; exact find_born ⟨keyV (cl q.1), .int .i64 q.2, j⟩ (entL cl l 0) hnd hm
  unfold Instr.entry; simp only [Sem.run_bind, run_getO hi trivial, Result.andThen_ok, iterO, Array.back?_push, run_getO hr trivial, mapO, bne_self_eq_false, Bool.false_eq_true, if_false, hf]; rfl
end
section
variable {P : Program} {N : Sz} {st : St} {y : Code} {Q : Exit → St → GS → Prop} {K : Type} [DecidableEq K] {kt mt et : TypeId} {cl : K → List AV} {r : Nat} {l : List (K × Int)}
theorem SM.rangeK {id : Nat} {d1 d2 tm : Nat} {ty1 ty2 : TypeId} {p1 p2 : String} {a1 a2 : Array Edge} (hmt : P.underlying mt = some (.map kt et)) (hd1 : d1 < N.n) (hd2 : d2 < N.n) (em : lk st.env tm = .con (.map (some r)))
    (h : ∀ it : Nat, SM P N y Q ⟨(d2, .con (.pointer (some ⟨it, 0, none⟩))) :: (d1, .con (.map (some r))) :: st.env, st.heap⟩ [(it, iterO r l.length #[]), (r, mapO cl l)]) :
    SM P N (.seq (.region id #[⟨some d1, .move (.tmp tm), ty1, p1, a1, none⟩, ⟨some d2, .range mt (.tmp d1), ty2, p2, a2, none⟩] false) y) Q st [(r, mapO cl l)] := by
  refine SM.seq fun w0 B0 φ Ss a w hR hG => ?_; refine wp_region_lit (l := [⟨some d1, .move (.tmp tm), ty1, p1, a1, none⟩, ⟨some d2, .range mt (.tmp d1), ty2, p2, a2, none⟩]) ?_
  have h1 : (execOp a.eval ⟨some d1, .move (.tmp tm), ty1, p1, a1, none⟩).run P w = .ok (.value (.map (some r))) w := by
    simp only [execOp, Sem.run_pure]; rw [eval_con hR em]
  refine wpList_val rfl h1 ?_; have hR1 : Rel N w0 B0 φ Ss ⟨(d1, .con (.map (some r))) :: st.env, st.heap⟩ (a.put (some d1) (.map (some r))) w := hR.put (d := some d1) (by simp [dOk, hd1]) (VR.con _)
  have hr := hG.here (r, mapO cl l) (by simp)
  have h2 : (execOp (a.put (some d1) (.map (some r))).eval ⟨some d2, .range mt (.tmp d1), ty2, p2, a2, none⟩).run P w = .ok (.value (.pointer (some ⟨w.heap.size, 0, none⟩))) (w.alloc (iterO r l.length #[])) := by
    have e := eval_con (t := d1) (v := .map (some r)) hR1 (by simp [lk])
    simp only [execOp, e, Sem.run_bind]; rw [run_range_map w mt kt et r (entL cl l 0).toArray l.length hmt hr]; rfl
  refine wpList_val rfl h2 ?_; have hR2 := (hR1.alloc (iterO r l.length #[])).put (d := some d2) (by simp [dOk, hd2]) (VR.con (.pointer (some ⟨w.heap.size, 0, none⟩)))
  exact ⟨_, _, φ, Ss, h w.heap.size, hR2, hG.alloc hR trivial⟩
theorem SM.nextK {id : Nat} {d1 d2 ti it : Nat} {ty1 ty2 : TypeId} {p1 p2 : String} {a1 a2 : Array Edge} {seen : Array Nat} (hd1 : d1 < N.n) (hd2 : d2 < N.n) (u1 : lk st.env d1 = .undef) (ei : lk st.env ti = .con (.pointer (some ⟨it, 0, none⟩)))
    (h0 : (∀ j, j < l.length → seen.contains j = true) → SM P N y Q ⟨(d2, .bool false) :: st.env, st.heap⟩ [(it, iterO r l.length seen), (r, mapO cl l)])
    (h1 : ∀ j q, l[j]? = some q → seen.contains j = false → SM P N y Q ⟨(d2, .bool true) :: st.env, st.heap⟩ [(it, iterO r l.length (seen.push j)), (r, mapO cl l)]) :
    SM P N (.seq (.region id #[⟨some d1, .next (.tmp ti) false, ty1, p1, a1, none⟩, ⟨some d2, .extract (.tmp d1) 0, ty2, p2, a2, none⟩] false) y) Q st [(it, iterO r l.length seen), (r, mapO cl l)] := by
  refine SM.seq fun w0 B0 φ Ss a w hR hG => ?_; refine wp_region_lit (l := [⟨some d1, .next (.tmp ti) false, ty1, p1, a1, none⟩, ⟨some d2, .extract (.tmp d1) 0, ty2, p2, a2, none⟩]) ?_
  have hi := hG.here (it, iterO r l.length seen) (by simp)
  have hr := hG.here (r, mapO cl l) (by simp)
  have ev1 := eval_con hR ei
  have hsz : a.tmps.size = N.n := hR.size
  rcases run_next (P := P) (ty := ty1) hi hr with ⟨hall, hrun⟩ | ⟨j, q, n, hj, hs, hrun⟩
  · have e1 : (execOp a.eval ⟨some d1, .next (.tmp ti) false, ty1, p1, a1, none⟩).run P w = .ok (.value (.tuple #[.bool false])) w := by
      simp only [execOp, ev1, Sem.run_bind]; rw [hrun]; rfl
    refine wpList_val rfl e1 ?_
    have e2 : (execOp (a.put (some d1) (.tuple #[.bool false])).eval ⟨some d2, .extract (.tmp d1) 0, ty2, p2, a2, none⟩).run P w = .ok (.value (.bool false)) w := by
      have e : (a.put (some d1) (.tuple #[.bool false])).eval (.tmp d1) = .tuple #[.bool false] := by rw [eval_put (by omega), if_pos rfl]
      simp only [execOp, e, Instr.extract, Sem.run_bind]; rfl
    refine wpList_val rfl e2 ?_; exact ⟨_, _, φ, Ss, h0 hall, (hR.putU hd1 u1 _).put (d := some d2) (by simp [dOk, hd2]) (VR.bool false), hG⟩
  · have e1 : (execOp a.eval ⟨some d1, .next (.tmp ti) false, ty1, p1, a1, none⟩).run P w = .ok (.value (.tuple #[.bool true, keyV (cl q.1), .int .i64 q.2])) { setO w it (iterO r l.length (seen.push j)) with drawn := n } := by
      simp only [execOp, ev1, Sem.run_bind]; rw [hrun]; rfl
    refine wpList_val rfl e1 ?_
    have e2 : (execOp (a.put (some d1) (.tuple #[.bool true, keyV (cl q.1), .int .i64 q.2])).eval ⟨some d2, .extract (.tmp d1) 0, ty2, p2, a2, none⟩).run P { setO w it (iterO r l.length (seen.push j)) with drawn := n } = .ok (.value (.bool true)) { setO w it (iterO r l.length (seen.push j)) with drawn := n } := by
      have e : (a.put (some d1) (.tuple #[.bool true, keyV (cl q.1), .int .i64 q.2])).eval (.tmp d1) = .tuple #[.bool true, keyV (cl q.1), .int .i64 q.2] := by rw [eval_put (by omega), if_pos rfl]
      simp only [execOp, e, Instr.extract, Sem.run_bind]; rfl
    refine wpList_val rfl e2 ?_; have hR1 : Rel N w0 B0 φ Ss st a (setO w it (iterO r l.length (seen.push j))) := hR.setO (g1 := []) (g2 := [(r, mapO cl l)]) hG
    have hG1 : Gh w0 Ss ([] ++ (it, iterO r l.length (seen.push j)) :: [(r, mapO cl l)]) (setO w it (iterO r l.length (seen.push j))) := Gh.set (g1 := []) (g2 := [(r, mapO cl l)]) hG trivial
    exact ⟨_, _, φ, Ss, h1 j q hj hs, ((hR1.drew n).putU hd1 u1 _).put (d := some d2) (by simp [dOk, hd2]) (VR.bool true), ⟨hG1.here, hG1.no, hG1.own, hG1.new, hG1.nd⟩⟩
theorem SM.nextB {id : Nat} {d1 d2 ti it : Nat} {ty1 ty2 : TypeId} {p1 p2 : String} {a1 a2 : Array Edge} {seen : Array Nat} (hd1 : d1 < N.n) (hd2 : d2 < N.n) (u1 : lk st.env d1 = .undef) (ei : lk st.env ti = .con (.pointer (some ⟨it, 0, none⟩)))
    (h : ∀ (b : Bool) (seen' : Array Nat), (b = false → seen' = seen ∧ ∀ j, j < l.length → seen.contains j = true) → (b = true → ∃ j q, l[j]? = some q ∧ seen.contains j = false ∧ seen' = seen.push j) →
      SM P N y Q ⟨(d2, .bool b) :: st.env, st.heap⟩ [(it, iterO r l.length seen'), (r, mapO cl l)]) :
    SM P N (.seq (.region id #[⟨some d1, .next (.tmp ti) false, ty1, p1, a1, none⟩, ⟨some d2, .extract (.tmp d1) 0, ty2, p2, a2, none⟩] false) y) Q st [(it, iterO r l.length seen), (r, mapO cl l)] :=
  SM.nextK hd1 hd2 u1 ei (fun hall => h false seen (fun _ => ⟨rfl, hall⟩) (fun e => by cases e)) (fun j q hj hs => h true (seen.push j) (fun e => by cases e) (fun _ => ⟨j, q, hj, hs, rfl⟩))
theorem SM.entryK {id : Nat} {d1 d2 d3 ti it : Nat} {ty1 ty2 ty3 : TypeId} {p1 p2 p3 : String} {a1 a2 a3 : Array Edge} {seen : Array Nat} {j : Nat} {q : K × Int} (hj : l[j]? = some q) (hd1 : d1 < N.n) (hd2 : d2 < N.n) (hd3 : d3 < N.n) (u1 : lk st.env d1 = .undef) (ei : lk st.env ti = .con (.pointer (some ⟨it, 0, none⟩)))
    (h : SM P N y Q ⟨(d3, .int .i64 q.2) :: (d2, .int .i64 q.2) :: st.env, st.heap⟩ [(it, iterO r l.length (seen.push j)), (r, mapO cl l)]) :
    SM P N (.seq (.region id #[⟨some d1, .entry (.tmp ti), ty1, p1, a1, none⟩, ⟨some d2, .extract (.tmp d1) 1, ty2, p2, a2, none⟩, ⟨some d3, .assign (.tmp d2), ty3, p3, a3, none⟩] false) y) Q st [(it, iterO r l.length (seen.push j)), (r, mapO cl l)] := by
  refine SM.seq fun w0 B0 φ Ss a w hR hG => ?_; refine wp_region_lit (l := [⟨some d1, .entry (.tmp ti), ty1, p1, a1, none⟩, ⟨some d2, .extract (.tmp d1) 1, ty2, p2, a2, none⟩, ⟨some d3, .assign (.tmp d2), ty3, p3, a3, none⟩]) ?_
  have hi := hG.here (it, iterO r l.length (seen.push j)) (by simp)
  have hr := hG.here (r, mapO cl l) (by simp)
  have ev1 := eval_con hR ei
  have hsz : a.tmps.size = N.n := hR.size
  have e1 : (execOp a.eval ⟨some d1, .entry (.tmp ti), ty1, p1, a1, none⟩).run P w = .ok (.value (.tuple #[keyV (cl q.1), .int .i64 q.2])) w := by
    simp only [execOp, ev1, Sem.run_bind]; rw [run_entry hj hi hr]; rfl
  refine wpList_val rfl e1 ?_; have hR1 := hR.putU hd1 u1 (.tuple #[keyV (cl q.1), .int .i64 q.2])
  have e2 : (execOp (a.put (some d1) (.tuple #[keyV (cl q.1), .int .i64 q.2])).eval ⟨some d2, .extract (.tmp d1) 1, ty2, p2, a2, none⟩).run P w = .ok (.value (.int .i64 q.2)) w := by
    have e : (a.put (some d1) (.tuple #[keyV (cl q.1), .int .i64 q.2])).eval (.tmp d1) = .tuple #[keyV (cl q.1), .int .i64 q.2] := by rw [eval_put (by omega), if_pos rfl]
    simp only [execOp, e, Instr.extract, Sem.run_bind]; rfl
  refine wpList_val rfl e2 ?_
  have hR2 : Rel N w0 B0 φ Ss ⟨(d2, .int .i64 q.2) :: st.env, st.heap⟩ ((a.put (some d1) (.tuple #[keyV (cl q.1), .int .i64 q.2])).put (some d2) (.int .i64 q.2)) w := hR1.put (d := some d2) (by simp [dOk, hd2]) (VR.int .i64 q.2)
  have e3 : (execOp ((a.put (some d1) (.tuple #[keyV (cl q.1), .int .i64 q.2])).put (some d2) (.int .i64 q.2)).eval ⟨some d3, .assign (.tmp d2), ty3, p3, a3, none⟩).run P w = .ok (.value (.int .i64 q.2)) w := by
    have e : ((a.put (some d1) (.tuple #[keyV (cl q.1), .int .i64 q.2])).put (some d2) (.int .i64 q.2)).eval (.tmp d2) = .int .i64 q.2 := by rw [eval_put (by have := hR1.size; omega), if_pos rfl]
    simp only [execOp, Sem.run_pure]; rw [e]
  refine wpList_val rfl e3 ?_; exact ⟨_, _, φ, Ss, h, hR2.put (d := some d3) (by simp [dOk, hd3]) (VR.int .i64 q.2), hG⟩
end
end HK
namespace HK
open Go
theorem zeroV {P : Program} {t : TypeId} {v : Value} (h : (P.info? t).map (·.zero) = some (some v)) : ∀ w : World, (zeroValue t).run P w = .ok v w := by
  intro w
  cases hi : P.info? t with
  | none => rw [hi] at h; cases h
  | some i =>
    rw [hi] at h; simp at h; simp [zeroValue, typeInfo, hi, h]
theorem mapO_nil {K : Type} [DecidableEq K] (cl : K → List AV) : mapO cl [] = .map #[] 0 := rfl
end HK
