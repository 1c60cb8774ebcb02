import Derived.Test.YteeefpifkepbpaaEHK36
import Derived.Laws.IdiomRangeMap
import Derived.WideKeyEntry
/-
  My own texts (road H): HK40 HK41 HK42 HK43 HK44 HK45 HK46 HK47.
-/
set_option linter.unusedVariables false
set_option linter.unusedSimpArgs false
namespace HK
open Go
structure WL (w w' : World) : Prop where
  size : w.heap.size ≤ w'.heap.size
  cells : ∀ (b : Nat) c T z, w.heap[b]? = some (.cells c T z) → w'.heap[b]? = some (.cells c T z)
section
variable {w w' : World} {own : Nat → Prop}
theorem WL.cell (h : WL w w') {A : Addr} {v : Value} (e : w.cell? A = some v) : w'.cell? A = some v := by
  unfold World.cell? at e ⊢; split at e
  · rename_i c T z hc
    rw [h.cells _ _ _ _ hc]; exact e
  · cases e
theorem WL.row (h : WL w w') {rb lim : Nat} (e : RowAt w rb lim) : RowAt w' rb lim := by
  obtain ⟨c, T, h1, h2⟩ := e; exact ⟨c, T, h.cells _ _ _ _ h1, h2⟩
theorem WL.seg (h : WL w w') {A : Addr} {vs : List Value} (e : Seg w A vs) : Seg w' A vs := fun n v hv => h.cell (e n v hv)
mutual
theorem VR.wl (hw : WL w w') : ∀ {φ : Refs} {v : AV} {x : Value} {S : List Nat}, VR w own φ v x S → VR w' own φ v x S
  | _, _, _, _, .undef v => .undef v
  | _, _, _, _, .nil A => .nil A
  | _, _, _, _, .bool b => .bool b
  | _, _, _, _, .int k n => .int k n
  | _, _, _, _, .str s => .str s
  | _, _, _, _, .con v => .con v
  | _, _, _, _, .fz0 A cap => .fz0 A cap
  | _, _, _, _, .fz es sz A cap vs hlt ho hu hcap hs h => .fz es sz A cap vs (Nat.lt_of_lt_of_le hlt hw.size) ho hu hcap (hw.seg hs) (CR.wl hw h)
  | _, _, _, _, .own0 sz A => .own0 sz A
  | _, _, _, _, .own es sz rb o cap lim vs S hr hu hcap hlim hs h => .own es sz rb o cap lim vs S (hw.row hr) hu hcap hlim (hw.seg hs) (CR.wl hw h)
  | _, _, _, _, .sl0 id off r A h => .sl0 id off r A h
  | _, _, _, _, .sl id off len cap r h hcap hlim => .sl id off len cap r h hcap hlim
  | _, _, _, _, .ptr id i j r h => .ptr id i j r h
  | _, _, _, _, .fptr es sz A vs i j hlt ho hu hs h => .fptr es sz A vs i j (Nat.lt_of_lt_of_le hlt hw.size) ho hu (hw.seg hs) (CR.wl hw h)
  | _, _, _, _, .agg cs vs S h => .agg cs vs S (CR.wl hw h)
  | _, _, _, _, .tup cs vs S h => .tup cs vs S (CR.wl hw h)
  | _, _, _, _, .fn f first cap fs cs h h' => .fn f first cap fs cs (CR.wl hw h) (CR.wl hw h')
  | _, _, _, _, .condT v x S h => .condT v x S (VR.wl hw h)
  | _, _, _, _, .condF v => .condF v
theorem CR.wl (hw : WL w w') : ∀ {φ : Refs} {v : List AV} {x : List Value} {S : List Nat}, CR w own φ v x S → CR w' own φ v x S
  | _, _, _, _, .nil => .nil
  | _, _, _, _, .cons a v S as vs T h h' => .cons a v S as vs T (VR.wl hw h) (CR.wl hw h')
end
theorem BR.wl (hw : WL w w') {φ : Refs} {id : Nat} {b : Blk} {S : List Nat} (h : BR w own φ id b S) : BR w' own φ id b S := by
  rcases h with h | ⟨r, vs, T, h1, h2, h3, h4, h5, h6, h7, h8⟩
  · exact .inl h
  · exact .inr ⟨r, vs, T, h1, h2, hw.row h3, h4, h5, hw.seg h6, h7.wl hw, h8⟩
end
section
variable {P : Program} {N : Sz} {w0 w w' : World} {B0 : Cx} {φ : Refs} {Ss : List (List Nat)} {st : St} {a : Act}
theorem Rel.wl (h : Rel N w0 B0 φ Ss st a w) (hw : WL w w') (h1 : w'.os = w.os) (h2 : w'.tape = w.tape) (h3 : w'.output = w.output) (hb : ∀ b, b < w0.heap.size → b ∉ B0.l → w'.heap[b]? = w.heap[b]?) : Rel N w0 B0 φ Ss st a w' :=
  ⟨fun t => (h.env t).wl hw, fun id b hid => by
    obtain ⟨S, e1, e2⟩ := h.heap id b hid; exact ⟨S, e1, e2.wl hw⟩, h.len, h.fresh, h.nodup, fun b hb' => ⟨Nat.lt_of_lt_of_le (h.bound b hb').1 hw.size, (h.bound b hb').2⟩,
    ⟨h1.trans h.fr.os, h2.trans h.fr.tape, h3.trans h.fr.output, Nat.le_trans h.fr.size hw.size, fun b e1 e2 => (hb b e1 e2).trans (h.fr.block b e1 e2)⟩, h.size, h.defers, h.cx, h.keep⟩
theorem Rel.rebase (h : Rel N w0 B0 φ Ss st a w) : Rel N w ⟨Ss.flatten, B0.φ⟩ φ Ss st a w :=
  ⟨h.env, h.heap, h.len, h.fresh, h.nodup, fun b hb => ⟨(h.bound b hb).1, .inl hb⟩, Fr.refl _ _, h.size, h.defers, h.cx, h.keep⟩
theorem Rel.unbase (h : Rel N w0 B0 φ Ss st a w) {φ' : Refs} {Ss' : List (List Nat)} {st' : St} {a' : Act} (h' : Rel N w ⟨Ss.flatten, B0.φ⟩ φ' Ss' st' a' w') : Rel N w0 B0 φ' Ss' st' a' w' := by
  have hf := h.fr.size
  refine ⟨h'.env, h'.heap, h'.len, h'.fresh, h'.nodup, fun b hb => ⟨(h'.bound b hb).1, ?_⟩, h.fr.trans h'.fr fun x hx => (h.bound x hx).2, h'.size, h'.defers, h'.cx, h'.keep⟩; rcases (h'.bound b hb).2 with h1 | h1
  · exact (h.bound b h1).2
  · right; omega
def noCells : Obj → Prop
  | .cells _ _ _ => False
  | _ => True
abbrev GS := List (Nat × Obj)
structure Gh (w0 : World) (Ss : List (List Nat)) (gs : GS) (w : World) : Prop where
  here : ∀ q ∈ gs, w.heap[q.1]? = some q.2
  no : ∀ q ∈ gs, noCells q.2
  own : ∀ q ∈ gs, q.1 ∉ Ss.flatten
  new : ∀ q ∈ gs, w0.heap.size ≤ q.1
  nd : (gs.map (·.1)).Nodup
theorem Gh.keep {gs : GS} (hg : Gh w0 Ss gs w) (h : Rel N w0 B0 φ Ss st a w) {φ' : Refs} {Ss' : List (List Nat)} {st' : St} {a' : Act} (h' : Rel N w ⟨Ss.flatten, B0.φ⟩ φ' Ss' st' a' w') : Gh w0 Ss' gs w' := by
  have hlt : ∀ q ∈ gs, q.1 < w.heap.size := fun q hq => by
    rcases Nat.lt_or_ge q.1 w.heap.size with h1 | h1
    · exact h1
    · have := hg.here q hq
      rw [Array.getElem?_eq_none h1] at this; cases this
  refine ⟨fun q hq => (h'.fr.block q.1 (hlt q hq) (hg.own q hq)).trans (hg.here q hq), hg.no, fun q hq hm => ?_, hg.new, hg.nd⟩; rcases (h'.bound q.1 hm).2 with h1 | h1
  · exact hg.own q hq h1
  · have := hlt q hq; omega
def QM (N : Sz) (w0 : World) (B0 : Cx) (Q : Exit → St → GS → Prop) : Exit → Act → World → Prop := fun e a w => ∃ st gs φ Ss, Q e st gs ∧ Rel N w0 B0 φ Ss st a w ∧ Gh w0 Ss gs w
def SM (P : Program) (N : Sz) (c : Code) (Q : Exit → St → GS → Prop) (st : St) (gs : GS) : Prop := ∀ w0 B0 φ Ss a w, Rel N w0 B0 φ Ss st a w → Gh w0 Ss gs w → c.wp P (QM N w0 B0 Q) a w
def Em.then (K : St → GS → Prop) (Q : Exit → St → GS → Prop) : Exit → St → GS → Prop
  | .normal, st, g => K st g
  | e, st, g => Q e st g
def Em.inBlock (id : Nat) (Q : Exit → St → GS → Prop) : Exit → St → GS → Prop
  | .exit id', st, g => if id' = id then Q .normal st g else Q (.exit id') st g
  | e, st, g => Q e st g
end
section
variable {P : Program} {N : Sz} {Q : Exit → St → GS → Prop} {st : St} {gs : GS}
theorem SM.of {c : Code} (h : SW P N c (fun e s => Q e s gs) st) : SM P N c Q st gs := fun w0 B0 φ Ss a w hR hG =>
  wp_mono (h w ⟨Ss.flatten, B0.φ⟩ φ Ss a w hR.rebase) fun _ _ _ ⟨s, φ', Ss', h1, h2⟩ => ⟨s, gs, φ', Ss', h1, hR.unbase h2, hG.keep hR h2⟩
theorem Wk.gh {st' : St} (h : Wk N st st') {w0 : World} {B0 : Cx} {φ : Refs} {Ss : List (List Nat)} {a : Act} {w : World} (hR : Rel N w0 B0 φ Ss st a w) (hG : Gh w0 Ss gs w) : ∃ φ' Ss', Rel N w0 B0 φ' Ss' st' a w ∧ Gh w0 Ss' gs w :=
  let ⟨φ', Ss', hR'⟩ := h w ⟨Ss.flatten, B0.φ⟩ φ Ss a w hR.rebase
  ⟨φ', Ss', hR.unbase hR', hG.keep hR hR'⟩
theorem SM.wk {c : Code} {st' : St} (h : Wk N st st') (k : SM P N c Q st' gs) : SM P N c Q st gs := fun w0 B0 φ Ss a w hR hG =>
  let ⟨φ', Ss', hR', hG'⟩ := h.gh hR hG
  k w0 B0 φ' Ss' a w hR' hG'
theorem SM.mono {c : Code} {Q' : Exit → St → GS → Prop} (h : SM P N c Q st gs) (hq : ∀ e s g, Q e s g → Q' e s g) : SM P N c Q' st gs := fun w0 B0 φ Ss a w hR hG =>
  wp_mono (h w0 B0 φ Ss a w hR hG) fun _ _ _ ⟨s, g, φ', Ss', h1, h2, h3⟩ => ⟨s, g, φ', Ss', hq _ _ _ h1, h2, h3⟩
theorem SM.skip (h : Q .normal st gs) : SM P N .skip Q st gs := fun _ _ φ Ss _ _ hR hG => wp_skip ⟨st, gs, φ, Ss, h, hR, hG⟩
theorem SM.exit {id : Nat} (h : Q (.exit id) st gs) : SM P N (.exit id) Q st gs := fun _ _ φ Ss _ _ hR hG => wp_exit ⟨st, gs, φ, Ss, h, hR, hG⟩
theorem SM.ret (h : Q .ret st gs) : SM P N .ret Q st gs := fun _ _ φ Ss _ _ hR hG => wp_ret ⟨st, gs, φ, Ss, h, hR, hG⟩
theorem SM.seq {x y : Code} (h : SM P N x (Em.then (SM P N y Q) Q) st gs) : SM P N (.seq x y) Q st gs := fun w0 B0 φ Ss a w hR hG =>
  wp_seq (wp_mono (h w0 B0 φ Ss a w hR hG) fun e a' w' ⟨s, g, φ', Ss', h1, h2, h3⟩ => by
    cases e <;> first | exact h1 w0 B0 φ' Ss' a' w' h2 h3 | exact ⟨s, g, φ', Ss', h1, h2, h3⟩)
theorem SM.seqK {x y : Code} (h : ∀ K : St → GS → Prop, (∀ st gs, SM P N y Q st gs → K st gs) → SM P N x (Em.then K Q) st gs) : SM P N (.seq x y) Q st gs := SM.seq (h _ fun _ _ h => h)
theorem SM.cond {c : Operand} {x y : Code} (b : Bool) (hc : st1 (ev st.env c) = .bool b) (hg : gk (ev st.env c)) (ht : b = true → SM P N x Q st gs) (hf : b = false → SM P N y Q st gs) : SM P N (.cond c x y) Q st gs := fun w0 B0 φ Ss a w hR hG => by
  have hv := (act_eval hR c).strip hg
  rw [hc] at hv
  generalize hx : a.eval c = v at hv
  cases hv
  exact wp_cond_split hx (fun e => ht e w0 B0 φ Ss a w hR hG) (fun e => hf e w0 B0 φ Ss a w hR hG)
theorem SM.block {id : Nat} {c : Code} (h : SM P N c (Em.inBlock id Q) st gs) : SM P N (.block id c) Q st gs := fun w0 B0 φ Ss a w hR hG =>
  wp_block (wp_mono (h w0 B0 φ Ss a w hR hG) fun e a' w' ⟨s, g, φ', Ss', h1, h2, h3⟩ => by
    cases e with
    | exit id' =>
      simp only [Em.inBlock] at h1; simp only [Exit.inBlock]; split at h1
      · rename_i he; rw [if_pos he]; exact ⟨s, g, φ', Ss', h1, h2, h3⟩
      · rename_i he; rw [if_neg he]; exact ⟨s, g, φ', Ss', h1, h2, h3⟩
    | _ => exact ⟨s, g, φ', Ss', h1, h2, h3⟩)
theorem SM.loop {α : Type} {c : Code} (inv : α → St) (g : α → GS) (p : α → Prop) (m : α → Nat) (x0 : α) (hp : p x0) (hg0 : g x0 = gs) (h0 : Wk N st (inv x0))
    (hr : ∀ x, p x → SM P N c (Em.then (fun s g' => ∃ y, p y ∧ m y < m x ∧ g' = g y ∧ Wk N s (inv y)) Q) (inv x) (g x)) : SM P N (.loop c) Q st gs := by
  intro w0 B0 φ0 Ss0 a0 w1 hR0 hG0; obtain ⟨φ1, Ss1, hR1, hG1⟩ := h0.gh hR0 hG0; rw [← hg0] at hG1; intro b k cs
  have key : ∀ n x φ Ss a w, m x = n → p x → Rel N w0 B0 φ Ss (inv x) a w → Gh w0 Ss (g x) w →
      ∃ e a' w', QM N w0 B0 Q e a' w' ∧ Arrives P (lone (b.at a (.code c :: .inLoop c :: k)) cs w) b k cs e a' w' := by
    intro n
    induction n using Nat.strongRecOn with
    | _ n ih =>
      intro x φ Ss a w hm hpx hR hG; obtain ⟨e, a₁, w₁, ⟨s, g', φ', Ss', hq, hR', hG'⟩, harr⟩ := hr x hpx w0 B0 φ Ss a w hR hG b (.inLoop c :: k) cs
      cases e with
      | normal =>
        obtain ⟨y, hpy, hlt, rfl, hwk⟩ := hq; obtain ⟨φ2, Ss2, hR2, hG2⟩ := hwk.gh hR' hG'; obtain ⟨e₂, a₂, w₂, hq₂, harr₂⟩ := ih (m y) (hm ▸ hlt) y φ2 Ss2 a₁ w₁ rfl hpy hR2 hG2
        exact ⟨e₂, a₂, w₂, hq₂, .of_steps (Steps.trans harr (.one step_inLoop)) harr₂⟩
      | exit id => exact ⟨_, a₁, w₁, ⟨s, g', φ', Ss', hq, hR', hG'⟩, .pass (x := .inLoop c) rfl (fun _ _ => .inl (by simp)) harr⟩
      | goto l => exact ⟨_, a₁, w₁, ⟨s, g', φ', Ss', hq, hR', hG'⟩, .pass (x := .inLoop c) rfl (fun _ _ => .inl (by simp)) harr⟩
      | ret => exact ⟨_, a₁, w₁, ⟨s, g', φ', Ss', hq, hR', hG'⟩, .pass (x := .inLoop c) rfl (fun _ _ => .inl (by simp)) harr⟩
      | panic ch => exact ⟨_, a₁, w₁, ⟨s, g', φ', Ss', hq, hR', hG'⟩, .pass (x := .inLoop c) rfl (fun _ _ => .inl (by simp)) harr⟩
      | outgrown => exact ⟨_, a₁, w₁, ⟨s, g', φ', Ss', hq, hR', hG'⟩, .pass (x := .inLoop c) rfl (fun _ _ => .inl (by simp)) harr⟩
  obtain ⟨e, a', w', hq, harr⟩ := key _ x0 φ1 Ss1 a0 w1 rfl hp hR1 hG1; exact ⟨e, a', w', hq, .of_steps (.one step_loop) harr⟩
theorem SM.region {id : Nat} {l : List Oper} (h : runA P N (l.map (·.dst)) l st (fun s => Q .normal s gs)) : SM P N (.region id l.toArray false) Q st gs := SM.of (SW.region h)
theorem SM.regionK {id : Nat} {l : List Oper} {y : Code} (h : ∀ K : St → Prop, (∀ st, SM P N y Q st gs → K st) → runA P N (l.map (·.dst)) l st K) : SM P N (.seq (.region id l.toArray false) y) Q st gs :=
  SM.seq (SM.region (Q := Em.then (SM P N y Q) Q) (h _ fun _ h => h))
theorem SM.regionE {id : Nat} {l : List Oper} (h : ∀ K : St → Prop, (∀ st, Q .normal st gs → K st) → runA P N (l.map (·.dst)) l st K) : SM P N (.region id l.toArray false) Q st gs := SM.region (h _ fun _ h => h)
theorem SM.drawK {id : Nat} {l : List Oper} {y : Code} (hm : P.follows .mixedOrders = true) (plan : List PSeg) (hp : drawOk l plan = true) (hn : (planIdx plan).length = l.length)
    (h : ∀ K : St → Prop, (∀ st, SM P N y Q st gs → K st) → runD P N l (l.map (·.dst)) plan st K) : SM P N (.seq (.region id l.toArray true) y) Q st gs :=
  SM.seq (SM.of (SW.draw (Q := fun e s => Em.then (SM P N y Q) Q e s gs) hm plan hp hn (h _ fun _ h => h)))
end
end HK
set_option linter.unusedVariables false
set_option linter.unusedSimpArgs false
namespace HK
open Go
def rv : AV → Value
  | .int k n => .int k n
  | .bool b => .bool b
  | .str s => .string s
  | _ => Go.undef
def basic : AV → Bool
  | .int _ _ | .bool _ | .str _ => true
  | _ => false
def keyV (k : List AV) : Value := .agg (k.map rv).toArray
section
variable {P : Program} {w : World} {own : Nat → Prop} {φ : Refs}
theorem CR.basic : ∀ {xs : List AV} {us : List Value}, CR w own φ xs us [] → xs.all HK.basic = true → us = xs.map rv
  | [], _, h, _ => by cases h; rfl
  | x :: xs, _, h, hb => by
    obtain ⟨v, us, S1, S2, rfl, hS, h1, h2⟩ := h.uncons; have eS : S1 = [] ∧ S2 = [] := by simpa using hS.symm
    obtain ⟨rfl, rfl⟩ := eS; simp only [List.all_cons, Bool.and_eq_true] at hb; rw [CR.basic h2 hb.2, List.map_cons]
    congr 1
    cases x <;> simp [HK.basic] at hb <;> cases h1 <;> rfl
end
end HK
set_option linter.unusedVariables false
set_option linter.unusedSimpArgs false
set_option linter.unusedSectionVars false
namespace HK
open Go
structure KeyOk (P : Program) (kt : TypeId) {K : Type} [DecidableEq K] (cl : K → List AV) : Prop where
  kind : ∃ d, d ≤ 9999 ∧ ∀ x, tkinds P d kt = some ((cl x).map avk)
  st : ∃ fs, P.underlying kt = some (.struct fs)
  ek : ∀ x y, eqk (cl x) (cl y)
  ec : ∀ x y, eqc (cl x) (cl y) = decide (x = y)
  bs : ∀ x, (cl x).all basic = true
section
variable {K : Type} [DecidableEq K]
def entL (cl : K → List AV) : List (K × Int) → Nat → List MapEntry
  | [], _ => []
  | q :: r, i => ⟨keyV (cl q.1), .int .i64 q.2, i⟩ :: entL cl r (i + 1)
def mapO (cl : K → List AV) (l : List (K × Int)) : Obj := .map (entL cl l 0).toArray l.length
def findQ : List (K × Int) → Nat → K → Option (Nat × Int)
  | [], _, _ => none
  | q :: r, i, x => if x = q.1 then some (i, q.2) else findQ r (i + 1) x
def getQ (l : List (K × Int)) (x : K) : Int := match findQ l 0 x with | some q => q.2 | none => 0
def idxQ (l : List (K × Int)) (x : K) : Nat := match findQ l 0 x with | some q => q.1 | none => l.length
def ensQ (l : List (K × Int)) (x : K) : List (K × Int) := match findQ l 0 x with | some _ => l | none => l ++ [(x, 0)]
def putQ (l : List (K × Int)) (x : K) (v : Int) : List (K × Int) := (ensQ l x).set (idxQ l x) (x, v)
variable {P : Program} {w : World} {kt mt et : TypeId} {cl : K → List AV}
theorem findQ_none : ∀ {l : List (K × Int)} {i : Nat} {x : K}, findQ l i x = none ↔ ∀ q ∈ l, q.1 ≠ x
  | [], _, _ => by simp [findQ]
  | p :: r, i, x => by
    unfold findQ; split
    · rename_i e
      simp only [reduceCtorEq, false_iff]; intro h; exact h p (by simp) e.symm
    · rename_i e
      rw [findQ_none]; simp only [List.mem_cons, forall_eq_or_imp]; exact ⟨fun h => ⟨fun h' => e h'.symm, h⟩, fun h => h.2⟩
abbrev setO (w : World) (r : Nat) (o : Obj) : World := { w with heap := w.heap.setIfInBounds r o }
end
end HK
set_option linter.unusedVariables false
set_option linter.unusedSimpArgs false
set_option linter.unusedSectionVars false
namespace HK
open Go
section
variable {K : Type} [DecidableEq K]
theorem findQ_shift (x : K) : ∀ (l : List (K × Int)) (i : Nat), findQ l (i + 1) x = (findQ l i x).map fun q => (q.1 + 1, q.2)
  | [], _ => rfl
  | q :: r, i => by
    unfold findQ; split
    · rfl
    · exact findQ_shift x r (i + 1)
theorem getQ_cons (q : K × Int) (r : List (K × Int)) (x : K) : getQ (q :: r) x = if x = q.1 then q.2 else getQ r x := by
  unfold getQ; rw [show findQ (q :: r) 0 x = if x = q.1 then some (0, q.2) else findQ r (0 + 1) x from rfl]; by_cases e : x = q.1
  · rw [if_pos e, if_pos e]
  · rw [if_neg e, if_neg e, findQ_shift]
    cases findQ r 0 x <;> rfl
theorem putQ_nil (x : K) (v : Int) : putQ [] x v = [(x, v)] := rfl
theorem putQ_cons (q : K × Int) (r : List (K × Int)) (x : K) (v : Int) : putQ (q :: r) x v = if x = q.1 then (x, v) :: r else q :: putQ r x v := by
  unfold putQ ensQ idxQ; by_cases e : x = q.1
  · simp [findQ, e]
  · simp only [findQ, if_neg e, findQ_shift]
    cases findQ r 0 x <;> simp
def NQ (l : List (K × Int)) : Prop := (l.map (·.1)).Nodup
theorem NQ.nil : NQ ([] : List (K × Int)) := List.nodup_nil
theorem putQ_keys (x : K) (v : Int) : ∀ (l : List (K × Int)) (y : K), y ∈ (putQ l x v).map (·.1) → y = x ∨ y ∈ l.map (·.1)
  | [], y, h => by rw [putQ_nil] at h; simp at h; exact .inl h
  | q :: r, y, h => by
    rw [putQ_cons] at h; split at h
    · rename_i e
      simp only [List.map_cons, List.mem_cons] at h ⊢; rcases h with h | h
      · exact .inl h
      · exact .inr (.inr h)
    · simp only [List.map_cons, List.mem_cons] at h ⊢
      rcases h with h | h
      · exact .inr (.inl h)
      · rcases putQ_keys x v r y h with h | h
        · exact .inl h
        · exact .inr (.inr h)
theorem NQ.put {x : K} {v : Int} : ∀ {l : List (K × Int)}, NQ l → NQ (putQ l x v)
  | [], _ => by rw [putQ_nil]; simp [NQ]
  | q :: r, h => by
    unfold NQ at h ⊢; rw [List.map_cons, List.nodup_cons] at h; rw [putQ_cons]; split
    · rename_i e
      subst e; exact List.nodup_cons.2 h
    · rename_i e
      rw [List.map_cons, List.nodup_cons]; refine ⟨fun hm => ?_, NQ.put (l := r) h.2⟩; rcases putQ_keys x v r _ hm with h1 | h1
      · exact e h1.symm
      · exact h.1 h1
theorem NQ.get : ∀ {l : List (K × Int)}, NQ l → ∀ q ∈ l, getQ l q.1 = q.2
  | [], _, _, h => by cases h
  | p :: r, hn, q, h => by
    unfold NQ at hn; rw [List.map_cons, List.nodup_cons] at hn; rw [getQ_cons]; rcases List.mem_cons.1 h with rfl | h
    · rw [if_pos rfl]
    · rw [if_neg]
      · exact NQ.get (l := r) hn.2 q h
      · intro e
        exact hn.1 (e ▸ List.mem_map.2 ⟨q, h, rfl⟩)
theorem getQ_out {l : List (K × Int)} {x : K} (h : ∀ q ∈ l, q.1 ≠ x) : getQ l x = 0 := by
  unfold getQ; rw [findQ_none.2 h]
theorem NQ.zero {l : List (K × Int)} (hn : NQ l) : (∀ q ∈ l, q.2 = 0) ↔ ∀ x, getQ l x = 0 := by
  constructor
  · intro h x
    by_cases hx : ∃ q ∈ l, q.1 = x
    · obtain ⟨q, hq, rfl⟩ := hx
      rw [hn.get q hq, h q hq]
    · exact getQ_out fun q hq e => hx ⟨q, hq, e⟩
  · intro h q hq
    rw [← hn.get q hq, h]
end
section
variable {P : Program} {N : Sz} {w0 w : World} {B0 : Cx} {φ : Refs} {Ss : List (List Nat)} {st : St} {a : Act}
theorem WL.setO {r : Nat} {o o' : Obj} (h : w.heap[r]? = some o) (ho : noCells o) : WL w (setO w r o') := by
  refine ⟨by simp, fun b c T z hb => ?_⟩; rw [Array.getElem?_setIfInBounds]; split
  · rename_i e
    subst e; rw [h] at hb; cases hb
    exact ho.elim
  · exact hb
theorem WL.alloc (w : World) (o : Obj) : WL w (w.alloc o) := by
  refine ⟨by show w.heap.size ≤ (w.heap.push o).size; simp, fun b c T z hb => ?_⟩; have hlt := (Array.getElem?_eq_some_iff.1 hb).1
  show (w.heap.push o)[b]? = _
  rw [Array.getElem?_push_lt hlt, ← Array.getElem?_eq_getElem hlt]; exact hb
theorem Gh.mid {g1 g2 : GS} {q : Nat × Obj} (h : Gh w0 Ss (g1 ++ q :: g2) w) : w.heap[q.1]? = some q.2 ∧ noCells q.2 ∧ q.1 ∉ Ss.flatten ∧ w0.heap.size ≤ q.1 := by
  have hm : q ∈ g1 ++ q :: g2 := by simp
  exact ⟨h.here q hm, h.no q hm, h.own q hm, h.new q hm⟩
theorem Gh.set {g1 g2 : GS} {r : Nat} {o o' : Obj} (h : Gh w0 Ss (g1 ++ (r, o) :: g2) w) (ho : noCells o') : Gh w0 Ss (g1 ++ (r, o') :: g2) (setO w r o') := by
  obtain ⟨e1, e2, e3, e4⟩ := h.mid; have hnd := h.nd
  have hmem : ∀ q ∈ g1 ++ (r, o') :: g2, q = (r, o') ∨ (q ∈ g1 ++ (r, o) :: g2 ∧ q.1 ≠ r) := by
    intro q hq; simp only [List.map_append, List.map_cons] at hnd; rw [List.nodup_append, List.nodup_cons] at hnd; rcases List.mem_append.1 hq with h1 | h1
    · right
      refine ⟨List.mem_append_left _ h1, fun e => ?_⟩; exact hnd.2.2 q.1 (List.mem_map.2 ⟨q, h1, rfl⟩) r (by simp) e
    · rcases List.mem_cons.1 h1 with h1 | h1
      · exact .inl h1
      · right
        refine ⟨List.mem_append_right _ (List.mem_cons_of_mem _ h1), fun e => ?_⟩; exact hnd.2.1.1 (e ▸ List.mem_map.2 ⟨q, h1, rfl⟩)
  refine ⟨fun q hq => ?_, fun q hq => ?_, fun q hq => ?_, fun q hq => ?_, by simpa using hnd⟩
  · rcases hmem q hq with rfl | ⟨h1, h2⟩
    · show (w.heap.setIfInBounds r o')[r]? = some o'
      have := (Array.getElem?_eq_some_iff.1 e1).1
      simp [this]
    · show (w.heap.setIfInBounds r o')[q.1]? = some q.2
      rw [Array.getElem?_setIfInBounds, if_neg (fun e => h2 e.symm)]; exact h.here q h1
  · rcases hmem q hq with rfl | ⟨h1, h2⟩
    · exact ho
    · exact h.no q h1
  · rcases hmem q hq with rfl | ⟨h1, h2⟩
    · exact e3
    · exact h.own q h1
  · rcases hmem q hq with rfl | ⟨h1, h2⟩
    · exact e4
    · exact h.new q h1
theorem Rel.setO (h : Rel N w0 B0 φ Ss st a w) {g1 g2 : GS} {r : Nat} {o o' : Obj} (hG : Gh w0 Ss (g1 ++ (r, o) :: g2) w) : Rel N w0 B0 φ Ss st a (setO w r o') := by
  obtain ⟨e1, e2, e3, e4⟩ := hG.mid; refine h.wl (WL.setO e1 e2) rfl rfl rfl fun b hb _ => ?_
  show (w.heap.setIfInBounds r o')[b]? = _
  rw [Array.getElem?_setIfInBounds, if_neg (by simp only [] at e4; omega)]
theorem Rel.alloc (h : Rel N w0 B0 φ Ss st a w) (o : Obj) : Rel N w0 B0 φ Ss st a (w.alloc o) := by
  have hf := h.fr.size
  refine h.wl (WL.alloc w o) rfl rfl rfl fun b hb _ => ?_
  show (w.heap.push o)[b]? = _
  rw [Array.getElem?_push_lt (by omega), ← Array.getElem?_eq_getElem (by omega)]
theorem Gh.alloc {gs : GS} (h : Gh w0 Ss gs w) (hR : Rel N w0 B0 φ Ss st a w) {o : Obj} (ho : noCells o) : Gh w0 Ss ((w.heap.size, o) :: gs) (w.alloc o) := by
  have hlt : ∀ q ∈ gs, q.1 < w.heap.size := fun q hq => (Array.getElem?_eq_some_iff.1 (h.here q hq)).1
  refine ⟨fun q hq => ?_, fun q hq => ?_, fun q hq => ?_, fun q hq => ?_, ?_⟩
  · rcases List.mem_cons.1 hq with rfl | h1
    · show (w.heap.push o)[w.heap.size]? = some o
      simp
    · show (w.heap.push o)[q.1]? = some q.2
      have := hlt q h1
      rw [Array.getElem?_push_lt this, ← Array.getElem?_eq_getElem this]; exact h.here q h1
  · rcases List.mem_cons.1 hq with rfl | h1
    · exact ho
    · exact h.no q h1
  · rcases List.mem_cons.1 hq with rfl | h1
    · intro hm
      have := (hR.bound _ hm).1
      simp at this
    · exact h.own q h1
  · rcases List.mem_cons.1 hq with rfl | h1
    · exact hR.fr.size
    · exact h.new q h1
  · rw [List.map_cons, List.nodup_cons]
    refine ⟨fun hm => ?_, h.nd⟩; obtain ⟨q, hq, e⟩ := List.mem_map.1 hm; have := hlt q hq
    simp only [] at e; omega
end
end HK
set_option linter.unusedVariables false
set_option linter.unusedSimpArgs false
set_option linter.unusedSectionVars false
namespace HK
open Go
section
variable {P : Program} {N : Sz} {w0 w : World} {B0 : Cx} {φ : Refs} {Ss : List (List Nat)} {st : St} {a : Act}
theorem wpList_val {ops : Array Oper} {Q : Exit → Act → World → Prop} {rest : List Oper} {o : Oper} {y : Value} {w' : World} (hg : o.guard = none) (hrun : (execOp a.eval o).run P w = .ok (.value y) w') (hK : wpList P ops Q rest (a.put o.dst y) w') : wpList P ops Q (o :: rest) a w := by
  unfold wpList; rw [if_pos (by simp [Region.wanted, hg])]
  left
  unfold Oper.wp; rw [hrun]; exact hK
theorem eval_con (h : Rel N w0 B0 φ Ss st a w) {t : Nat} {v : Value} (e : lk st.env t = .con v) : a.eval (.tmp t) = v := by
  have := act_eval h (.tmp t)
  rw [show ev st.env (.tmp t) = lk st.env t from rfl, e] at this; cases this
  rfl
theorem Gh.none (w0 : World) (Ss : List (List Nat)) (w : World) : Gh w0 Ss [] w := ⟨fun _ h => absurd h (by simp), fun _ h => absurd h (by simp), fun _ h => absurd h (by simp), fun _ h => absurd h (by simp), List.nodup_nil⟩
def mapOk (ops : List Oper) (k : Nat) : Bool :=
  qOk ops (ancT ops (List.range ops.length) []) [] [] ((List.range k).map fun i => (i, false)) && decide (ops.length = k + 5) &&
  (List.range 5).all (fun j => (List.range k).all fun z => (lkT (ancT ops (List.range ops.length) []) (k + j)).contains z) &&
  (List.range (k + 5)).all (fun j => match ops[j]? with | some o => (prd o).all fun p => decide (p < j) | none => false) &&
  (match ops[k + 1]?, ops[k + 3]?, ops[k + 4]? with
    | some oB, some oX, some oS => (prd oB).contains k && (prd oX).contains (k + 2) && (prd oS).contains (k + 1) && (prd oS).contains (k + 3)
    | _, _, _ => false)
variable {K : Type} [DecidableEq K] {kt mt et : TypeId} {cl : K → List AV}
structure TI (P : Program) (N : Sz) (w0 : World) (B0 : Cx) (st : St) (g1 g2 : GS) (r : Nat) (cl : K → List AV) (l : List (K × Int)) (x : K) (v : Int) (tL tB tM tX k : Nat) (listed : Array Bool) (a : Act) (w : World) : Prop where
  rel : ∃ φ Ss, Rel N w0 B0 φ Ss st a w ∧ Gh w0 Ss (g1 ++ (r, mapO cl (if listed.getD (k + 2) false then ensQ l x else l)) :: g2) w
  hL : listed.getD k false = true → a.eval (.tmp tL) = .int .i64 (getQ l x)
  hB : listed.getD (k + 1) false = true → a.eval (.tmp tB) = .int .i64 v
  hM : listed.getD (k + 2) false = true → ∃ z, a.eval (.tmp tM) = .tuple #[z, goInt (idxQ l x)]
  hX : listed.getD (k + 3) false = true → a.eval (.tmp tX) = goInt (idxQ l x)
theorem TI.put {g1 g2 : GS} {r : Nat} {l : List (K × Int)} {x : K} {v : Int} {tL tB tM tX k : Nat} {listed : Array Bool} (h : TI P N w0 B0 st g1 g2 r cl l x v tL tB tM tX k listed a w) : a.tmps.size = N.n := by
  obtain ⟨φ, Ss, hR, _⟩ := h.rel; exact hR.size
structure MapOps (ops : List Oper) (k : Nat) (mt : TypeId) (om ok tL tB tM tX : Nat) (bop : BinOp) (it it2 : TypeId) : Prop where
  L : ∃ y p a, ops[k]? = some ⟨some tL, .lookup mt (.tmp om) (.tmp ok) false, y, p, a, none⟩
  B : ∃ y p a, ops[k + 1]? = some ⟨some tB, .binOp bop it (.tmp tL) (.const (.int .i64 1)) it2, y, p, a, none⟩
  M : ∃ y p a, ops[k + 2]? = some ⟨some tM, .mapEntry mt (.tmp om) (.tmp ok), y, p, a, none⟩
  X : ∃ y p a, ops[k + 3]? = some ⟨some tX, .extract (.tmp tM) 1, y, p, a, none⟩
  S : ∃ y p a, ops[k + 4]? = some ⟨none, .entryStore mt (.tmp om) (.tmp tX) (.tmp tB), y, p, a, none⟩
end
end HK
set_option linter.unusedVariables false
set_option linter.unusedSimpArgs false
set_option linter.unusedSectionVars false
namespace HK
open Go
section
variable {P : Program} {N : Sz} {K : Type} [DecidableEq K] {kt mt et : TypeId} {cl : K → List AV}
end
end HK
set_option linter.unusedVariables false
set_option linter.unusedSimpArgs false
set_option linter.unusedSectionVars false
namespace HK
open Go
section
variable {P : Program} {N : Sz} {w : World} {K : Type} [DecidableEq K] {kt mt et : TypeId} {cl : K → List AV}
def iterO (r c : Nat) (seen : Array Nat) : Obj := .mapIter (some r) c seen c
def leftN (l : List (K × Int)) (seen : Array Nat) : Nat := ((List.range l.length).filter fun j => !seen.contains j).length
end
section
variable {P : Program} {N : Sz} {st : St} {y : Code} {Q : Exit → St → GS → Prop} {K : Type} [DecidableEq K] {kt mt et : TypeId} {cl : K → List AV} {r : Nat} {l : List (K × Int)}
theorem SM.rangeK {id : Nat} {d1 d2 tm : Nat} {ty1 ty2 : TypeId} {p1 p2 : String} {a1 a2 : Array Edge} (hmt : P.underlying mt = some (.map kt et)) (hd1 : d1 < N.n) (hd2 : d2 < N.n) (em : lk st.env tm = .con (.map (some r)))
    (h : ∀ it : Nat, SM P N y Q ⟨(d2, .con (.pointer (some ⟨it, 0, none⟩))) :: (d1, .con (.map (some r))) :: st.env, st.heap⟩ [(it, iterO r l.length #[]), (r, mapO cl l)]) :
    SM P N (.seq (.region id #[⟨some d1, .move (.tmp tm), ty1, p1, a1, none⟩, ⟨some d2, .range mt (.tmp d1), ty2, p2, a2, none⟩] false) y) Q st [(r, mapO cl l)] := by
  refine SM.seq fun w0 B0 φ Ss a w hR hG => ?_; refine wp_region_lit (l := [⟨some d1, .move (.tmp tm), ty1, p1, a1, none⟩, ⟨some d2, .range mt (.tmp d1), ty2, p2, a2, none⟩]) ?_
  have h1 : (execOp a.eval ⟨some d1, .move (.tmp tm), ty1, p1, a1, none⟩).run P w = .ok (.value (.map (some r))) w := by
    simp only [execOp, Sem.run_pure]; rw [eval_con hR em]
  refine wpList_val rfl h1 ?_; have hR1 : Rel N w0 B0 φ Ss ⟨(d1, .con (.map (some r))) :: st.env, st.heap⟩ (a.put (some d1) (.map (some r))) w := hR.put (d := some d1) (by simp [dOk, hd1]) (VR.con _)
  have hr := hG.here (r, mapO cl l) (by simp)
  have h2 : (execOp (a.put (some d1) (.map (some r))).eval ⟨some d2, .range mt (.tmp d1), ty2, p2, a2, none⟩).run P w = .ok (.value (.pointer (some ⟨w.heap.size, 0, none⟩))) (w.alloc (iterO r l.length #[])) := by
    have e := eval_con (t := d1) (v := .map (some r)) hR1 (by simp [lk])
    simp only [execOp, e, Sem.run_bind]; rw [run_range_map w mt kt et r (entL cl l 0).toArray l.length hmt hr]; rfl
  refine wpList_val rfl h2 ?_; have hR2 := (hR1.alloc (iterO r l.length #[])).put (d := some d2) (by simp [dOk, hd2]) (VR.con (.pointer (some ⟨w.heap.size, 0, none⟩)))
  exact ⟨_, _, φ, Ss, h w.heap.size, hR2, hG.alloc hR trivial⟩
end
end HK
set_option linter.unusedVariables false
namespace HK
open Go
end HK
