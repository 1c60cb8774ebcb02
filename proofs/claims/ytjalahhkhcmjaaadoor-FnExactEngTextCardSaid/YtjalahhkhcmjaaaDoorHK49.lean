import Derived.Test.YtjalahhkhcmjaaaDoorG2d
/-
  My own texts (road H): HK49.
-/
set_option linter.unusedVariables false
set_option linter.unusedSimpArgs false
namespace HK
open Go
structure Tb (g : Nat) (tb : Array Value) (Ss : List (List Nat)) (w : World) : Prop where
  here : ∃ T z, w.heap[g]? = some (.cells tb T z)
  own : g ∉ Ss.flatten
section
variable {g : Nat} {tb : Array Value} {Ss Ss' : List (List Nat)} {w w' : World}
theorem Tb.next (h : Tb g tb Ss w) (hf : Fr w Ss.flatten w') (ho : ∀ b, Own Ss' b → Own Ss b ∨ w.heap.size ≤ b) : Tb g tb Ss' w' := by
  obtain ⟨T, z, e⟩ := h.here; have hlt : g < w.heap.size := (Array.getElem?_eq_some_iff.1 e).1
  refine ⟨⟨T, z, (hf.block g hlt h.own).trans e⟩, fun hm => ?_⟩; rcases ho g hm with h1 | h1
  · exact h.own h1
  · omega
theorem Tb.keep {P : Program} {N : Sz} {w0 : World} {B0 : Cx} {φ : Refs} {st : St} {a : Act} (h : Tb g tb Ss w) {φ' : Refs} {st' : St} {a' : Act} (h' : Rel N w ⟨Ss.flatten, B0.φ⟩ φ' Ss' st' a' w') : Tb g tb Ss' w' :=
  h.next h'.fr fun b hb => (h'.bound b hb).2
end
def CallT (g : Nat) (tb : Array Value) (P : Program) (f : FuncId) (args : List AV) (h : Heap) (Q : AV → Heap → Prop) : Prop := Enter P f ∧ ∀ (φ : Refs) (Ss : List (List Nat)) (w : World) (vs : List Value), HP φ Ss h w → Tb g tb Ss w → CR w (Own Ss) φ args vs [] →
  Calls P f vs.toArray w fun e w' => ∃ v out h' φ' Ss', e = .returned v ∧ Q out h' ∧ HP φ' Ss' h' w' ∧ VR w' (Own Ss') φ' out v [] ∧ (∀ id r, φ id = some r → φ' id = some r) ∧ (∀ b, Own Ss' b → Own Ss b ∨ w.heap.size ≤ b) ∧ Fr w Ss.flatten w'
def QT (g : Nat) (tb : Array Value) (N : Sz) (w0 : World) (B0 : Cx) (Q : Exit → St → Prop) : Exit → Act → World → Prop := fun e a w => ∃ st φ Ss, Q e st ∧ Rel N w0 B0 φ Ss st a w ∧ Tb g tb Ss w
def ST (g : Nat) (tb : Array Value) (P : Program) (N : Sz) (c : Code) (Q : Exit → St → Prop) (st : St) : Prop := ∀ w0 B0 φ Ss a w, Rel N w0 B0 φ Ss st a w → Tb g tb Ss w → c.wp P (QT g tb N w0 B0 Q) a w
section
variable {g : Nat} {tb : Array Value} {P : Program} {f : FuncId} {args : List AV} {h : Heap} {Q Q' : AV → Heap → Prop}
theorem CallT.of (hc : CallS P f args h Q) : CallT g tb P f args h Q := ⟨hc.1, fun φ Ss w vs h1 _ h2 => hc.2 φ Ss w vs h1 h2⟩
theorem CallT.mono (hc : CallT g tb P f args h Q) (hq : ∀ o h', Q o h' → Q' o h') : CallT g tb P f args h Q' :=
  ⟨hc.1, fun φ Ss w vs h1 h0 h2 => (hc.2 φ Ss w vs h1 h0 h2).mono fun _ _ ⟨v, out, h', φ', Ss', e1, e2, r⟩ => ⟨v, out, h', φ', Ss', e1, hq _ _ e2, r⟩⟩
end
section
variable {g : Nat} {tb : Array Value} {P : Program} {N : Sz} {Q : Exit → St → Prop} {st : St}
theorem ST.of {c : Code} (h : SW P N c Q st) : ST g tb P N c Q st := fun w0 B0 φ Ss a w hR hT =>
  wp_mono (h w ⟨Ss.flatten, B0.φ⟩ φ Ss a w hR.rebase) fun _ _ _ ⟨s, φ', Ss', h1, h2⟩ => ⟨s, φ', Ss', h1, hR.unbase h2, hT.next h2.fr fun b hb => (h2.bound b hb).2⟩
theorem Wk.tbl {st' : St} (h : Wk N st st') {w0 : World} {B0 : Cx} {φ : Refs} {Ss : List (List Nat)} {a : Act} {w : World} (hR : Rel N w0 B0 φ Ss st a w) (hT : Tb g tb Ss w) : ∃ φ' Ss', Rel N w0 B0 φ' Ss' st' a w ∧ Tb g tb Ss' w :=
  let ⟨φ', Ss', hR'⟩ := h w ⟨Ss.flatten, B0.φ⟩ φ Ss a w hR.rebase
  ⟨φ', Ss', hR.unbase hR', hT.next hR'.fr fun b hb => (hR'.bound b hb).2⟩
theorem ST.mono {c : Code} {Q' : Exit → St → Prop} (h : ST g tb P N c Q st) (hq : ∀ e s, Q e s → Q' e s) : ST g tb P N c Q' st := fun w0 B0 φ Ss a w hR hT =>
  wp_mono (h w0 B0 φ Ss a w hR hT) fun _ _ _ ⟨s, φ', Ss', h1, h2, h3⟩ => ⟨s, φ', Ss', hq _ _ h1, h2, h3⟩
theorem ST.skip (h : Q .normal st) : ST g tb P N .skip Q st := fun _ _ φ Ss _ _ hR hT => wp_skip ⟨st, φ, Ss, h, hR, hT⟩
theorem ST.exit {id : Nat} (h : Q (.exit id) st) : ST g tb P N (.exit id) Q st := fun _ _ φ Ss _ _ hR hT => wp_exit ⟨st, φ, Ss, h, hR, hT⟩
theorem ST.ret (h : Q .ret st) : ST g tb P N .ret Q st := fun _ _ φ Ss _ _ hR hT => wp_ret ⟨st, φ, Ss, h, hR, hT⟩
theorem ST.seq {x y : Code} (h : ST g tb P N x (Ex.then (ST g tb P N y Q) Q) st) : ST g tb P N (.seq x y) Q st := fun w0 B0 φ Ss a w hR hT =>
  wp_seq (wp_mono (h w0 B0 φ Ss a w hR hT) fun e a' w' ⟨s, φ', Ss', h1, h2, h3⟩ => by
    cases e <;> first | exact h1 w0 B0 φ' Ss' a' w' h2 h3 | exact ⟨s, φ', Ss', h1, h2, h3⟩)
theorem ST.seqK {x y : Code} (h : ∀ K : St → Prop, (∀ st, ST g tb P N y Q st → K st) → ST g tb P N x (Ex.then K Q) st) : ST g tb P N (.seq x y) Q st := ST.seq (h _ fun _ h => h)
theorem ST.cond {c : Operand} {x y : Code} (b : Bool) (hc : st1 (ev st.env c) = .bool b) (hg : gk (ev st.env c)) (ht : b = true → ST g tb P N x Q st) (hf : b = false → ST g tb P N y Q st) : ST g tb P N (.cond c x y) Q st := fun w0 B0 φ Ss a w hR hT => by
  have hv := (act_eval hR c).strip hg
  rw [hc] at hv
  generalize hx : a.eval c = v at hv
  cases hv
  exact wp_cond_split hx (fun e => ht e w0 B0 φ Ss a w hR hT) (fun e => hf e w0 B0 φ Ss a w hR hT)
theorem ST.block {id : Nat} {c : Code} (h : ST g tb P N c (Ex.ib id Q) st) : ST g tb P N (.block id c) Q st := fun w0 B0 φ Ss a w hR hT =>
  wp_block (wp_mono (h w0 B0 φ Ss a w hR hT) fun e a' w' ⟨s, φ', Ss', h1, h2, h3⟩ => by
    cases e with
    | exit id' =>
      simp only [Ex.ib] at h1; simp only [Exit.inBlock]; split at h1
      · rename_i he; rw [if_pos he]; exact ⟨s, φ', Ss', h1, h2, h3⟩
      · rename_i he; rw [if_neg he]; exact ⟨s, φ', Ss', h1, h2, h3⟩
    | _ => exact ⟨s, φ', Ss', h1, h2, h3⟩)
theorem ST.loop {α : Type} {c : Code} (inv : α → St) (p : α → Prop) (m : α → Nat) (x0 : α) (hp : p x0) (h0 : Wk N st (inv x0))
    (hr : ∀ x, p x → ST g tb P N c (Ex.then (fun s => ∃ y, p y ∧ m y < m x ∧ Wk N s (inv y)) Q) (inv x)) : ST g tb P N (.loop c) Q st := by
  intro w0 B0 φ0 Ss0 a0 w1 hR0 hT0; obtain ⟨φ1, Ss1, hR1, hT1⟩ := h0.tbl hR0 hT0; intro b k cs
  have key : ∀ n x φ Ss a w, m x = n → p x → Rel N w0 B0 φ Ss (inv x) a w → Tb g tb Ss w →
      ∃ e a' w', QT g tb N w0 B0 Q e a' w' ∧ Arrives P (lone (b.at a (.code c :: .inLoop c :: k)) cs w) b k cs e a' w' := by
    intro n
    induction n using Nat.strongRecOn with
    | _ n ih =>
      intro x φ Ss a w hm hpx hR hT; obtain ⟨e, a₁, w₁, ⟨s, φ', Ss', hq, hR', hT'⟩, harr⟩ := hr x hpx w0 B0 φ Ss a w hR hT b (.inLoop c :: k) cs
      cases e with
      | normal =>
        obtain ⟨y, hpy, hlt, hwk⟩ := hq; obtain ⟨φ2, Ss2, hR2, hT2⟩ := hwk.tbl hR' hT'; obtain ⟨e₂, a₂, w₂, hq₂, harr₂⟩ := ih (m y) (hm ▸ hlt) y φ2 Ss2 a₁ w₁ rfl hpy hR2 hT2
        exact ⟨e₂, a₂, w₂, hq₂, .of_steps (Steps.trans harr (.one step_inLoop)) harr₂⟩
      | exit id => exact ⟨_, a₁, w₁, ⟨s, φ', Ss', hq, hR', hT'⟩, .pass (x := .inLoop c) rfl (fun _ _ => .inl (by simp)) harr⟩
      | goto l => exact ⟨_, a₁, w₁, ⟨s, φ', Ss', hq, hR', hT'⟩, .pass (x := .inLoop c) rfl (fun _ _ => .inl (by simp)) harr⟩
      | ret => exact ⟨_, a₁, w₁, ⟨s, φ', Ss', hq, hR', hT'⟩, .pass (x := .inLoop c) rfl (fun _ _ => .inl (by simp)) harr⟩
      | panic ch => exact ⟨_, a₁, w₁, ⟨s, φ', Ss', hq, hR', hT'⟩, .pass (x := .inLoop c) rfl (fun _ _ => .inl (by simp)) harr⟩
      | outgrown => exact ⟨_, a₁, w₁, ⟨s, φ', Ss', hq, hR', hT'⟩, .pass (x := .inLoop c) rfl (fun _ _ => .inl (by simp)) harr⟩
  obtain ⟨e, a', w', hq, harr⟩ := key _ x0 φ1 Ss1 a0 w1 rfl hp hR1 hT1; exact ⟨e, a', w', hq, .of_steps (.one step_loop) harr⟩
theorem ST.region {id : Nat} {l : List Oper} (h : runA P N (l.map (·.dst)) l st (Q .normal)) : ST g tb P N (.region id l.toArray false) Q st := ST.of (SW.region h)
theorem ST.regionK {id : Nat} {l : List Oper} {y : Code} (h : ∀ K : St → Prop, (∀ st, ST g tb P N y Q st → K st) → runA P N (l.map (·.dst)) l st K) : ST g tb P N (.seq (.region id l.toArray false) y) Q st :=
  ST.seq (ST.region (Q := Ex.then (ST g tb P N y Q) Q) (h _ fun _ h => h))
theorem ST.regionE {id : Nat} {l : List Oper} (h : ∀ K : St → Prop, (∀ st, Q .normal st → K st) → runA P N (l.map (·.dst)) l st K) : ST g tb P N (.region id l.toArray false) Q st := ST.region (h _ fun _ h => h)
theorem ST.drawK {id : Nat} {l : List Oper} {y : Code} (hm : P.follows .mixedOrders = true) (plan : List PSeg) (hp : drawOk l plan = true) (hn : (planIdx plan).length = l.length)
    (h : ∀ K : St → Prop, (∀ st, ST g tb P N y Q st → K st) → runD P N l (l.map (·.dst)) plan st K) : ST g tb P N (.seq (.region id l.toArray true) y) Q st :=
  ST.seq (ST.of (SW.draw (Q := Ex.then (ST g tb P N y Q) Q) hm plan hp hn (h _ fun _ h => h)))
end
def runT (g : Nat) (tb : Array Value) (P : Program) (N : Sz) (ds : List (Option Tmp)) : List Oper → St → (St → Prop) → Prop
  | [], st, K => K st
  | o :: rest, st, K => dOk N o.dst = true ∧ match gval ds st.env o.guard with
    | .free => match cls o.op with
      | .pure => (evP P st.heap (ev st.env) o.op).1 ∧ runT g tb P N ds rest ⟨putE st.env o.dst (evP P st.heap (ev st.env) o.op).2, st.heap⟩ K
      | .alloc => (evA P (ev st.env) o.op).ok ∧ runT g tb P N ds rest ⟨putE st.env o.dst ((evA P (ev st.env) o.op).val st.heap.length), st.heap ++ [some (evA P (ev st.env) o.op).blk]⟩ K
      | .call => match o.op with
        | .call c => match calleeOf st.env c with
          | some (fid, as) => calleeGk st.env c ∧ CallT g tb P fid as st.heap (fun out h' => runT g tb P N ds rest ⟨putE st.env o.dst out, h'⟩ K)
          | none => False
        | _ => False
      | _ => False
    | _ => False
section
variable {g : Nat} {tb : Array Value} {P : Program} {N : Sz} {w0 : World} {B0 : Cx} {φ : Refs} {Ss : List (List Nat)} {st : St} {a : Act} {w : World}
theorem runT_sound {ops : Array Oper} {Q : Exit → St → Prop} {K : St → Prop} (hK : ∀ st, K st → Q .normal st) :
    ∀ (l : List Oper) {φ : Refs} {Ss : List (List Nat)} {st : St} {a : Act} {w : World}, Rel N w0 B0 φ Ss st a w → Tb g tb Ss w → runT g tb P N (ops.toList.map (·.dst)) l st K → wpList P ops (QT g tb N w0 B0 Q) l a w
  | [], _, _, _, _, _, h, hT, hr => ⟨_, _, _, hK _ hr, h, hT⟩
  | o :: rest, φ, Ss, st, a, w, h, hT, hr => by
    have ih := fun {φ : Refs} {Ss : List (List Nat)} {st : St} {a : Act} {w : World} => runT_sound (ops := ops) hK rest (φ := φ) (Ss := Ss) (st := st) (a := a) (w := w)
    simp only [runT] at hr; obtain ⟨hd, hr⟩ := hr; unfold wpList
    cases hgv : gval (ops.toList.map (·.dst)) st.env o.guard with
    | bad => rw [hgv] at hr; exact hr.elim
    | on _ => rw [hgv] at hr; exact hr.elim
    | free =>
      rw [hgv] at hr; simp only at hr; rw [if_pos (gval_free hgv)]
      left
      unfold Oper.wp
      cases hcl : cls o.op with
      | pure =>
        rw [hcl] at hr; simp only at hr; obtain ⟨y, hy, hv⟩ := pure_upon h hr.1; rw [hy]
        exact ih (h.put hd hv) hT hr.2
      | alloc =>
        rw [hcl] at hr; simp only at hr; obtain ⟨y, w', hy, hm⟩ := evA_sound (own := Own Ss) (φ := φ) (w := w) (o := o) (fun x _ => act_eval h x) hr.1; obtain ⟨φ', Ss', hR, hv⟩ := h.rebase.made hm; rw [hy]
        exact ih ((h.unbase hR).put hd hv) (hT.next hR.fr fun b hb => (hR.bound b hb).2) hr.2
      | call =>
        rw [hcl] at hr; simp only at hr; split at hr
        · rename_i c hop
          split at hr
          · rename_i fid as hc
            obtain ⟨vs, hrun, hcr⟩ := call_run h hop hc hr.1 hr.2.1; rw [hrun]; refine (hr.2.2 φ Ss w vs h.hp hT hcr).mono fun e w' ⟨v, out, h', φ', Ss', e1, e2, e3, e4, e5, e6, e7⟩ => ?_; subst e1
            exact ih ((h.call e3 e5 e6 e7).put hd e4) (hT.next e7 e6) e2
          · exact hr.elim
        · exact hr.elim
      | bad => rw [hcl] at hr; exact hr.elim
      | store => rw [hcl] at hr; exact hr.elim
      | app => rw [hcl] at hr; exact hr.elim
      | clr => rw [hcl] at hr; exact hr.elim
end
section
variable {g : Nat} {tb : Array Value} {P : Program} {N : Sz} {Q : Exit → St → Prop} {st : St}
theorem ST.regionT {id : Nat} {l : List Oper} (h : runT g tb P N (l.map (·.dst)) l st (Q .normal)) : ST g tb P N (.region id l.toArray false) Q st := fun w0 B0 φ Ss a w hR hT =>
  wp_region_lit (runT_sound (ops := l.toArray) (K := Q .normal) (fun _ h => h) l hR hT (by simpa using h))
theorem ST.regionTK {id : Nat} {l : List Oper} {y : Code} (h : ∀ K : St → Prop, (∀ st, ST g tb P N y Q st → K st) → runT g tb P N (l.map (·.dst)) l st K) : ST g tb P N (.seq (.region id l.toArray false) y) Q st :=
  ST.seq (ST.regionT (Q := Ex.then (ST g tb P N y Q) Q) (h _ fun _ h => h))
theorem CallT.intro {n : Nat} {f : FuncId} {fn : Func} {c : Code} {args : List AV} {h : Heap} {Q : AV → Heap → Prop} (hf : P.funcs[f]? = some fn) (hn : ¬ fn.name = "runtime.NumGoroutine") (hb : fn.body = some c) {rs : List ResultVar} (hrs : fn.results.toList = rs) (hnt : fn.ntmps = n) (hN : args.length ≤ n)
    (hs : ST g tb P ⟨n, h.length⟩ c (fun e st => isRet e ∧ (resL P st.heap st.env rs).1 ∧ Q (tupA (resL P st.heap st.env rs).2) st.heap) ⟨envOf args 0, h⟩) : CallT g tb P f args h Q := by
  subst hrs; subst hnt; refine ⟨⟨fn, hf, hn, by rw [hb]; simp⟩, fun φ Ss w vs hp hT hc => calls_of_wp hf hb ?_⟩; refine wp_mono (hs w ⟨Ss.flatten, φ⟩ φ Ss _ w (rel_enter hp hc hN) hT) fun e a' w' ⟨st, φ', Ss', ⟨h1, h2, h3⟩, hR, _⟩ => ?_
  obtain ⟨y, hy, hv⟩ := results_sound (P := P) hR h2
  have fin : a'.defers = [] ∧ ∃ v, (results fn a'.tmps).run P w' = .ok v w' ∧ ∃ v' out h' φ' Ss', Ending.returned v = .returned v' ∧ Q out h' ∧ HP φ' Ss' h' w' ∧ VR w' (Own Ss') φ' out v' [] ∧ (∀ id r, φ id = some r → φ' id = some r) ∧ (∀ b, Own Ss' b → Own Ss b ∨ w.heap.size ≤ b) ∧ Fr w Ss.flatten w' :=
    ⟨hR.defers, y, hy, y, _, _, φ', Ss', rfl, h3, hR.hp, hv, hR.keep, fun b hb => (hR.bound b hb).2, hR.fr⟩
  cases e <;> first | exact fin | exact h1.elim
def FnT (g : Nat) (tb : Array Value) (P : Program) (f : FuncId) (args : List AV) (out : AV) : Prop := Enter P f ∧ ∀ (w : World) (vs : List Value), (∃ T z, w.heap[g]? = some (.cells tb T z)) → CR w (fun _ => False) nof args vs [] →
  Calls P f vs.toArray w fun e w' => ∃ v S, e = .returned v ∧ VR w' (fun _ => True) nof out v S ∧ S.Nodup ∧ (∀ b ∈ S, w.heap.size ≤ b ∧ b < w'.heap.size) ∧ Fr w [] w'
theorem FnT.intro {n : Nat} {f : FuncId} {fn : Func} {c : Code} {args : List AV} {out : AV} (hf : P.funcs[f]? = some fn) (hn : ¬ fn.name = "runtime.NumGoroutine") (hb : fn.body = some c) {rs : List ResultVar} (hrs : fn.results.toList = rs) (hnt : fn.ntmps = n) (hN : args.length ≤ n)
    (hs : ST g tb P ⟨n, 0⟩ c (fun e st => isRet e ∧ (resL P st.heap st.env rs).1 ∧ okPk st.heap (tupA (resL P st.heap st.env rs).2) ∧ (idP (tupA (resL P st.heap st.env rs).2)).Nodup ∧
      pk st.heap (tupA (resL P st.heap st.env rs).2) = out) ⟨envOf args 0, []⟩) : FnT g tb P f args out := by
  have hC := CallT.intro (g := g) (tb := tb) (args := args) (h := []) (Q := fun o h' => okPk h' o ∧ (idP o).Nodup ∧ pk h' o = out) hf hn hb hrs hnt hN (by simpa using hs)
  refine ⟨hC.1, fun w vs ht hc => ?_⟩; have hp : HP nof [] [] w := ⟨fun id b hb => by simp at hb, rfl, fun _ _ => rfl, by simp, fun b hb => by simp at hb⟩
  have hc' : CR w (Own []) nof args vs [] := hc.tr (fun b _ ho => ⟨fun hb => by simp [Own] at hb, rfl⟩) (Nat.le_refl _) (fun _ _ e => e) (fun _ _ => rfl)
  refine (hC.2 nof [] w vs hp ⟨ht, by simp⟩ hc').mono fun e w' ⟨v, o, h', φ', Ss', e1, ⟨q1, q2, q3⟩, e3, e4, _, e6, e7⟩ => ?_; obtain ⟨S, k1, k2⟩ := pk_sound e3.heap e3.nodup e4 q1 q2
  refine ⟨v, S, e1, by rw [← q3]; exact k1, k2.1, fun b hb => ?_, e7⟩; obtain ⟨id, _, T, h1, h2⟩ := k2.2 b hb; have hm : b ∈ Ss'.flatten := List.mem_flatten.2 ⟨T, List.mem_of_getElem? h1, h2⟩
  refine ⟨?_, e3.bound b hm⟩; rcases e6 b hm with h | h
  · simp [Own] at h
  · exact h
theorem CallT.of_fnT {f : FuncId} {args : List AV} {out : AV} {h : Heap} {d d' : Nat} (hf : FnT g tb P f (args.map (viewN h d)) out) :
    CallT g tb P f args h (fun o h' => o = viewN [] d' out ∧ h' = h) := by
  refine ⟨hf.1, fun φ Ss w vs hp hT hc => ?_⟩
  have hv : CR w (fun _ => False) nof (args.map (viewN h d)) vs [] :=
    cr_map_view (own := Own Ss) (own2 := fun _ => False) (φ := φ) (fun v x F k _ => view_sound (own := Own Ss) (φ0 := φ) (Ss := Ss) (fun _ hb => hb.elim) hp.heap (fun _ _ _ _ _ _ hb => hb) d v x F (fun _ _ e => e) k (fun _ _ hb => hb)) hc (fun _ _ hb => hb)
  refine (hf.2 w vs hT.here hv).mono fun e w' ⟨v, S, e1, e2, e3, e4, e5⟩ => ?_; have hfz : ∀ b, b < w.heap.size → ¬ Own Ss b → ¬ Own Ss b ∧ w'.heap[b]? = w.heap[b]? := fun b hb ho => ⟨ho, e5.block b hb (by simp)⟩
  refine ⟨v, _, _, φ, Ss, e1, ⟨rfl, rfl⟩, ⟨?_, hp.len, hp.fresh, hp.nodup, fun b hb => Nat.lt_of_lt_of_le (hp.bound b hb) e5.size⟩, ?_, fun _ _ e => e, fun b hb => .inl hb, ⟨e5.os, e5.tape, e5.output, e5.size, fun b hb _ => e5.block b hb (by simp)⟩⟩
  · intro id b hid
    obtain ⟨S', q1, q2⟩ := hp.heap id b hid; exact ⟨S', q1, q2.tr hfz e5.size (fun _ _ e => e) (fun x hx => e5.block x (hp.bound x (List.mem_flatten.2 ⟨S', List.mem_of_getElem? q1, hx⟩)) (by simp))⟩
  · have := view_sound (w := w') (own := fun _ => True) (own2 := Own Ss) (φ0 := nof) (h := []) (Ss := []) (fun _ _ => trivial) (fun id b hid => by simp at hid) (fun id S ⟨b, hb⟩ => by simp at hb) d' out v S (fun _ _ e => e) e2 (fun b hb ho => by
      have := (e4 b hb).1; have := hp.bound b ho; omega)
    exact this.up
end
end HK
