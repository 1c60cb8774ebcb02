import Derived.Test.YtjalahhkhcmjaaaDoorHK49
/-
  My own texts (road H): HK50.
-/
set_option linter.unusedVariables false
set_option linter.unusedSimpArgs false
set_option linter.unusedSectionVars false
namespace HK
open Go
abbrev GT := Nat × Array Value
structure Tb0 (G : GT) (w0 : World) (B0 : Cx) : Prop where
  here : ∃ T z, w0.heap[G.1]? = some (.cells G.2 T z)
  own : G.1 ∉ B0.l
theorem Tb0.at {G : GT} {N : Sz} {w0 w : World} {B0 : Cx} {φ : Refs} {Ss : List (List Nat)} {st : St} {a : Act} (h : Tb0 G w0 B0) (hR : Rel N w0 B0 φ Ss st a w) : Tb G.1 G.2 Ss w := by
  obtain ⟨T, z, e⟩ := h.here; have hlt : G.1 < w0.heap.size := (Array.getElem?_eq_some_iff.1 e).1
  refine ⟨⟨T, z, (hR.fr.block G.1 hlt h.own).trans e⟩, fun hm => ?_⟩; rcases (hR.bound G.1 hm).2 with h1 | h1
  · exact h.own h1
  · omega
def Q1T (G : GT) (P : Program) (N : Sz) (ds : List (Option Tmp)) (c : Bool) (o : Oper) (env : Env) (h : Heap) (J : AV → List Blk → Prop) : Prop := dOk N o.dst = true ∧ match gval ds env o.guard with
  | .free => match cls o.op with
    | .pure => c = false ∧ (evP P h (ev env) o.op).1 ∧ J (evP P h (ev env) o.op).2 []
    | .alloc => match c with
      | true => (evA P (ev env) o.op).ok ∧ J ((evA P (ev env) o.op).val h.length) [(evA P (ev env) o.op).blk]
      | false => match o.op with
        | .buildSlice t n ps => n = 0 ∧ ps = #[] ∧ (tel P t).isSome = true ∧ J .nil []
        | _ => False
    | .app => match c, o.op with
      | true, .call cl => match cl.args.toList, cl.argTypes.toList with
        | [s, x], [t, xt] => st1 (ev env s) = .nil ∧ (evApp P h t xt (ev env s) (ev env x)).1 ∧ J (evApp P h t xt (ev env s) (ev env x)).2.2 [appBlk P h t (ev env x)]
        | _, _ => False
      | _, _ => False
    | .call => match o.op with
      | .call cl => match calleeOf env cl with
        | some (fid, as) => calleeGk env cl ∧ ∃ out, FnT G.1 G.2 P fid (as.map (viewN h 6)) out ∧ (match c with | false => J (viewN [] 6 out) [] | true => False)
        | none => False
      | _ => False
    | _ => False
  | .on g => c = false ∧ match cls o.op with
    | .pure => (g = true → (evP P h (ev env) o.op).1) ∧ J (.cond g (evP P h (ev env) o.op).2) []
    | .call => match o.op with
      | .call cl => match calleeOf env cl with
        | some (fid, as) => ∃ out, (g = true → calleeGk env cl ∧ FnT G.1 G.2 P fid (as.map (viewN h 6)) out) ∧ J (.cond g (viewN [] 6 out)) []
        | none => False
      | _ => False
    | _ => False
  | .bad => False
section
variable {G : GT} {P : Program} {N : Sz} {w0 : World} {B0 : Cx} {φ : Refs} {Ss : List (List Nat)} {st : St} {a : Act} {w : World}
theorem fnT_run {φ : Refs} {Ss : List (List Nat)} {h H : Heap} {f : FuncId} {as : List AV} {out : AV} {d d' : Nat} {vs : List Value} (hp : HP φ Ss H w) (hh : HR w (Own Ss) φ h Ss) (hT : Tb G.1 G.2 Ss w) (hf : FnT G.1 G.2 P f (as.map (viewN h d)) out) (hc : CR w (Own Ss) φ as vs []) :
    Calls P f vs.toArray w fun e w' => ∃ v φ' Ss', e = .returned v ∧ HP φ' Ss' H w' ∧ VR w' (Own Ss') φ' (viewN [] d' out) v [] ∧ (∀ id r, φ id = some r → φ' id = some r) ∧ (∀ b, Own Ss' b → Own Ss b ∨ w.heap.size ≤ b) ∧ Fr w Ss.flatten w' := by
  have hv : CR w (fun _ => False) nof (as.map (viewN h d)) vs [] :=
    cr_map_view (own := Own Ss) (own2 := fun _ => False) (φ := φ) (fun v x F k _ => view_sound (own := Own Ss) (φ0 := φ) (Ss := Ss) (fun _ hb => hb.elim) hh (fun _ _ _ _ _ _ hb => hb) d v x F (fun _ _ e => e) k (fun _ _ hb => hb)) hc (fun _ _ hb => hb)
  refine (hf.2 w vs hT.here hv).mono fun e w' ⟨v, S, e1, e2, e3, e4, e5⟩ => ?_; have hfz : ∀ b, b < w.heap.size → ¬ Own Ss b → ¬ Own Ss b ∧ w'.heap[b]? = w.heap[b]? := fun b hb ho => ⟨ho, e5.block b hb (by simp)⟩
  refine ⟨v, φ, Ss, e1, ⟨?_, hp.len, hp.fresh, hp.nodup, fun b hb => Nat.lt_of_lt_of_le (hp.bound b hb) e5.size⟩, ?_, fun _ _ e => e, fun b hb => .inl hb, ⟨e5.os, e5.tape, e5.output, e5.size, fun b hb _ => e5.block b hb (by simp)⟩⟩
  · intro id b hid
    obtain ⟨S', q1, q2⟩ := hp.heap id b hid; exact ⟨S', q1, q2.tr hfz e5.size (fun _ _ e => e) (fun x hx => e5.block x (hp.bound x (List.mem_flatten.2 ⟨S', List.mem_of_getElem? q1, hx⟩)) (by simp))⟩
  · have := view_sound (w := w') (own := fun _ => True) (own2 := Own Ss) (φ0 := nof) (h := []) (Ss := []) (fun _ _ => trivial) (fun id b hid => by simp at hid) (fun id S ⟨b, hb⟩ => by simp at hb) d' out v S (fun _ _ e => e) e2 (fun b hb ho => by
      have := (e4 b hb).1; have := hp.bound b ho; omega)
    exact this.up
theorem q1T_sound (h0 : Tb0 G w0 B0) {ops : Array Oper} {Q : Exit → Act → World → Prop} {K' : Act → World → Prop} {i : Nat} {o : Oper} (hi : ops[i]? = some o) {env : Env} {h : Heap} {c : Bool} {J : AV → List Blk → Prop}
    (hq : Q1T G P N (ops.toList.map (·.dst)) c o env h J) (hag : ∀ t ∈ o.looksAt ops, lk st.env t = lk env t) {l : Heap} (hpre : st.heap = h ++ l) (hc : c = true → l = [])
    (hK : ∀ v bl φ' Ss' a' w', (c = false → bl = []) → J v bl → Rel N w0 B0 φ' Ss' ⟨putE st.env o.dst v, st.heap ++ bl.map some⟩ a' w' → K' a' w') (hR : Rel N w0 B0 φ Ss st a w) : wpOp P ops Q i K' a w := by
  have hE : ∀ x ∈ o.op.operands, VR w (Own Ss) φ (ev env x) (a.eval x) [] := fun x hx => eval_ag hR fun t ht => hag t (by
    subst ht
    exact List.mem_append_left _ (List.mem_filterMap.2 ⟨.tmp t, by simpa using hx, rfl⟩))
  have hE' : ∀ x ∈ o.op.operands.toList, VR w (Own Ss) φ (ev env x) (a.eval x) [] := fun x hx => hE x (by simpa using hx)
  have hg : gval (ops.toList.map (·.dst)) env o.guard = gval (ops.toList.map (·.dst)) st.env o.guard := by
    unfold gval; split
    · rfl
    · rename_i j want hgu
      split
      · rename_i t ht
        have : lk st.env t = lk env t := hag t (by
          refine List.mem_append_right _ ?_; rw [hgu]; rw [List.getElem?_map, Array.getElem?_toList] at ht
          cases hj : ops[j]? with
          | none => rw [hj] at ht; cases ht
          | some o' => rw [hj] at ht; simp at ht; simp [hj, ht])
        rw [this]
      · rfl
  have hh : HR w (Own Ss) φ h Ss := HR.pre (l := l) (by rw [← hpre]; exact hR.heap)
  unfold wpOp; rw [hi]; simp only; unfold Q1T at hq; obtain ⟨hd, hq⟩ := hq; rw [hg] at hq
  have done : ∀ {v : AV} {x : Value} {φ' : Refs} {Ss' : List (List Nat)} {w' : World}, J v [] → Rel N w0 B0 φ' Ss' st a w' → VR w' (Own Ss') φ' v x [] → K' (a.put o.dst x) w' := fun {v x φ' Ss' w'} hJ hR hv =>
    hK v [] φ' Ss' _ w' (fun _ => rfl) hJ (by simpa using hR.put hd hv)
  cases hgv : gval (ops.toList.map (·.dst)) st.env o.guard with
  | bad => rw [hgv] at hq; exact hq.elim
  | free =>
    rw [hgv] at hq; simp only at hq; rw [if_pos (gval_free hgv)]
    left
    unfold Oper.wp
    cases hcl : cls o.op with
    | bad => rw [hcl] at hq; exact hq.elim
    | store => rw [hcl] at hq; exact hq.elim
    | clr => rw [hcl] at hq; exact hq.elim
    | app =>
      rw [hcl] at hq; simp only at hq; split at hq
      · rename_i cl hop
        split at hq
        · rename_i s x t xt ha ht
          have hl := hc rfl
          subst hl; rw [List.append_nil] at hpre; obtain ⟨hs, hok, hq⟩ := hq
          have hEs : ∀ y ∈ [s, x], VR w (Own Ss) φ (ev env y) (a.eval y) [] := fun y hy => hE y (by
            rw [hop]; simp only [Op.operands, Call.operands, Array.mem_append]
            exact .inr (by rw [← ha] at hy; simpa using hy))
          have hq' := app_nil hs hok
          rw [← hpre] at hok hq hq'; obtain ⟨y, w', φ', Ss', hrun, hR', hv⟩ := app_sound (P := P) (ty := o.type) hR (hEs s (by simp)) (hEs x (by simp)) hok
          have : (execOp a.eval o).run P w = .ok (.value y) w' := by
            have hcc : cl.callee = .builtin .append := by
              rw [hop] at hcl; obtain ⟨callee, args, ats⟩ := cl; unfold cls clsC at hcl
              cases callee with
              | value _ => cases hcl
              | invoke _ _ => cases hcl
              | builtin b => cases b <;> first | rfl | (simp at hcl)
            obtain ⟨callee, args, ats⟩ := cl; simp only at ha ht hcc; subst hcc; have ea : args = #[s, x] := by rw [← Array.toArray_toList (xs := args), ha]
            have et : ats = #[t, xt] := by rw [← Array.toArray_toList (xs := ats), ht]
            subst ea; subst et; unfold execOp; rw [hop]; simp [resolve, invoke, builtin, hrun]
          rw [this]; have hz := hR'.put hd hv
          rw [hq'] at hz; exact hK _ [appBlk P st.heap t (ev env x)] φ' Ss' _ w' (fun e => by cases e) hq (by simpa using hz)
        · exact hq.elim
      · exact hq.elim
    | pure =>
      rw [hcl] at hq; simp only at hq; obtain ⟨y, hy, hv⟩ := evP_sound (P := P) hh hE' hq.2.1; rw [hy]
      exact done hq.2.2 hR hv
    | alloc =>
      rw [hcl] at hq; simp only at hq
      cases c with
      | true =>
        simp only at hq; obtain ⟨y, w', hy, hm⟩ := evA_sound (P := P) (own := Own Ss) (φ := φ) (w := w) (o := o) hE' hq.1; obtain ⟨φ', Ss', hR', hv⟩ := hR.made hm; rw [hy]; have hl := hc rfl
        subst hl; rw [List.append_nil] at hpre; have hq3 := hq.2
        rw [← hpre] at hq3
        exact hK _ _ _ _ _ _ (fun e => by cases e) hq3 (by simpa using hR'.put hd hv)
      | false =>
        simp only at hq; split at hq
        · rename_i t n ps hop
          obtain ⟨rfl, rfl, hq⟩ := hq; obtain ⟨tt, htt⟩ := Option.isSome_iff_exists.1 hq.1; obtain ⟨e, i, hu, hi, _⟩ := tel_spec (sz := tt.1) (bytes := tt.2) htt
          have hrun : (execOp a.eval o).run P w = .ok (.value (.slice (some ⟨w.heap.size, 0, none⟩) 0 0)) { w with heap := w.heap.push (.cells #[] e) } := by
            unfold execOp; rw [hop]; have e0 : (Array.map (fun _ : Nat => (default : Value)) (Array.range 0)) = #[] := by apply Array.ext <;> simp
            simp [Instr.buildSlice, run_underlying hu, run_sizeI hi, Instr.fill, run_newRow]; try rw [e0]
          rw [hrun]
          have hfz : ∀ b, b < w.heap.size → ¬ Own Ss b → ¬ Own Ss b ∧ (w.heap.push (.cells #[] e))[b]? = w.heap[b]? := fun b hb ho => ⟨ho, by
            rw [Array.getElem?_push, if_neg (by omega)]⟩
          refine done (φ' := φ) (Ss' := Ss) hq.2 (hR.call (w' := { w with heap := w.heap.push (.cells #[] e) }) (φ' := φ) (Ss' := Ss) ⟨?_, hR.len, hR.fresh, hR.nodup, fun b hb => ?_⟩ (fun _ _ h => h) (fun b hb => .inl hb) ⟨rfl, rfl, rfl, by simp, fun b hb _ => by simp only []; rw [Array.getElem?_push, if_neg (by omega)]⟩) (.nil _)
          · intro id b hid
            obtain ⟨S', q1, q2⟩ := hR.heap id b hid
            exact ⟨S', q1, q2.tr (w' := { w with heap := w.heap.push (.cells #[] e) }) hfz (by simp) (fun _ _ h => h) (fun x hx => by
              have := (hR.bound x (List.mem_flatten.2 ⟨S', List.mem_of_getElem? q1, hx⟩)).1
              simp only []
              rw [Array.getElem?_push, if_neg (by omega)])⟩
          · have := (hR.bound b hb).1
            simp only [Array.size_push]; omega
        · exact hq.elim
    | call =>
      rw [hcl] at hq; simp only at hq; split at hq
      · rename_i cl hop
        split at hq
        · rename_i fid as hcal
          obtain ⟨hgk, out, hf, hq⟩ := hq; obtain ⟨vs, hrun, hcr⟩ := call_run2 hop (by rw [hop] at hE; exact hE) hcal hgk hf.1; rw [hrun]
          cases c with
          | false =>
            refine (fnT_run (d' := 6) hR.hp hh (h0.at hR) hf hcr).mono fun e w' ⟨v, φ', Ss', e1, e3, e4, e5, e6, e7⟩ => ?_; subst e1
            exact done hq (hR.call e3 e5 e6 e7) e4
          | true =>
            exact hq.elim
        · exact hq.elim
      · exact hq.elim
  | on g =>
    rw [hgv] at hq; simp only at hq; obtain ⟨hcf, hq⟩ := hq; have hw := gval_on hR hgv
    rw [hw]
    cases hcl : cls o.op with
    | bad => rw [hcl] at hq; exact hq.elim
    | alloc => rw [hcl] at hq; exact hq.elim
    | store => rw [hcl] at hq; exact hq.elim
    | app => rw [hcl] at hq; exact hq.elim
    | clr => rw [hcl] at hq; exact hq.elim
    | pure =>
      rw [hcl] at hq; simp only at hq
      cases g with
      | true =>
        rw [if_pos rfl]
        left
        obtain ⟨y, hy, hv⟩ := evP_sound (P := P) hh hE' (hq.1 rfl); unfold Oper.wp; rw [hy]
        exact done hq.2 hR (.condT _ _ _ hv)
      | false =>
        rw [if_neg (by simp)]
        exact done hq.2 hR (.condF _)
    | call =>
      rw [hcl] at hq; simp only at hq; split at hq
      · rename_i cl hop
        split at hq
        · rename_i fid as hcal
          obtain ⟨out, hq1, hq2⟩ := hq
          cases g with
          | true =>
            rw [if_pos rfl]
            left
            obtain ⟨hgk, hf⟩ := hq1 rfl; obtain ⟨vs, hrun, hcr⟩ := call_run2 hop (by rw [hop] at hE; exact hE) hcal hgk hf.1; unfold Oper.wp; rw [hrun]
            refine (fnT_run (d' := 6) hR.hp hh (h0.at hR) hf hcr).mono fun e w' ⟨v, φ', Ss', e1, e3, e4, e5, e6, e7⟩ => ?_; subst e1
            exact done hq2 (hR.call e3 e5 e6 e7) (.condT _ _ _ e4)
          | false =>
            rw [if_neg (by simp)]; exact done hq2 hR (.condF _)
        · exact hq.elim
      · exact hq.elim
end
def runQT (G : GT) (P : Program) (N : Sz) (ds : List (Option Tmp)) : List (Bool × Oper) → St → (St → Prop) → Prop
  | [], st, K => K st
  | (c, o) :: l, st, K => Q1T G P N ds c o st.env st.heap (fun v bl => runQT G P N ds l ⟨putE st.env o.dst v, st.heap ++ bl.map some⟩ K)
section
variable {G : GT} {P : Program} {N : Sz} {ds : List (Option Tmp)}
theorem Q1T.ex {c : Bool} {o : Oper} {env : Env} {h : Heap} {J : AV → List Blk → Prop} (hq : Q1T G P N ds c o env h J) : ∃ v bl, Q1T G P N ds c o env h (fun v' bl' => v' = v ∧ bl' = bl) ∧ J v bl ∧ (c = false → bl = []) := by
  unfold Q1T at hq ⊢; obtain ⟨hd, hq⟩ := hq; split at hq
  · rename_i hg
    split at hq
    · rename_i hc; exact ⟨_, _, ⟨hd, hq.1, hq.2.1, rfl, rfl⟩, hq.2.2, fun _ => rfl⟩
    · rename_i hc
      cases c with
      | true => exact ⟨_, _, ⟨hd, hq.1, rfl, rfl⟩, hq.2, fun e => by cases e⟩
      | false =>
        simp only at hq; split at hq
        · exact ⟨_, _, ⟨hd, hq.1, hq.2.1, hq.2.2.1, rfl, rfl⟩, hq.2.2.2, fun _ => rfl⟩
        · exact hq.elim
    · rename_i hc
      split at hq
      · split at hq
        · exact ⟨_, _, ⟨hd, hq.1, hq.2.1, rfl, rfl⟩, hq.2.2, fun e => by cases e⟩
        · exact hq.elim
      · exact hq.elim
    · rename_i hc
      split at hq
      · split at hq
        · obtain ⟨hgk, out, hf, hq⟩ := hq
          cases c with
          | false => exact ⟨_, _, ⟨hd, hgk, out, hf, rfl, rfl⟩, hq, fun _ => rfl⟩
          | true => exact hq.elim
        · exact hq.elim
      · exact hq.elim
    · exact hq.elim
  · obtain ⟨hcf, hq⟩ := hq
    split at hq
    · exact ⟨_, _, ⟨hd, hcf, hq.1, rfl, rfl⟩, hq.2, fun _ => rfl⟩
    · split at hq
      · split at hq
        · obtain ⟨out, h1, h2⟩ := hq
          exact ⟨_, _, ⟨hd, hcf, out, h1, rfl, rfl⟩, h2, fun _ => rfl⟩
        · exact hq.elim
      · exact hq.elim
    · exact hq.elim
  · exact hq.elim
theorem runQT_its {K : St → Prop} : ∀ {l : List (Bool × Oper)} {st : St}, runQT G P N ds l st K → ∃ its : List It, its.length = l.length ∧ K (stM its (fun _ => true) st) ∧
    ∀ k c o, l[k]? = some (c, o) → ∃ it, its[k]? = some it ∧ it.o = o ∧ (c = false → it.bl = []) ∧ Q1T G P N ds c o (stM its (pre k) st).env (stM its (pre k) st).heap (fun v bl => v = it.v ∧ bl = it.bl)
  | [], st, h => ⟨[], rfl, h, fun k c o hk => by simp at hk⟩
  | (c, o) :: l, st, h => by
    obtain ⟨v, bl, h1, h2, h3⟩ := Q1T.ex h; obtain ⟨its, e1, e2, e3⟩ := runQT_its h2; refine ⟨⟨o, v, bl⟩ :: its, by simp [e1], by simpa [stM, It.app] using e2, fun k c' o' hk => ?_⟩
    cases k with
    | zero =>
      simp at hk; obtain ⟨rfl, rfl⟩ := hk
      have : ∀ (l : List It) (g : Nat → Bool) (s : St), (∀ j, g j = false) → stM l g s = s := fun l => by
        induction l with
        | nil => intro g s _; rfl
        | cons y l ih => intro g s hg; simp only [stM]; rw [hg 0]; exact ih _ s fun j => hg (j + 1)
      refine ⟨_, by simp; rfl, rfl, h3, ?_⟩; rw [this _ (pre 0) _ fun j => by simp [pre]]
      exact h1
    | succ k =>
      obtain ⟨it, k1, k2, k3, k4⟩ := e3 k c' o' (by simpa using hk); refine ⟨it, by simpa using k1, k2, k3, ?_⟩; have e1 : (fun j => pre (k + 1) (j + 1)) = pre k := by funext j; simp [pre]
      have e2 : pre (k + 1) 0 = true := by simp [pre]
      simp only [stM, e1, e2, if_true]; exact k4
end
def runDT (G : GT) (P : Program) (N : Sz) (ops : List Oper) (ds : List (Option Tmp)) : List PSeg → St → (St → Prop) → Prop
  | [], st, K => K st
  | .b i :: r, st, K => match ops[i]? with
    | some o => runA P N ds [o] st fun s => runDT G P N ops ds r s K
    | none => False
  | .w l i x :: r, st, K => False
  | .q l :: r, st, K => runQT G P N ds (l.filterMap fun x => (ops[x.1]?).map fun o => (x.2, o)) st fun s => runDT G P N ops ds r s K
section
variable {G : GT} {P : Program} {N : Sz} {w0 : World} {B0 : Cx}
theorem segT_sound (h0 : Tb0 G w0 B0) {ops : List Oper} {T : List (Nat × List Nat)} {Q : Exit → Act → World → Prop} (hT : TOk ops T) {D : List Nat} {l : List (Nat × Bool)} {r : List PSeg} (hD : ∀ p ∈ D, p < ops.length) (hdis : ∀ x ∈ l.map (·.1), x ∉ D) (hq : qOk ops T D [] l = true)
    (hcov : ∀ x, x < ops.length → x ∈ D ∨ x ∈ l.map (·.1) ∨ x ∈ planIdx r) {its : List It} {st0 : St} {rest : Nat}
    (hlater : ∀ y ∈ planIdx r, (∀ z ∈ l.map (·.1), z ∈ lkT T y) ∨ ∀ (fs : Nat → Bool) φ Ss a w (listed : Array Bool) f oy, ops[y]? = some oy → (∀ p ∈ prd oy, listed.getD p false = true) → listed.getD y false = false → (∀ z ∈ lkT T y, listed.getD z false = true) → listed.size = ops.length →
      Closed ops listed → (∀ i, i < ops.length → (listed.getD i false = true ↔ i ∈ D ∨ ∃ k c, l[k]? = some ((i, c) : Nat × Bool) ∧ fs k = true)) → (∃ k, k < l.length ∧ fs k = false) → Rel N w0 B0 φ Ss (stM its fs st0) a w → rest ≤ f →
      wpOp P ops.toArray Q y (fun a' w' => wpAny P .any ops.toArray Q f (listed.setIfInBounds y true) a' w') a w) (hlen : its.length = l.length)
    (hits : ∀ (k : Nat) (x : Nat) (c : Bool), l[k]? = some ((x, c) : Nat × Bool) → ∃ it o, its[k]? = some it ∧ ops[x]? = some o ∧ it.o = o ∧ (c = false → it.bl = []) ∧
      Q1T G P N (ops.map (·.dst)) c o (stM its (pre k) st0).env (stM its (pre k) st0).heap (fun v bl => v = it.v ∧ bl = it.bl))
    (next : ∀ φ Ss a w listed fuel, listed.size = ops.length → Closed ops listed → (∀ i, i < ops.length → (listed.getD i false = true ↔ i ∈ D ++ l.map (·.1))) → Rel N w0 B0 φ Ss (stM its (fun _ => true) st0) a w → rest ≤ fuel →
      wpAny P .any ops.toArray Q fuel listed a w) :
    ∀ (n : Nat) (pd : List Nat) (fs : Nat → Bool) (φ : Refs) (Ss : List (List Nat)) (a : Act) (w : World) (listed : Array Bool) (fuel : Nat), pd.length = n → pd.Nodup → (∀ k ∈ pd, k < l.length) → (∀ k, k < l.length → (fs k = false ↔ k ∈ pd)) →
      listed.size = ops.length → Closed ops listed → (∀ i, i < ops.length → (listed.getD i false = true ↔ i ∈ D ∨ ∃ k c, l[k]? = some ((i, c) : Nat × Bool) ∧ fs k = true)) → Rel N w0 B0 φ Ss (stM its fs st0) a w → n + rest ≤ fuel →
      wpAny P .any ops.toArray Q fuel listed a w := by
  have hinj : ∀ (k k' : Nat) (x : Nat) (c c' : Bool), l[k]? = some ((x, c) : Nat × Bool) → l[k']? = some ((x, c') : Nat × Bool) → k = k' := by
    intro k k' x c c' h1 h2; rcases Nat.lt_trichotomy k k' with hlt | he | hlt
    · obtain ⟨o, _, _, _, h3⟩ := qOk_spec hq k' x c' h2
      have := h3 k x c hlt h1
      simp [pairOk] at this
    · exact he
    · obtain ⟨o, _, _, _, h3⟩ := qOk_spec hq k x c h1
      have := h3 k' x c' hlt h2
      simp [pairOk] at this
  intro n
  induction n with
  | zero =>
    intro pd fs φ Ss a w listed fuel hpl hnd hlt hfs hs hcl hL hR hfu; have hpd : pd = [] := List.eq_nil_of_length_eq_zero hpl
    subst hpd
    have hall : ∀ k, k < l.length → fs k = true := fun k hk => by
      have := hfs k hk
      cases h : fs k with
      | true => rfl
      | false => exact absurd (this.1 h) (by simp)
    refine next φ Ss a w listed fuel hs hcl (fun i hi => (hL i hi).trans ?_) (by rw [← stM_congr its fs (fun _ => true) st0 fun k hk => hall k (by omega)]; exact hR) (by omega)
    rw [List.mem_append]; refine or_congr Iff.rfl ⟨fun ⟨k, c, h1, _⟩ => List.mem_map.2 ⟨(i, c), List.mem_of_getElem? h1, rfl⟩, fun h => ?_⟩; obtain ⟨⟨i', c⟩, hm, rfl⟩ := List.mem_map.1 h; obtain ⟨k, hk⟩ := List.getElem?_of_mem hm
    exact ⟨k, c, hk, hall k (List.getElem?_eq_some_iff.1 hk).1⟩
  | succ n ih =>
    intro pd fs φ Ss a w listed fuel hpl hnd hlt hfs hs hcl hL hR hfu; obtain ⟨f, rfl⟩ : ∃ f, fuel = f + 1 := ⟨fuel - 1, by omega⟩
    have hidx : ∀ k, k < l.length → ∃ x c, l[k]? = some ((x, c) : Nat × Bool) := fun k hk => ⟨_, _, List.getElem?_eq_getElem hk⟩
    have hxlt : ∀ (k x : Nat) (c : Bool), l[k]? = some ((x, c) : Nat × Bool) → x < ops.length := fun k x c hk => by
      obtain ⟨o, h1, _⟩ := qOk_spec hq k x c hk; exact (List.getElem?_eq_some_iff.1 h1).1
    -- what is pending is not listed
    have hpend : ∀ (k x : Nat) (c : Bool), l[k]? = some ((x, c) : Nat × Bool) → fs k = false → listed.getD x false = false := fun k x c hk hf => by
      cases h : listed.getD x false with
      | false => rfl
      | true =>
        rcases (hL x (hxlt k x c hk)).1 h with h1 | ⟨k', c', h1, h2⟩
        · exact absurd h1 (hdis x (List.mem_map.2 ⟨(x, c), List.mem_of_getElem? hk, rfl⟩))
        · have := hinj k k' x c c' hk h1
          subst this; rw [hf] at h2; cases h2
    have hlisted : ∀ (k x : Nat) (c : Bool), l[k]? = some ((x, c) : Nat × Bool) → listed.getD x false = true → fs k = true := fun k x c hk hx => by
      cases h : fs k with
      | true => rfl
      | false => rw [hpend k x c hk h] at hx; cases hx
    refine ⟨fun h0 => ?_, fun x hx => ?_⟩
    · exfalso
      have hne : pd ≠ [] := fun e => by rw [e] at hpl; cases hpl
      obtain ⟨k0, hk0, hmin⟩ := minOf l.length pd (by
        obtain ⟨k, t, e⟩ := List.exists_cons_of_ne_nil hne
        exact ⟨k, by rw [e]; simp, hlt k (by rw [e]; simp)⟩)
      obtain ⟨x, c, hx⟩ := hidx k0 (hlt k0 hk0); obtain ⟨o, h1, h2, _, _⟩ := qOk_spec hq k0 x c hx
      have : x ∈ Region.ready .any ops.toArray listed := (ready_iff hs).2 ⟨hpend k0 x c hx ((hfs k0 (hlt k0 hk0)).2 hk0), o, h1, fun p hp => by
        rcases h2 p hp with h3 | h3 | ⟨k', c', h3, h4⟩
        · exact (hL p (hD p h3)).2 (.inl h3)
        · simp at h3
        · refine (hL p (hxlt k' p c' h4)).2 (.inr ⟨k', c', h4, ?_⟩)
          cases h5 : fs k' with
          | true => rfl
          | false =>
            have := hmin k' ((hfs k' (List.getElem?_eq_some_iff.1 h4).1).1 h5)
            omega⟩
      rw [h0] at this; cases this
    · obtain ⟨hun, o, ho, hpr⟩ := (ready_iff hs).1 hx
      have hxl : x < ops.length := (List.getElem?_eq_some_iff.1 ho).1
      have hanc : ∀ z ∈ lkT T x, listed.getD z false = true := fun z hz => hcl.ready ho hpr (hT x z hz)
      rcases hcov x hxl with h1 | h1 | h1
      · rw [(hL x hxl).2 (.inl h1)] at hun; cases hun
      · obtain ⟨⟨x', c⟩, hm, rfl⟩ := List.mem_map.1 h1
        obtain ⟨k, hk⟩ := List.getElem?_of_mem hm; have hkl := (List.getElem?_eq_some_iff.1 hk).1
        have hfk : fs k = false := by
          cases h : fs k with
          | false => rfl
          | true => rw [(hL x' hxl).2 (.inr ⟨k, c, hk, h⟩)] at hun; cases hun
        obtain ⟨it, o', e1, e2, e3, e4, e5⟩ := hits k x' c hk; rw [ho] at e2; cases e2; obtain ⟨o2, q1, q2, q3, q4⟩ := qOk_spec hq k x' c hk; rw [ho] at q1; cases q1
        -- what comes later of the text and is done must not come behind
        have hlat : ∀ (k' x2 : Nat) (c2 : Bool), l[k']? = some ((x2, c2) : Nat × Bool) → fs k' = true → x' ∉ lkT T x2 := fun k' x2 c2 h1 h2 hz => by
          have := hcl.anc (hT x2 x' hz) ((hL x2 (hxlt k' x2 c2 h1)).2 (.inr ⟨k', c2, h1, h2⟩))
          rw [hun] at this; cases this
        have hitk : ∀ (k' : Nat) (it' : It), its[k']? = some it' → ∃ x2 c2, l[k']? = some ((x2, c2) : Nat × Bool) ∧ ops[x2]? = some it'.o ∧ (c2 = false → it'.bl = []) := fun k' it' h => by
          have hlt' : k' < l.length := by have := (List.getElem?_eq_some_iff.1 h).1; omega
          obtain ⟨x2, c2, h2⟩ := hidx k' hlt'; obtain ⟨it2, o2, g1, g2, g3, g4, _⟩ := hits k' x2 c2 h2; rw [h] at g1; cases g1; exact ⟨x2, c2, h2, by rw [g3]; exact g2, g4⟩
        -- two of them
        have hpair : ∀ (k' : Nat) (it' : It) (x2 : Nat) (c2 : Bool), its[k']? = some it' → l[k']? = some ((x2, c2) : Nat × Bool) → k' < k → pairOk ops T x' o x2 c2 = true := fun k' it' x2 c2 _ h2 h3 => q4 k' x2 c2 h3 h2
        have hpair2 : ∀ (k' : Nat) (it' : It) (x2 : Nat) (c2 : Bool), its[k']? = some it' → l[k']? = some ((x2, c2) : Nat × Bool) → ops[x2]? = some it'.o → k < k' → pairOk ops T x2 it'.o x' c = true := fun k' it' x2 c2 _ h2 h2' h3 => by
          obtain ⟨o3, g1, _, _, g4⟩ := qOk_spec hq k' x2 c2 h2; rw [h2'] at g1; cases g1; exact g4 k x' c h3 hk
        have hfst : ∀ (k' x2 : Nat) (c2 : Bool), l[k']? = some ((x2, c2) : Nat × Bool) → x2 ∈ lkT T x' → fs k' = true := fun k' x2 c2 h1 h2 => hlisted k' x2 c2 h1 (hanc x2 h2)
        have hmk : c = true → ∀ (k' : Nat) (it' : It), its[k']? = some it' → k < k' → fs k' = false := fun hc k' it' h1 h2 => by
          obtain ⟨x2, c2, h3, h4, _⟩ := hitk k' it' h1; have := hpair2 k' it' x2 c2 h1 h3 h4 h2
          simp only [pairOk, ho, hc, Bool.not_true, Bool.false_and, Bool.or_false, Bool.and_eq_true, List.contains_iff_mem] at this
          cases h5 : fs k' with
          | false => rfl
          | true => exact absurd this.2.2 (hlat k' x2 c2 h3 h5)
        have hds : ops.toArray.toList.map (·.dst) = ops.map (·.dst) := by simp
        have hpre : ∃ lh, (stM its fs st0).heap = (stM its (pre k) st0).heap ++ lh ∧ (c = true → lh = []) := by
          rw [stM_heap, stM_heap]
          have hbefore : ∀ k' it', its[k']? = some it' → k' < k → it'.bl = [] ∨ fs k' = true := fun k' it' h1 h2 => by
            obtain ⟨x2, c2, h3, h4, h5⟩ := hitk k' it' h1; have := hpair k' it' x2 c2 h1 h3 h2
            cases c2 with
            | false => exact .inl (h5 rfl)
            | true =>
              simp only [pairOk, h4, Bool.not_true, Bool.false_and, Bool.or_false, Bool.and_eq_true, List.contains_iff_mem] at this; exact .inr (hfst k' x2 true h3 this.2.2)
          cases hcc : c with
          | true =>
            refine ⟨[], ?_, fun _ => rfl⟩; rw [blM_eq its fs (pre k) fun k' it' h1 => ?_, List.append_nil]; rcases Nat.lt_trichotomy k' k with h2 | h2 | h2
            · rcases hbefore k' it' h1 h2 with h3 | h3
              · exact .inl h3
              · right; rw [h3]; simp [pre, h2]
            · subst h2; right; rw [hfk]; simp [pre]
            · right; rw [hmk hcc k' it' h1 h2]; simp [pre]; omega
          | false =>
            obtain ⟨lh, hl⟩ := blM_pre (k := k) its fs hbefore; exact ⟨lh, by rw [hl, List.append_assoc], fun e => by cases e⟩
        obtain ⟨lh, hp1, hp2⟩ := hpre
        refine q1T_sound h0 (ops := ops.toArray) (o := o) (by simpa using ho) (c := c) (env := (stM its (pre k) st0).env) (h := (stM its (pre k) st0).heap) (l := lh) (by rw [hds]; exact e5) (fun t ht => ?_) hp1 hp2 (fun v bl φ' Ss' a' w' _ hJ hR' => ?_) hR
        · refine stM_lk its _ _ st0 st0 (fun k' it' h1 h2 => ?_) rfl
          obtain ⟨x2, c2, h3, h4, h5⟩ := hitk k' it' h1; rcases Nat.lt_trichotomy k' k with h6 | h6 | h6
          · have := hpair k' it' x2 c2 h1 h3 h6
            simp only [pairOk, h4, h2, Bool.and_eq_true, Bool.or_eq_true, List.contains_iff_mem] at this; rcases this.2.2 with h7 | ⟨⟨_, h7⟩, _⟩
            · rw [hfst k' x2 c2 h3 h7]; simp [pre, h6]
            · simp at h7; exact absurd ht h7
          · subst h6; rw [hfk]; simp [pre]
          · have := hpair2 k' it' x2 c2 h1 h3 h4 h6
            simp only [pairOk, ho, h2, Bool.and_eq_true, Bool.or_eq_true, List.contains_iff_mem] at this; have h9 : pre k k' = false := by simp [pre]; omega
            rw [h9]; rcases this.2.2 with h7 | ⟨_, h7⟩
            · cases h8 : fs k' with
              | false => rfl
              | true => exact absurd h7 (hlat k' x2 c2 h3 h8)
            · simp at h7; exact absurd ht h7
        · obtain ⟨rfl, rfl⟩ := hJ
          have hkpd : k ∈ pd := (hfs k hkl).1 hfk
          have hR2 : Rel N w0 B0 φ' Ss' (stM its (setF fs k) st0) a' w' := by
            refine hR'.lkc (fun t => ?_) ?_
            · subst e3
              refine (stM_put its fs st0 e1 hfk fun k' it' h1 h2 d hd => ?_).symm; obtain ⟨x2, c2, h3, h4, h5⟩ := hitk k' it' h1; rcases Nat.lt_or_ge k' k with h6 | h6
              · have := hpair k' it' x2 c2 h1 h3 h6
                simp only [pairOk, h4, hd, Bool.and_eq_true] at this
                simpa using this.2.1
              · have := hpair2 k' it' x2 c2 h1 h3 h4 (by omega)
                simp only [pairOk, ho, hd, Bool.and_eq_true] at this; intro h7; rw [h7] at this
                simpa using this.2.1
            · show (stM its (setF fs k) st0).heap = (stM its fs st0).heap ++ it.bl.map some
              rw [stM_heap, stM_heap, blM_set its fs e1 hfk ?_, List.append_assoc]
              cases hcc : c with
              | false => exact .inl (e4 hcc)
              | true => exact .inr fun k' it' h1 h2 h3 => by rw [hmk hcc k' it' h1 h2] at h3; cases h3
          refine ih (pd.erase k) (setF fs k) φ' Ss' a' w' _ f (by rw [List.length_erase_of_mem hkpd]; omega) (hnd.erase k) (fun k' h => hlt k' (List.mem_of_mem_erase h)) (fun k' hk' => ?_) (by simpa using hs) (hcl.set hs ho hpr) (fun i hi => ?_) hR2 (by omega)
          · rw [hnd.mem_erase_iff]
            unfold setF; split
            · rename_i e; subst e; simp
            · rename_i e
              exact (hfs k' hk').trans ⟨fun h => ⟨e, h⟩, fun h => h.2⟩
          · rw [listed_set hs hxl]
            split
            · rename_i e; subst e
              simp only [true_iff]; exact .inr ⟨k, c, hk, by simp [setF]⟩
            · rename_i e
              refine (hL i hi).trans (or_congr Iff.rfl ⟨fun ⟨k', c', h1, h2⟩ => ⟨k', c', h1, ?_⟩, fun ⟨k', c', h1, h2⟩ => ⟨k', c', h1, ?_⟩⟩)
              · unfold setF; split
                · rfl
                · exact h2
              · unfold setF at h2
                split at h2
                · rename_i e'; subst e'; rw [hk] at h1; cases h1; exact absurd rfl e
                · exact h2
      · have hne : pd ≠ [] := fun e => by rw [e] at hpl; cases hpl
        obtain ⟨k0, t, e⟩ := List.exists_cons_of_ne_nil hne; have hk0 : k0 ∈ pd := by rw [e]; simp
        rcases hlater x h1 with hlx | hlx
        rotate_left
        · exact hlx fs φ Ss a w listed f o ho hpr hun hanc hs hcl hL ⟨k0, hlt k0 hk0, (hfs k0 (hlt k0 hk0)).2 hk0⟩ hR (by omega)
        exfalso; obtain ⟨x0, c0, hx0⟩ := hidx k0 (hlt k0 hk0); have h2 := hanc x0 (hlx x0 (List.mem_map.2 ⟨(x0, c0), List.mem_of_getElem? hx0, rfl⟩))
        rw [hpend k0 x0 c0 hx0 ((hfs k0 (hlt k0 hk0)).2 hk0)] at h2; cases h2
theorem planT_sound (h0 : Tb0 G w0 B0) {ops : List Oper} {T : List (Nat × List Nat)} (hT : TOk ops T) {Q : Exit → St → Prop} {K : St → Prop} (hK : ∀ st, K st → Q .normal st) :
    ∀ (plan : List PSeg) (D : List Nat) (st : St) (φ : Refs) (Ss : List (List Nat)) (a : Act) (w : World) (listed : Array Bool) (fuel : Nat), planOk ops T D plan = true → (∀ p ∈ D, p < ops.length) → listed.size = ops.length → Closed ops listed →
      (∀ i, i < ops.length → (listed.getD i false = true ↔ i ∈ D)) → Rel N w0 B0 φ Ss st a w → runDT G P N ops (ops.map (·.dst)) plan st K → (planIdx plan).length ≤ fuel → wpAny P .any ops.toArray (QR N w0 B0 Q) fuel listed a w
  | [], D, st, φ, Ss, a, w, listed, fuel, hp, hD, hs, hcl, hL, hR, hr, hf => by
    refine wpAny_done ?_ ⟨st, φ, Ss, hK _ hr, hR⟩ fuel; rw [List.eq_nil_iff_forall_not_mem]; intro x hx; obtain ⟨h1, o, ho, _⟩ := (ready_iff hs).1 hx; have hxl := (List.getElem?_eq_some_iff.1 ho).1
    rcases plan_cover hp x hxl with h | h
    · rw [(hL x hxl).2 h] at h1; cases h1
    · simp [planIdx] at h
  | .b i :: r, D, st, φ, Ss, a, w, listed, fuel, hp, hD, hs, hcl, hL, hR, hr, hf => by
    have hcov := plan_cover hp
    simp only [planOk, Bool.and_eq_true] at hp; obtain ⟨⟨hp1, hp2⟩, hp3⟩ := hp; simp only [PSeg.idx, List.all_cons, List.all_nil, Bool.and_true, Bool.and_eq_true, Bool.not_eq_true', List.all_eq_true, List.contains_iff_mem] at hp1
    have hiD : i ∉ D := fun h => by have := hp1.1; simp [h] at this
    simp only [runDT] at hr; simp only [segOk] at hp2; split at hr
    · rename_i o ho
      rw [ho] at hp2; simp only [List.all_eq_true, List.contains_iff_mem] at hp2; have hil := (List.getElem?_eq_some_iff.1 ho).1
      have hlen : (planIdx (.b i :: r)).length = 1 + (planIdx r).length := by simp [planIdx, PSeg.idx]; omega
      obtain ⟨f, rfl⟩ : ∃ f, fuel = f + 1 := ⟨fuel - 1, by omega⟩
      have hun : listed.getD i false = false := by
        cases h : listed.getD i false with
        | false => rfl
        | true => exact absurd ((hL i hil).1 h) hiD
      have hri : i ∈ Region.ready .any ops.toArray listed := (ready_iff hs).2 ⟨hun, o, ho, fun p hp => (hL p (hD p (hp2 p hp))).2 (hp2 p hp)⟩
      refine ⟨fun h0 => (by rw [h0] at hri; cases hri), fun x hx => ?_⟩; obtain ⟨hux, ox, hox, hpr⟩ := (ready_iff hs).1 hx; have hxl := (List.getElem?_eq_some_iff.1 hox).1
      have hxi : x = i := by
        rcases hcov x hxl with h | h
        · rw [(hL x hxl).2 h] at hux; cases hux
        · simp only [planIdx, List.map_cons, List.flatten_cons, List.mem_append, PSeg.idx, List.mem_singleton] at h
          rcases h with h | h
          · exact h
          · have h3 := plan_later hp3 x h i (List.mem_append_right _ (by simp [PSeg.idx]))
            have h4 := hcl.ready hox hpr (hT x i h3)
            rw [hun] at h4; cases h4
      subst hxi; rw [ho] at hox; cases hox; have hds : ops.toArray.toList.map (·.dst) = ops.map (·.dst) := by simp
      refine stepA_sound (ops := ops.toArray) (o := o) (by simpa using ho) (fun st' φ' Ss' a' w' hJ hR' => ?_) hR (by rw [hds]; exact hr)
      refine planT_sound h0 hT hK r (D ++ [x]) st' φ' Ss' a' w' _ f (by simpa [PSeg.idx] using hp3) (fun p hp => ?_) (by simpa using hs) (hcl.set hs ho hpr) (fun j hj => ?_) hR' hJ (by omega)
      · rcases List.mem_append.1 hp with h | h
        · exact hD p h
        · simp at h; subst h; exact hil
      · rw [listed_set hs hil]
        split
        · rename_i e; subst e; simp
        · rename_i e
          rw [hL j hj]; simp [e]
    · exact hr.elim
  | .w l i x :: r, D, st, φ, Ss, a, w, listed, fuel, hp, hD, hs, hcl, hL, hR, hr, hf => hr.elim
  | .q l :: r, D, st, φ, Ss, a, w, listed, fuel, hp, hD, hs, hcl, hL, hR, hr, hf => by
    have hcov := plan_cover hp
    simp only [planOk, Bool.and_eq_true] at hp; obtain ⟨⟨hp1, hp2⟩, hp3⟩ := hp; simp only [PSeg.idx, segOk] at hp1 hp2 hp3; simp only [runDT] at hr
    have hfm : ∀ (m : List (Nat × Bool)), (∀ x ∈ m, ∃ o, ops[x.1]? = some o) → (m.filterMap fun x => (ops[x.1]?).map fun o => (x.2, o)).length = m.length ∧
        ∀ (k x : Nat) (c : Bool), m[k]? = some ((x, c) : Nat × Bool) → ∃ o, ops[x]? = some o ∧ (m.filterMap fun x => (ops[x.1]?).map fun o => (x.2, o))[k]? = some (c, o) := by
      intro m
      induction m with
      | nil => intro _; exact ⟨rfl, fun k x c h => by simp at h⟩
      | cons y m ih =>
        intro hm; obtain ⟨o, ho⟩ := hm y (by simp); obtain ⟨i1, i2⟩ := ih fun x hx => hm x (by simp [hx])
        have e : ((y :: m).filterMap fun x => (ops[x.1]?).map fun o => (x.2, o)) = (y.2, o) :: (m.filterMap fun x => (ops[x.1]?).map fun o => (x.2, o)) := by
          rw [List.filterMap_cons, ho]; rfl
        rw [e]; refine ⟨by simp [i1], fun k x c h => ?_⟩
        cases k with
        | zero => simp at h; subst h; exact ⟨o, ho, by simp⟩
        | succ k => simpa using i2 k x c (by simpa using h)
    have hex : ∀ x ∈ l, ∃ o, ops[x.1]? = some o := fun x hx => by
      obtain ⟨k, hk⟩ := List.getElem?_of_mem hx; obtain ⟨o, h1, _⟩ := qOk_spec hp2 k x.1 x.2 hk; exact ⟨o, h1⟩
    obtain ⟨f1, f2⟩ := hfm l hex; obtain ⟨its, i1, i2, i3⟩ := runQT_its hr
    have hits : ∀ (k : Nat) (x : Nat) (c : Bool), l[k]? = some ((x, c) : Nat × Bool) → ∃ it o, its[k]? = some it ∧ ops[x]? = some o ∧ it.o = o ∧ (c = false → it.bl = []) ∧
        Q1T G P N (ops.map (·.dst)) c o (stM its (pre k) st).env (stM its (pre k) st).heap (fun v bl => v = it.v ∧ bl = it.bl) := fun k x c hk => by
      obtain ⟨o, h1, h2⟩ := f2 k x c hk; obtain ⟨it, h3, h4, h5, h6⟩ := i3 k c o h2; exact ⟨it, o, h3, h1, h4, h5, h6⟩
    have hlen : (planIdx (.q l :: r)).length = l.length + (planIdx r).length := by simp [planIdx, PSeg.idx]
    have hno : ∀ (l : List It) (s : St), stM l (fun _ => false) s = s := fun l => by
      induction l with
      | nil => intro s; rfl
      | cons y l ih => intro s; simp only [stM]; exact ih s
    have hidxlt : ∀ p ∈ l.map (·.1), p < ops.length := fun p hp => by
      obtain ⟨y, hy, rfl⟩ := List.mem_map.1 hp; obtain ⟨o, ho⟩ := hex y hy; exact (List.getElem?_eq_some_iff.1 ho).1
    refine segT_sound h0 (rest := (planIdx r).length) hT hD (fun x hx hxD => ?_) hp2 (fun x hx => ?_) (fun x hx => .inl fun z hz => plan_later hp3 x hx z (List.mem_append_right _ hz)) (i1.trans f1) hits
      (fun φ' Ss' a' w' listed' fuel' hs' hcl' hL' hR' hf' => planT_sound h0 hT hK r (D ++ l.map (·.1)) _ φ' Ss' a' w' listed' fuel' hp3 (fun p hp => ?_) hs' hcl' hL' hR' i2 hf')
      l.length (List.range l.length) (fun _ => false) φ Ss a w listed fuel (by simp) List.nodup_range (fun k hk => by simpa using hk) (fun k hk => by simp [hk]) hs hcl (fun i hi => (hL i hi).trans ⟨.inl, fun h => h.elim id fun ⟨_, _, _, h⟩ => by cases h⟩) (by rw [hno]; exact hR) (by omega)
    · have := List.all_eq_true.1 hp1 x hx
      simp [hxD] at this
    · rcases hcov x hx with h | h
      · exact .inl h
      · right; simpa [planIdx, PSeg.idx] using h
    · rcases List.mem_append.1 hp with h | h
      · exact hD p h
      · exact hidxlt p h
theorem ST.drawT {id : Nat} {l : List Oper} {Q : Exit → St → Prop} {st : St} (hm : P.follows .mixedOrders = true) (plan : List PSeg) (hp : drawOk l plan = true) (hn : (planIdx plan).length = l.length) (h : runDT G P N l (l.map (·.dst)) plan st (Q .normal)) :
    ST G.1 G.2 P N (.region id l.toArray true) Q st := fun w0 B0 φ Ss a w hR0 hT0 => by
  have hR := hR0.rebase
  have h0 : Tb0 G w ⟨Ss.flatten, B0.φ⟩ := ⟨hT0.here, hT0.own⟩
  refine wp_mono (Q := QR N w ⟨Ss.flatten, B0.φ⟩ Q) ?_ fun _ _ _ ⟨s, φ', Ss', h1, h2⟩ => ⟨s, φ', Ss', h1, hR0.unbase h2, h0.at h2⟩
  refine wp_region_any hm ?_; have hT : TOk l (ancT l (planIdx plan) []) := ancT_ok _ fun x z hz => by simp [lkT] at hz
  have hR' : Rel N w ⟨Ss.flatten, B0.φ⟩ φ Ss st a { w with drawn := w.drawn + 1 } := hR.drew _
  have hrep : ∀ i, (Array.replicate l.length false).getD i false = false := fun i => by
    by_cases hi : i < l.length
    · simp [hi]
    · simp [hi]
  refine planT_sound h0 hT (K := Q .normal) (fun _ h => h) plan [] st φ Ss a _ _ _ hp (fun p hp => by simp at hp) (by simp) (fun y o hy => ?_) (fun i hi => ?_) hR' h (by simp; omega)
  · rw [show l.toArray.size = l.length by simp, hrep] at hy; cases hy
  · rw [show l.toArray.size = l.length by simp, hrep]; simp
theorem ST.drawTK {id : Nat} {l : List Oper} {y : Code} {Q : Exit → St → Prop} {st : St} (hm : P.follows .mixedOrders = true) (plan : List PSeg) (hp : drawOk l plan = true) (hn : (planIdx plan).length = l.length)
    (h : ∀ K : St → Prop, (∀ st, ST G.1 G.2 P N y Q st → K st) → runDT G P N l (l.map (·.dst)) plan st K) : ST G.1 G.2 P N (.seq (.region id l.toArray true) y) Q st :=
  ST.seq (ST.drawT hm plan hp hn (h _ fun _ h => h))
end
section
variable {G : GT} {P : Program} {N : Sz} {ds : List (Option Tmp)} {l : List (Bool × Oper)} {K : St → Prop} {d : Option Tmp} {op : Op} {ty : TypeId} {pos : String} {af : Array Edge} {env : Env} {h : Heap} {j : Nat} {wt c : Bool} {st : St}
@[simp] theorem trq_nil : runQT G P N ds [] st K = K st := rfl
theorem trq_pure (hc : cls op = .pure) : runQT G P N ds ((false, ⟨d, op, ty, pos, af, none⟩) :: l) ⟨env, h⟩ K = (dOk N d = true ∧ (evP P h (ev env) op).1 ∧ runQT G P N ds l ⟨putE env d (evP P h (ev env) op).2, h⟩ K) := by
  simp [runQT, Q1T, gval, hc]
theorem trqa (hc : cls op = .alloc) : runQT G P N ds ((true, ⟨d, op, ty, pos, af, none⟩) :: l) ⟨env, h⟩ K = (dOk N d = true ∧ (evA P (ev env) op).ok ∧ runQT G P N ds l ⟨putE env d ((evA P (ev env) op).val h.length), h ++ [some (evA P (ev env) op).blk]⟩ K) := by
  simp [runQT, Q1T, gval, hc]
def CallQT (G : GT) (P : Program) (N : Sz) (ds : List (Option Tmp)) (l : List (Bool × Oper)) (d : Option Tmp) (env : Env) (h : Heap) (K : St → Prop) (fid : FuncId) (as : List AV) : Prop :=
  ∃ out, FnT G.1 G.2 P fid (as.map (viewN h 6)) out ∧ runQT G P N ds l ⟨putE env d (viewN [] 6 out), h⟩ K
theorem CallQT.fz {fid : FuncId} {as : List AV} {out : AV} (hf : FnT G.1 G.2 P fid (as.map (viewN h 6)) out) (k : runQT G P N ds l ⟨putE env d (viewN [] 6 out), h⟩ K) : CallQT G P N ds l d env h K fid as := ⟨out, hf, k⟩
@[simp] theorem trq_call {f : FuncId} {args : Array Operand} {ats : Array TypeId} : runQT G P N ds ((false, ⟨d, .call ⟨.value (.func f), args, ats⟩, ty, pos, af, none⟩) :: l) ⟨env, h⟩ K =
    (dOk N d = true ∧ allGk (ev env) args.toList ∧ CallQT G P N ds l d env h K f (args.toList.map fun x => st1 (ev env x))) := by
  simp [runQT, Q1T, gval, cls, clsC, calleeOf, calleeGk, ev, st1, gk, CallQT]
variable {ops : List Oper} {r : List PSeg}
@[simp] theorem trd_nil : runDT G P N ops ds [] st K = K st := rfl
@[simp] theorem trd_q {m : List (Nat × Bool)} : runDT G P N ops ds (.q m :: r) st K = runQT G P N ds (m.filterMap fun x => (ops[x.1]?).map fun o => (x.2, o)) st (fun s => runDT G P N ops ds r s K) := rfl
@[simp] theorem trd_b {i : Nat} : runDT G P N ops ds (.b i :: r) st K = (match ops[i]? with | some o => runA P N ds [o] st (fun s => runDT G P N ops ds r s K) | none => False) := by
  simp only [runDT]
@[simp] theorem trq_move {x : Operand} : runQT G P N ds ((false, ⟨d, .move x, ty, pos, af, none⟩) :: l) ⟨env, h⟩ K = (dOk N d = true ∧ (evP P h (ev env) (.move x)).1 ∧ runQT G P N ds l ⟨putE env d (evP P h (ev env) (.move x)).2, h⟩ K) := trq_pure rfl
@[simp] theorem trq_assign {x : Operand} : runQT G P N ds ((false, ⟨d, .assign x, ty, pos, af, none⟩) :: l) ⟨env, h⟩ K = (dOk N d = true ∧ (evP P h (ev env) (.assign x)).1 ∧ runQT G P N ds l ⟨putE env d (evP P h (ev env) (.assign x)).2, h⟩ K) := trq_pure rfl
@[simp] theorem trq_pick {c a b : Operand} : runQT G P N ds ((false, ⟨d, .pick c a b, ty, pos, af, none⟩) :: l) ⟨env, h⟩ K = (dOk N d = true ∧ (evP P h (ev env) (.pick c a b)).1 ∧ runQT G P N ds l ⟨putE env d (evP P h (ev env) (.pick c a b)).2, h⟩ K) := trq_pure rfl
@[simp] theorem trq_load {t : TypeId} {x : Operand} : runQT G P N ds ((false, ⟨d, .load t x, ty, pos, af, none⟩) :: l) ⟨env, h⟩ K = (dOk N d = true ∧ (evP P h (ev env) (.load t x)).1 ∧ runQT G P N ds l ⟨putE env d (evP P h (ev env) (.load t x)).2, h⟩ K) := trq_pure rfl
@[simp] theorem trq_fieldAddr {t : TypeId} {x : Operand} {f : Nat} : runQT G P N ds ((false, ⟨d, .fieldAddr t x f, ty, pos, af, none⟩) :: l) ⟨env, h⟩ K = (dOk N d = true ∧ (evP P h (ev env) (.fieldAddr t x f)).1 ∧ runQT G P N ds l ⟨putE env d (evP P h (ev env) (.fieldAddr t x f)).2, h⟩ K) := trq_pure rfl
@[simp] theorem trq_field {t : TypeId} {x : Operand} {f : Nat} : runQT G P N ds ((false, ⟨d, .field t x f, ty, pos, af, none⟩) :: l) ⟨env, h⟩ K = (dOk N d = true ∧ (evP P h (ev env) (.field t x f)).1 ∧ runQT G P N ds l ⟨putE env d (evP P h (ev env) (.field t x f)).2, h⟩ K) := trq_pure rfl
@[simp] theorem trq_indexAddr {t : TypeId} {x i : Operand} : runQT G P N ds ((false, ⟨d, .indexAddr t x i, ty, pos, af, none⟩) :: l) ⟨env, h⟩ K = (dOk N d = true ∧ (evP P h (ev env) (.indexAddr t x i)).1 ∧ runQT G P N ds l ⟨putE env d (evP P h (ev env) (.indexAddr t x i)).2, h⟩ K) := trq_pure rfl
@[simp] theorem trq_index {t : TypeId} {x i : Operand} : runQT G P N ds ((false, ⟨d, .index t x i, ty, pos, af, none⟩) :: l) ⟨env, h⟩ K = (dOk N d = true ∧ (evP P h (ev env) (.index t x i)).1 ∧ runQT G P N ds l ⟨putE env d (evP P h (ev env) (.index t x i)).2, h⟩ K) := trq_pure rfl
@[simp] theorem trq_slice {t : TypeId} {x : Operand} {lo hi : Option Operand} : runQT G P N ds ((false, ⟨d, .slice t x lo hi none, ty, pos, af, none⟩) :: l) ⟨env, h⟩ K = (dOk N d = true ∧ (evP P h (ev env) (.slice t x lo hi none)).1 ∧ runQT G P N ds l ⟨putE env d (evP P h (ev env) (.slice t x lo hi none)).2, h⟩ K) := trq_pure rfl
@[simp] theorem trq_extract {x : Operand} {i : Nat} : runQT G P N ds ((false, ⟨d, .extract x i, ty, pos, af, none⟩) :: l) ⟨env, h⟩ K = (dOk N d = true ∧ (evP P h (ev env) (.extract x i)).1 ∧ runQT G P N ds l ⟨putE env d (evP P h (ev env) (.extract x i)).2, h⟩ K) := trq_pure rfl
@[simp] theorem trq_binOp {op : BinOp} {t : TypeId} {x y : Operand} {yt : TypeId} : runQT G P N ds ((false, ⟨d, .binOp op t x y yt, ty, pos, af, none⟩) :: l) ⟨env, h⟩ K = (dOk N d = true ∧ (evP P h (ev env) (.binOp op t x y yt)).1 ∧ runQT G P N ds l ⟨putE env d (evP P h (ev env) (.binOp op t x y yt)).2, h⟩ K) := trq_pure rfl
@[simp] theorem trq_unOp {op : UnOp} {t : TypeId} {x : Operand} : runQT G P N ds ((false, ⟨d, .unOp op t x, ty, pos, af, none⟩) :: l) ⟨env, h⟩ K = (dOk N d = true ∧ (evP P h (ev env) (.unOp op t x)).1 ∧ runQT G P N ds l ⟨putE env d (evP P h (ev env) (.unOp op t x)).2, h⟩ K) := trq_pure rfl
@[simp] theorem trq_convert {s t : TypeId} {x : Operand} : runQT G P N ds ((false, ⟨d, .convert s t x, ty, pos, af, none⟩) :: l) ⟨env, h⟩ K = (dOk N d = true ∧ (evP P h (ev env) (.convert s t x)).1 ∧ runQT G P N ds l ⟨putE env d (evP P h (ev env) (.convert s t x)).2, h⟩ K) := trq_pure rfl
@[simp] theorem trq_nilCheck {x : Operand} : runQT G P N ds ((false, ⟨d, .nilCheck x, ty, pos, af, none⟩) :: l) ⟨env, h⟩ K = (dOk N d = true ∧ (evP P h (ev env) (.nilCheck x)).1 ∧ runQT G P N ds l ⟨putE env d (evP P h (ev env) (.nilCheck x)).2, h⟩ K) := trq_pure rfl
@[simp] theorem trq_build {t : TypeId} {ps : Array (Nat × Operand)} : runQT G P N ds ((false, ⟨d, .build t ps, ty, pos, af, none⟩) :: l) ⟨env, h⟩ K = (dOk N d = true ∧ (evP P h (ev env) (.build t ps)).1 ∧ runQT G P N ds l ⟨putE env d (evP P h (ev env) (.build t ps)).2, h⟩ K) := trq_pure rfl
@[simp] theorem trq_makeFunc {fn : Go.Fn} {fi ca : Array Operand} : runQT G P N ds ((false, ⟨d, .makeFunc fn fi ca, ty, pos, af, none⟩) :: l) ⟨env, h⟩ K = (dOk N d = true ∧ (evP P h (ev env) (.makeFunc fn fi ca)).1 ∧ runQT G P N ds l ⟨putE env d (evP P h (ev env) (.makeFunc fn fi ca)).2, h⟩ K) := trq_pure rfl
@[simp] theorem trq_len {x : Operand} {t : TypeId} : runQT G P N ds ((false, ⟨d, .call ⟨.builtin .len, #[x], #[t]⟩, ty, pos, af, none⟩) :: l) ⟨env, h⟩ K = (dOk N d = true ∧ (evP P h (ev env) (.call ⟨.builtin .len, #[x], #[t]⟩)).1 ∧ runQT G P N ds l ⟨putE env d (evP P h (ev env) (.call ⟨.builtin .len, #[x], #[t]⟩)).2, h⟩ K) := trq_pure rfl
@[simp] theorem trq_min {x y : Operand} {ts : Array TypeId} : runQT G P N ds ((false, ⟨d, .call ⟨.builtin .min, #[x, y], ts⟩, ty, pos, af, none⟩) :: l) ⟨env, h⟩ K = (dOk N d = true ∧ (evP P h (ev env) (.call ⟨.builtin .min, #[x, y], ts⟩)).1 ∧ runQT G P N ds l ⟨putE env d (evP P h (ev env) (.call ⟨.builtin .min, #[x, y], ts⟩)).2, h⟩ K) := trq_pure rfl
@[simp] theorem trq_max {x y : Operand} {ts : Array TypeId} : runQT G P N ds ((false, ⟨d, .call ⟨.builtin .max, #[x, y], ts⟩, ty, pos, af, none⟩) :: l) ⟨env, h⟩ K = (dOk N d = true ∧ (evP P h (ev env) (.call ⟨.builtin .max, #[x, y], ts⟩)).1 ∧ runQT G P N ds l ⟨putE env d (evP P h (ev env) (.call ⟨.builtin .max, #[x, y], ts⟩)).2, h⟩ K) := trq_pure rfl
@[simp] theorem trq_alloc {t : TypeId} : runQT G P N ds ((true, ⟨d, .alloc t, ty, pos, af, none⟩) :: l) ⟨env, h⟩ K = (dOk N d = true ∧ (evA P (ev env) (.alloc t)).ok ∧ runQT G P N ds l ⟨putE env d ((evA P (ev env) (.alloc t)).val h.length), h ++ [some (evA P (ev env) (.alloc t)).blk]⟩ K) := trqa rfl
@[simp] theorem trq_box {t : TypeId} {x : Operand} : runQT G P N ds ((true, ⟨d, .box t x, ty, pos, af, none⟩) :: l) ⟨env, h⟩ K = (dOk N d = true ∧ (evA P (ev env) (.box t x)).ok ∧ runQT G P N ds l ⟨putE env d ((evA P (ev env) (.box t x)).val h.length), h ++ [some (evA P (ev env) (.box t x)).blk]⟩ K) := trqa rfl
@[simp] theorem trq_buildSlice {t : TypeId} {n : Nat} {ps : Array (Nat × Operand)} : runQT G P N ds ((true, ⟨d, .buildSlice t n ps, ty, pos, af, none⟩) :: l) ⟨env, h⟩ K = (dOk N d = true ∧ (evA P (ev env) (.buildSlice t n ps)).ok ∧ runQT G P N ds l ⟨putE env d ((evA P (ev env) (.buildSlice t n ps)).val h.length), h ++ [some (evA P (ev env) (.buildSlice t n ps)).blk]⟩ K) := trqa rfl
@[simp] theorem trq_makeSlice {t : TypeId} {lo c : Operand} : runQT G P N ds ((true, ⟨d, .makeSlice t lo c, ty, pos, af, none⟩) :: l) ⟨env, h⟩ K = (dOk N d = true ∧ (evA P (ev env) (.makeSlice t lo c)).ok ∧ runQT G P N ds l ⟨putE env d ((evA P (ev env) (.makeSlice t lo c)).val h.length), h ++ [some (evA P (ev env) (.makeSlice t lo c)).blk]⟩ K) := trqa rfl
end
theorem CallT.fzE {g : Nat} {tb : Array Value} {P : Program} {f : FuncId} {as as' : List AV} {out : AV} {h : Heap} {Q : AV → Heap → Prop} (hf : FnT g tb P f as' out) (he : as.map (viewN h 6) = as') (k : Q (viewN [] 6 out) h) : CallT g tb P f as h Q :=
  (CallT.of_fnT (d := 6) (d' := 6) (by rw [he]; exact hf)).mono (by rintro o h' ⟨rfl, rfl⟩; exact k)
theorem CallQT.fzE {G : GT} {P : Program} {N : Sz} {ds : List (Option Tmp)} {l : List (Bool × Oper)} {K : St → Prop} {d : Option Tmp} {env : Env} {h : Heap} {fid : FuncId} {as as' : List AV} {out : AV} (hf : FnT G.1 G.2 P fid as' out) (he : as.map (viewN h 6) = as') (k : runQT G P N ds l ⟨putE env d (viewN [] 6 out), h⟩ K) : CallQT G P N ds l d env h K fid as := ⟨out, by rw [he]; exact hf, k⟩
section
variable {g : Nat} {tb : Array Value} {P : Program} {N : Sz} {ds : List (Option Tmp)} {l : List Oper} {K : St → Prop} {d : Option Tmp} {op : Op} {ty : TypeId} {pos : String} {af : Array Edge} {env : Env} {h : Heap} {st : St}
@[simp] theorem rt_nil : runT g tb P N ds [] st K = K st := rfl
theorem rt_pure (hc : cls op = .pure) : runT g tb P N ds (⟨d, op, ty, pos, af, none⟩ :: l) ⟨env, h⟩ K = (dOk N d = true ∧ (evP P h (ev env) op).1 ∧ runT g tb P N ds l ⟨putE env d (evP P h (ev env) op).2, h⟩ K) := by
  simp [runT, gval, hc]
@[simp] theorem rt_load {t : TypeId} {x : Operand} : runT g tb P N ds (⟨d, .load t x, ty, pos, af, none⟩ :: l) ⟨env, h⟩ K = (dOk N d = true ∧ (evP P h (ev env) (.load t x)).1 ∧ runT g tb P N ds l ⟨putE env d (evP P h (ev env) (.load t x)).2, h⟩ K) := rt_pure rfl
@[simp] theorem rt_assign {x : Operand} : runT g tb P N ds (⟨d, .assign x, ty, pos, af, none⟩ :: l) ⟨env, h⟩ K = (dOk N d = true ∧ (evP P h (ev env) (.assign x)).1 ∧ runT g tb P N ds l ⟨putE env d (evP P h (ev env) (.assign x)).2, h⟩ K) := rt_pure rfl
@[simp] theorem rt_call {f : FuncId} {args : Array Operand} {ats : Array TypeId} : runT g tb P N ds (⟨d, .call ⟨.value (.func f), args, ats⟩, ty, pos, af, none⟩ :: l) ⟨env, h⟩ K =
    (dOk N d = true ∧ allGk (ev env) args.toList ∧ CallT g tb P f (args.toList.map fun x => st1 (ev env x)) h (fun out h' => runT g tb P N ds l ⟨putE env d out, h'⟩ K)) := by
  simp [runT, gval, cls, clsC, calleeOf, calleeGk, ev, st1, gk]
end
end HK
