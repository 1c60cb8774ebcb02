/-
  My own text (road H): HK23.
-/
import Derived.Test.YtflanhfpjgcfbaaHK22
set_option linter.unusedSimpArgs false
set_option linter.unusedVariables false
namespace HK
open Go
/-- The block that an append to nothing makes. -/
def appBlk (P : Program) (h : Heap) (t : TypeId) (xa : AV) : Blk := match tzeroE P t with
  | some (sz, _, _) => ⟨sz, (elemsOf h sz (st1 xa)).getD []⟩
  | none => ⟨0, []⟩
theorem app_nil {P : Program} {h : Heap} {t xt : TypeId} {sa xa : AV} (hs : st1 sa = .nil) (ok : (evApp P h t xt sa xa).1) : (evApp P h t xt sa xa).2.1 = h ++ [some (appBlk P h t xa)] := by
  unfold evApp at ok ⊢
  unfold appBlk
  split at ok
  · rename_i sz by_ z ht hx
    split at ok
    · rename_i xs hxs
      simp only [hs, ht, hxs]
      rfl
    · exact ok.elim
  · exact ok.elim
/-- An operation that may be done in any order with its likes: read over the values and the heap ahead of it; c: it makes blocks. -/
def Q1 (P : Program) (N : Sz) (ds : List (Option Tmp)) (c : Bool) (o : Oper) (env : Env) (h : Heap) (J : AV → List Blk → Prop) : Prop := dOk N o.dst = true ∧ match gval ds env o.guard with
  | .free => match cls o.op with
    | .pure => c = false ∧ (evP P h (ev env) o.op).1 ∧ J (evP P h (ev env) o.op).2 []
    | .alloc => match c with
      | true => (evA P (ev env) o.op).ok ∧ J ((evA P (ev env) o.op).val h.length) [(evA P (ev env) o.op).blk]
      | false => match o.op with
        | .buildSlice t n ps => n = 0 ∧ ps = #[] ∧ (tel P t).isSome = true ∧ J .nil []
        | _ => False
    | .app => match c, o.op with
      | true, .call cl => match cl.args.toList, cl.argTypes.toList with
        | [s, x], [t, xt] => st1 (ev env s) = .nil ∧ (evApp P h t xt (ev env s) (ev env x)).1 ∧ J (evApp P h t xt (ev env s) (ev env x)).2.2 [appBlk P h t (ev env x)]
        | _, _ => False
      | _, _ => False
    | .call => match o.op with
      | .call cl => match calleeOf env cl with
        | some (fid, as) => calleeGk env cl ∧ ∃ out, Fn P fid (as.map (viewN h 6)) out ∧ (match c with | false => J (viewN [] 6 out) [] | true => okI out = true ∧ J (imp h.length out).1 (imp h.length out).2)
        | none => False
      | _ => False
    | _ => False
  | .on g => c = false ∧ match cls o.op with
    | .pure => (g = true → (evP P h (ev env) o.op).1) ∧ J (.cond g (evP P h (ev env) o.op).2) []
    | .call => match o.op with
      | .call cl => match calleeOf env cl with
        | some (fid, as) => ∃ out, (g = true → calleeGk env cl ∧ Fn P fid (as.map (viewN h 6)) out) ∧ J (.cond g (viewN [] 6 out)) []
        | none => False
      | _ => False
    | _ => False
  | .bad => False
section
variable {P : Program} {N : Sz} {w0 : World} {B0 : Cx} {φ : Refs} {Ss : List (List Nat)} {st : St} {a : Act} {w : World}
theorem eval_ag (h : Rel N w0 B0 φ Ss st a w) {env : Env} {x : Operand} (hx : ∀ t, x = .tmp t → lk st.env t = lk env t) : VR w (Own Ss) φ (ev env x) (a.eval x) [] := by
  have := act_eval h x
  cases x with
  | tmp t => simpa only [ev, hx t rfl] using this
  | const v => exact this
  | global g => exact this
  | func f => exact this
theorem call_run2 {env : Env} {o : Oper} {c : Call} (ho : o.op = .call c) (hE : ∀ x ∈ c.operands, VR w (Own Ss) φ (ev env x) (a.eval x) []) {fid : FuncId} {as : List AV} (hc : calleeOf env c = some (fid, as)) (hg : calleeGk env c) (he : Enter P fid) :
    ∃ vs : List Value, (execOp a.eval o).run P w = .ok (.enter fid vs.toArray) w ∧ CR w (Own Ss) φ as vs [] := by
  unfold calleeOf at hc
  unfold calleeGk at hg
  split at hc
  · rename_i f hcal
    split at hc
    · rename_i fid' first cap hf
      cases hc
      rw [hcal] at hg
      simp only at hg
      have hv := (hE f (by simp [Call.operands, hcal])).strip hg.1
      rw [hf] at hv
      generalize hx : a.eval f = x at hv
      cases hv with
      | fn _ _ _ fs cs k1 k2 =>
        have k3 := cr_map (w := w) (own := Own Ss) (φ := φ) (ρ := ev env) (r := a.eval) (l := c.args.toList) (fun y hy => hE y (by simp only [Call.operands, Array.mem_append]; right; simpa using hy)) hg.2
        refine ⟨fs ++ c.args.toList.map a.eval ++ cs, ?_, by simpa using (k1.app k3).app k2⟩
        obtain ⟨dst, op, ty, pos, after, guard⟩ := o
        simp only at ho
        subst ho
        obtain ⟨callee, args, ats⟩ := c
        simp only at hcal
        subst hcal
        have e : (fs.toArray ++ Array.map a.eval args ++ cs.toArray) = (fs ++ args.toList.map a.eval ++ cs).toArray := by
          apply Array.ext'; simp
        simp only [execOp, resolve, hx, Deferred.ofValue, Sem.run_bind, Sem.run_pure, Result.andThen_ok, invoke, e]
        exact callFunc_run he _
    · cases hc
  · cases hc
theorem HR.pre {h l : Heap} (hh : HR w (Own Ss) φ (h ++ l) Ss) : HR w (Own Ss) φ h Ss := fun id b hb => hh id b (by
  have := (List.getElem?_eq_some_iff.1 hb).1
  rw [List.getElem?_append_left this]; exact hb)
/-- A function called over a heap of which more is known than is asked. -/
theorem fn_run {φ : Refs} {Ss : List (List Nat)} {h H : Heap} {f : FuncId} {as : List AV} {out : AV} {d d' : Nat} {vs : List Value} (hp : HP φ Ss H w) (hh : HR w (Own Ss) φ h Ss) (hf : Fn P f (as.map (viewN h d)) out) (hc : CR w (Own Ss) φ as vs []) :
    Calls P f vs.toArray w fun e w' => ∃ v φ' Ss', e = .returned v ∧ HP φ' Ss' H w' ∧ VR w' (Own Ss') φ' (viewN [] d' out) v [] ∧ (∀ id r, φ id = some r → φ' id = some r) ∧ (∀ b, Own Ss' b → Own Ss b ∨ w.heap.size ≤ b) ∧ Fr w Ss.flatten w' := by
  have hv : CR w (fun _ => False) nof (as.map (viewN h d)) vs [] :=
    cr_map_view (own := Own Ss) (own2 := fun _ => False) (φ := φ) (fun v x F k _ => view_sound (own := Own Ss) (φ0 := φ) (Ss := Ss) (fun _ hb => hb.elim) hh (fun _ _ _ _ _ _ hb => hb) d v x F (fun _ _ e => e) k (fun _ _ hb => hb)) hc (fun _ _ hb => hb)
  refine (hf.2 w vs hv).mono fun e w' ⟨v, S, e1, e2, e3, e4, e5⟩ => ?_
  have hfz : ∀ b, b < w.heap.size → ¬ Own Ss b → ¬ Own Ss b ∧ w'.heap[b]? = w.heap[b]? := fun b hb ho => ⟨ho, e5.block b hb (by simp)⟩
  refine ⟨v, φ, Ss, e1, ⟨?_, hp.len, hp.fresh, hp.nodup, fun b hb => Nat.lt_of_lt_of_le (hp.bound b hb) e5.size⟩, ?_, fun _ _ e => e, fun b hb => .inl hb, ⟨e5.os, e5.tape, e5.output, e5.size, fun b hb _ => e5.block b hb (by simp)⟩⟩
  · intro id b hid
    obtain ⟨S', q1, q2⟩ := hp.heap id b hid
    exact ⟨S', q1, q2.tr hfz e5.size (fun _ _ e => e) (fun x hx => e5.block x (hp.bound x (List.mem_flatten.2 ⟨S', List.mem_of_getElem? q1, hx⟩)) (by simp))⟩
  · have := view_sound (w := w') (own := fun _ => True) (own2 := Own Ss) (φ0 := nof) (h := []) (Ss := []) (fun _ _ => trivial) (fun id b hid => by simp at hid) (fun id S ⟨b, hb⟩ => by simp at hb) d' out v S (fun _ _ e => e) e2 (fun b hb ho => by
      have := (e4 b hb).1; have := hp.bound b ho; omega)
    exact this.up

theorem q1_sound {ops : Array Oper} {Q : Exit → Act → World → Prop} {K' : Act → World → Prop} {i : Nat} {o : Oper} (hi : ops[i]? = some o) {env : Env} {h : Heap} {c : Bool} {J : AV → List Blk → Prop}
    (hq : Q1 P N (ops.toList.map (·.dst)) c o env h J) (hag : ∀ t ∈ o.looksAt ops, lk st.env t = lk env t) {l : Heap} (hpre : st.heap = h ++ l) (hc : c = true → l = [])
    (hK : ∀ v bl φ' Ss' a' w', (c = false → bl = []) → J v bl → Rel N w0 B0 φ' Ss' ⟨putE st.env o.dst v, st.heap ++ bl.map some⟩ a' w' → K' a' w') (hR : Rel N w0 B0 φ Ss st a w) : wpOp P ops Q i K' a w := by
  have hE : ∀ x ∈ o.op.operands, VR w (Own Ss) φ (ev env x) (a.eval x) [] := fun x hx => eval_ag hR fun t ht => hag t (by
    subst ht
    exact List.mem_append_left _ (List.mem_filterMap.2 ⟨.tmp t, by simpa using hx, rfl⟩))
  have hE' : ∀ x ∈ o.op.operands.toList, VR w (Own Ss) φ (ev env x) (a.eval x) [] := fun x hx => hE x (by simpa using hx)
  have hg : gval (ops.toList.map (·.dst)) env o.guard = gval (ops.toList.map (·.dst)) st.env o.guard := by
    unfold gval
    split
    · rfl
    · rename_i j want hgu
      split
      · rename_i t ht
        have : lk st.env t = lk env t := hag t (by
          refine List.mem_append_right _ ?_
          rw [hgu]
          rw [List.getElem?_map, Array.getElem?_toList] at ht
          cases hj : ops[j]? with
          | none => rw [hj] at ht; cases ht
          | some o' => rw [hj] at ht; simp at ht; simp [hj, ht])
        rw [this]
      · rfl
  have hh : HR w (Own Ss) φ h Ss := HR.pre (l := l) (by rw [← hpre]; exact hR.heap)
  unfold wpOp
  rw [hi]
  simp only
  unfold Q1 at hq
  obtain ⟨hd, hq⟩ := hq
  rw [hg] at hq
  have done : ∀ {v : AV} {x : Value} {φ' : Refs} {Ss' : List (List Nat)} {w' : World}, J v [] → Rel N w0 B0 φ' Ss' st a w' → VR w' (Own Ss') φ' v x [] → K' (a.put o.dst x) w' := fun {v x φ' Ss' w'} hJ hR hv =>
    hK v [] φ' Ss' _ w' (fun _ => rfl) hJ (by simpa using hR.put hd hv)
  cases hgv : gval (ops.toList.map (·.dst)) st.env o.guard with
  | bad => rw [hgv] at hq; exact hq.elim
  | free =>
    rw [hgv] at hq
    simp only at hq
    rw [if_pos (gval_free hgv)]
    left
    unfold Oper.wp
    cases hcl : cls o.op with
    | bad => rw [hcl] at hq; exact hq.elim
    | store => rw [hcl] at hq; exact hq.elim
    | clr => rw [hcl] at hq; exact hq.elim
    | app =>
      rw [hcl] at hq
      simp only at hq
      split at hq
      · rename_i cl hop
        split at hq
        · rename_i s x t xt ha ht
          have hl := hc rfl
          subst hl
          rw [List.append_nil] at hpre
          obtain ⟨hs, hok, hq⟩ := hq
          have hEs : ∀ y ∈ [s, x], VR w (Own Ss) φ (ev env y) (a.eval y) [] := fun y hy => hE y (by
            rw [hop]
            simp only [Op.operands, Call.operands, Array.mem_append]
            exact .inr (by rw [← ha] at hy; simpa using hy))
          have hq' := app_nil hs hok
          rw [← hpre] at hok hq hq'
          obtain ⟨y, w', φ', Ss', hrun, hR', hv⟩ := app_sound (P := P) (ty := o.type) hR (hEs s (by simp)) (hEs x (by simp)) hok
          have : (execOp a.eval o).run P w = .ok (.value y) w' := by
            have hcc : cl.callee = .builtin .append := by
              rw [hop] at hcl
              obtain ⟨callee, args, ats⟩ := cl
              unfold cls clsC at hcl
              cases callee with
              | value _ => cases hcl
              | invoke _ _ => cases hcl
              | builtin b => cases b <;> first | rfl | (simp at hcl)
            obtain ⟨callee, args, ats⟩ := cl
            simp only at ha ht hcc
            subst hcc
            have ea : args = #[s, x] := by rw [← Array.toArray_toList (xs := args), ha]
            have et : ats = #[t, xt] := by rw [← Array.toArray_toList (xs := ats), ht]
            subst ea; subst et
            unfold execOp; rw [hop]
            simp [resolve, invoke, builtin, hrun]
          rw [this]
          have hz := hR'.put hd hv
          rw [hq'] at hz
          exact hK _ [appBlk P st.heap t (ev env x)] φ' Ss' _ w' (fun e => by cases e) hq (by simpa using hz)
        · exact hq.elim
      · exact hq.elim
    | pure =>
      rw [hcl] at hq
      simp only at hq
      obtain ⟨y, hy, hv⟩ := evP_sound (P := P) hh hE' hq.2.1
      rw [hy]
      exact done hq.2.2 hR hv
    | alloc =>
      rw [hcl] at hq
      simp only at hq
      cases c with
      | true =>
        simp only at hq
        obtain ⟨y, w', hy, hm⟩ := evA_sound (P := P) (own := Own Ss) (φ := φ) (w := w) (o := o) hE' hq.1
        obtain ⟨φ', Ss', hR', hv⟩ := hR.made hm
        rw [hy]
        have hl := hc rfl
        subst hl
        rw [List.append_nil] at hpre
        have hq3 := hq.2
        rw [← hpre] at hq3
        exact hK _ _ _ _ _ _ (fun e => by cases e) hq3 (by simpa using hR'.put hd hv)
      | false =>
        simp only at hq
        split at hq
        · rename_i t n ps hop
          obtain ⟨rfl, rfl, hq⟩ := hq
          obtain ⟨tt, htt⟩ := Option.isSome_iff_exists.1 hq.1
          obtain ⟨e, i, hu, hi, _⟩ := tel_spec (sz := tt.1) (bytes := tt.2) htt
          have hrun : (execOp a.eval o).run P w = .ok (.value (.slice (some ⟨w.heap.size, 0, none⟩) 0 0)) { w with heap := w.heap.push (.cells #[] e) } := by
            unfold execOp
            rw [hop]
            have e0 : (Array.map (fun _ : Nat => (default : Value)) (Array.range 0)) = #[] := by apply Array.ext <;> simp
            simp [Instr.buildSlice, run_underlying hu, run_sizeI hi, Instr.fill, run_newRow]
            try rw [e0]
          rw [hrun]
          have hfz : ∀ b, b < w.heap.size → ¬ Own Ss b → ¬ Own Ss b ∧ (w.heap.push (.cells #[] e))[b]? = w.heap[b]? := fun b hb ho => ⟨ho, by
            rw [Array.getElem?_push, if_neg (by omega)]⟩
          refine done (φ' := φ) (Ss' := Ss) hq.2 (hR.call (w' := { w with heap := w.heap.push (.cells #[] e) }) (φ' := φ) (Ss' := Ss) ⟨?_, hR.len, hR.fresh, hR.nodup, fun b hb => ?_⟩ (fun _ _ h => h) (fun b hb => .inl hb) ⟨rfl, rfl, rfl, by simp, fun b hb _ => by simp only []; rw [Array.getElem?_push, if_neg (by omega)]⟩) (.nil _)
          · intro id b hid
            obtain ⟨S', q1, q2⟩ := hR.heap id b hid
            exact ⟨S', q1, q2.tr (w' := { w with heap := w.heap.push (.cells #[] e) }) hfz (by simp) (fun _ _ h => h) (fun x hx => by
              have := (hR.bound x (List.mem_flatten.2 ⟨S', List.mem_of_getElem? q1, hx⟩)).1
              simp only []
              rw [Array.getElem?_push, if_neg (by omega)])⟩
          · have := (hR.bound b hb).1
            simp only [Array.size_push]; omega
        · exact hq.elim
    | call =>
      rw [hcl] at hq
      simp only at hq
      split at hq
      · rename_i cl hop
        split at hq
        · rename_i fid as hcal
          obtain ⟨hgk, out, hf, hq⟩ := hq
          obtain ⟨vs, hrun, hcr⟩ := call_run2 hop (by rw [hop] at hE; exact hE) hcal hgk hf.1
          rw [hrun]
          cases c with
          | false =>
            refine (fn_run (d' := 6) hR.hp hh hf hcr).mono fun e w' ⟨v, φ', Ss', e1, e3, e4, e5, e6, e7⟩ => ?_
            subst e1
            exact done hq (hR.call e3 e5 e6 e7) e4
          | true =>
            have hl := hc rfl
            subst hl
            rw [List.append_nil] at hpre
            rw [← hpre] at hf hq
            refine ((CallS.of_fn hf hq.1).2 φ Ss w vs hR.hp hcr).mono fun e w' ⟨v, out', h', φ', Ss', e1, e2, e3, e4, e5, e6, e7⟩ => ?_
            obtain ⟨rfl, rfl⟩ := e2
            subst e1
            exact hK _ _ _ _ _ _ (fun e => by cases e) hq.2 ((hR.call e3 e5 e6 e7).put hd e4)
        · exact hq.elim
      · exact hq.elim
  | on g =>
    rw [hgv] at hq
    simp only at hq
    obtain ⟨hcf, hq⟩ := hq
    have hw := gval_on hR hgv
    rw [hw]
    cases hcl : cls o.op with
    | bad => rw [hcl] at hq; exact hq.elim
    | alloc => rw [hcl] at hq; exact hq.elim
    | store => rw [hcl] at hq; exact hq.elim
    | app => rw [hcl] at hq; exact hq.elim
    | clr => rw [hcl] at hq; exact hq.elim
    | pure =>
      rw [hcl] at hq
      simp only at hq
      cases g with
      | true =>
        rw [if_pos rfl]
        left
        obtain ⟨y, hy, hv⟩ := evP_sound (P := P) hh hE' (hq.1 rfl)
        unfold Oper.wp
        rw [hy]
        exact done hq.2 hR (.condT _ _ _ hv)
      | false =>
        rw [if_neg (by simp)]
        exact done hq.2 hR (.condF _)
    | call =>
      rw [hcl] at hq
      simp only at hq
      split at hq
      · rename_i cl hop
        split at hq
        · rename_i fid as hcal
          obtain ⟨out, hq1, hq2⟩ := hq
          cases g with
          | true =>
            rw [if_pos rfl]
            left
            obtain ⟨hgk, hf⟩ := hq1 rfl
            obtain ⟨vs, hrun, hcr⟩ := call_run2 hop (by rw [hop] at hE; exact hE) hcal hgk hf.1
            unfold Oper.wp
            rw [hrun]
            refine (fn_run (d' := 6) hR.hp hh hf hcr).mono fun e w' ⟨v, φ', Ss', e1, e3, e4, e5, e6, e7⟩ => ?_
            subst e1
            exact done hq2 (hR.call e3 e5 e6 e7) (.condT _ _ _ e4)
          | false =>
            rw [if_neg (by simp)]
            exact done hq2 hR (.condF _)
        · exact hq.elim
      · exact hq.elim
end
end HK
