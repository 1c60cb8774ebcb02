import Derived.Test.YtdhoappjadnhcaaGreatG1
/-
  My own texts (road H): HK22 HK23 HK24 HK25 HK26.
-/
set_option maxHeartbeats 8000000
namespace HK
open Go
section
variable {P : Program} {N : Sz} {w0 : World} {B0 : Cx} {φ : Refs} {Ss : List (List Nat)} {st : St} {a : Act} {w : World}
theorem stepA_sound {ops : Array Oper} {Q : Exit → Act → World → Prop} {J : St → Prop} {K' : Act → World → Prop} {i : Nat} {o : Oper} (hi : ops[i]? = some o)
    (hK : ∀ st' φ' Ss' a' w', J st' → Rel N w0 B0 φ' Ss' st' a' w' → K' a' w') (h : Rel N w0 B0 φ Ss st a w) (hr : runA P N (ops.toList.map (·.dst)) [o] st J) : wpOp P ops Q i K' a w := by
    unfold wpOp; rw [hi]; simp only; simp only [runA] at hr; obtain ⟨hd, hr⟩ := hr
    cases hgv : gval (ops.toList.map (·.dst)) st.env o.guard with
    | bad => rw [hgv] at hr; exact hr.elim
    | free =>
      rw [hgv] at hr; simp only at hr; rw [if_pos (gval_free hgv)]
      left
      unfold Oper.wp
      cases hcl : cls o.op with
      | bad => rw [hcl] at hr; exact hr.elim
      | pure =>
        rw [hcl] at hr; simp only at hr; obtain ⟨y, hy, hv⟩ := pure_upon h hr.1; rw [hy]
        exact hK _ _ _ _ _ hr.2 (h.put hd hv)
      | alloc =>
        rw [hcl] at hr; simp only at hr; obtain ⟨y, w', hy, hm⟩ := evA_sound (own := Own Ss) (φ := φ) (w := w) (o := o) (fun x _ => act_eval h x) hr.1; obtain ⟨φ', Ss', hR, hv⟩ := h.made hm; rw [hy]
        exact hK _ _ _ _ _ hr.2 (hR.put hd hv)
      | store =>
        rw [hcl] at hr; simp only at hr; split at hr
        · rename_i t pa va hop
          obtain ⟨w', Ss', hrun, hR⟩ := store_sound (P := P) h (act_eval h pa) (act_eval h va) hr.1
          have : (execOp a.eval o).run P w = .ok .skip w' := by
            unfold execOp; rw [hop]; simp only [Sem.run_bind, hrun, Result.andThen_ok, Sem.run_pure]
          rw [this]; exact hK _ _ _ _ _ hr.2 (hR.put hd (.undef _))
        · exact hr.elim
      | app =>
        rw [hcl] at hr; simp only at hr; split at hr
        · rename_i c hop
          split at hr
          · rename_i s x t xt ha ht
            obtain ⟨y, w', φ', Ss', hrun, hR, hv⟩ := app_sound (P := P) (ty := o.type) h (act_eval h s) (act_eval h x) hr.1
            have : (execOp a.eval o).run P w = .ok (.value y) w' := by
              have hcc : c.callee = .builtin .append := by
                rw [hop] at hcl; obtain ⟨callee, args, ats⟩ := c; unfold cls clsC at hcl
                cases callee with
                | value _ => cases hcl
                | invoke _ _ => cases hcl
                | builtin b => cases b <;> first | rfl | (simp at hcl)
              obtain ⟨callee, args, ats⟩ := c; simp only at ha ht hcc; subst hcc; have ea : args = #[s, x] := by rw [← Array.toArray_toList (xs := args), ha]
              have et : ats = #[t, xt] := by rw [← Array.toArray_toList (xs := ats), ht]
              subst ea; subst et; unfold execOp; rw [hop]; simp [resolve, invoke, builtin, hrun]
            rw [this]; exact hK _ _ _ _ _ hr.2 (hR.put hd hv)
          · exact hr.elim
        · exact hr.elim
      | clr =>
        rw [hcl] at hr; simp only at hr; split at hr
        · rename_i c hop
          split at hr
          · rename_i x t ha ht
            obtain ⟨w', Ss', hrun, hR⟩ := clr_sound (P := P) (ty := o.type) h (act_eval h x) hr.1
            have : (execOp a.eval o).run P w = .ok (.value (.tuple #[])) w' := by
              have hcc : c.callee = .builtin .clear := by
                rw [hop] at hcl; obtain ⟨callee, args, ats⟩ := c; unfold cls clsC at hcl
                cases callee with
                | value _ => cases hcl
                | invoke _ _ => cases hcl
                | builtin b => cases b <;> first | rfl | (simp at hcl)
              obtain ⟨callee, args, ats⟩ := c; simp only at ha ht hcc; subst hcc; have ea : args = #[x] := by rw [← Array.toArray_toList (xs := args), ha]
              have et : ats = #[t] := by rw [← Array.toArray_toList (xs := ats), ht]
              subst ea; subst et; unfold execOp; rw [hop]; simp [resolve, invoke, builtin, hrun]
            rw [this]; exact hK _ _ _ _ _ hr.2 (hR.put hd (.undef _))
          · exact hr.elim
        · exact hr.elim
      | call =>
        rw [hcl] at hr; simp only at hr; split at hr
        · rename_i c hop
          split at hr
          · rename_i fid as hc
            obtain ⟨vs, hrun, hcr⟩ := call_run h hop hc hr.1 hr.2.1; rw [hrun]; refine (hr.2.2 φ Ss w vs h.hp hcr).mono fun e w' ⟨v, out, h', φ', Ss', e1, e2, e3, e4, e5, e6, e7⟩ => ?_; subst e1
            exact hK _ _ _ _ _ e2 ((h.call e3 e5 e6 e7).put hd e4)
          · exact hr.elim
        · exact hr.elim
    | on g =>
      rw [hgv] at hr; simp only at hr; have hw := gval_on h hgv
      rw [hw]
      cases hcl : cls o.op with
      | bad => rw [hcl] at hr; exact hr.elim
      | alloc => rw [hcl] at hr; exact hr.elim
      | store => rw [hcl] at hr; exact hr.elim
      | app => rw [hcl] at hr; exact hr.elim
      | clr => rw [hcl] at hr; exact hr.elim
      | pure =>
        rw [hcl] at hr; simp only at hr
        cases g with
        | true =>
          rw [if_pos rfl]
          left
          obtain ⟨y, hy, hv⟩ := pure_upon h (hr.1 rfl); unfold Oper.wp; rw [hy]
          exact hK _ _ _ _ _ hr.2 (h.put hd (.condT _ _ _ hv))
        | false =>
          rw [if_neg (by simp)]
          exact hK _ _ _ _ _ hr.2 (h.put hd (.condF _))
      | call =>
        rw [hcl] at hr; simp only at hr; split at hr
        · rename_i c hop
          split at hr
          · rename_i fid as hc
            obtain ⟨out, hr1, hr2⟩ := hr
            cases g with
            | true =>
              rw [if_pos rfl]
              left
              obtain ⟨hg, hcs⟩ := hr1 rfl; obtain ⟨vs, hrun, hcr⟩ := call_run h hop hc hg hcs.1; unfold Oper.wp; rw [hrun]; refine (hcs.2 φ Ss w vs h.hp hcr).mono fun e w' ⟨v, out', h', φ', Ss', e1, e2, e3, e4, e5, e6, e7⟩ => ?_
              obtain ⟨rfl, rfl⟩ := e2; subst e1
              exact hK _ _ _ _ _ hr2 ((h.call e3 e5 e6 e7).put hd (.condT _ _ _ e4))
            | false =>
              rw [if_neg (by simp)]; exact hK _ _ _ _ _ hr2 (h.put hd (.condF _))
          · exact hr.elim
        · exact hr.elim
end
end HK
set_option linter.unusedSimpArgs false
set_option linter.unusedVariables false
namespace HK
open Go
def appBlk (P : Program) (h : Heap) (t : TypeId) (xa : AV) : Blk := match tzeroE P t with
  | some (sz, _, _) => ⟨sz, (elemsOf h sz (st1 xa)).getD []⟩
  | none => ⟨0, []⟩
theorem app_nil {P : Program} {h : Heap} {t xt : TypeId} {sa xa : AV} (hs : st1 sa = .nil) (ok : (evApp P h t xt sa xa).1) : (evApp P h t xt sa xa).2.1 = h ++ [some (appBlk P h t xa)] := by
  unfold evApp at ok ⊢; unfold appBlk; split at ok
  · rename_i sz by_ z ht hx
    split at ok
    · rename_i xs hxs
      simp only [hs, ht, hxs]; rfl
    · exact ok.elim
  · exact ok.elim
def Q1 (P : Program) (N : Sz) (ds : List (Option Tmp)) (c : Bool) (o : Oper) (env : Env) (h : Heap) (J : AV → List Blk → Prop) : Prop := dOk N o.dst = true ∧ match gval ds env o.guard with
  | .free => match cls o.op with
    | .pure => c = false ∧ (evP P h (ev env) o.op).1 ∧ J (evP P h (ev env) o.op).2 []
    | .alloc => match c with
      | true => (evA P (ev env) o.op).ok ∧ J ((evA P (ev env) o.op).val h.length) [(evA P (ev env) o.op).blk]
      | false => match o.op with
        | .buildSlice t n ps => n = 0 ∧ ps = #[] ∧ (tel P t).isSome = true ∧ J .nil []
        | _ => False
    | .app => match c, o.op with
      | true, .call cl => match cl.args.toList, cl.argTypes.toList with
        | [s, x], [t, xt] => st1 (ev env s) = .nil ∧ (evApp P h t xt (ev env s) (ev env x)).1 ∧ J (evApp P h t xt (ev env s) (ev env x)).2.2 [appBlk P h t (ev env x)]
        | _, _ => False
      | _, _ => False
    | .call => match o.op with
      | .call cl => match calleeOf env cl with
        | some (fid, as) => calleeGk env cl ∧ ∃ out, Fn P fid (as.map (viewN h 6)) out ∧ (match c with | false => J (viewN [] 6 out) [] | true => okI out = true ∧ J (imp h.length out).1 (imp h.length out).2)
        | none => False
      | _ => False
    | _ => False
  | .on g => c = false ∧ match cls o.op with
    | .pure => (g = true → (evP P h (ev env) o.op).1) ∧ J (.cond g (evP P h (ev env) o.op).2) []
    | .call => match o.op with
      | .call cl => match calleeOf env cl with
        | some (fid, as) => ∃ out, (g = true → calleeGk env cl ∧ Fn P fid (as.map (viewN h 6)) out) ∧ J (.cond g (viewN [] 6 out)) []
        | none => False
      | _ => False
    | _ => False
  | .bad => False
section
variable {P : Program} {N : Sz} {w0 : World} {B0 : Cx} {φ : Refs} {Ss : List (List Nat)} {st : St} {a : Act} {w : World}
theorem eval_ag (h : Rel N w0 B0 φ Ss st a w) {env : Env} {x : Operand} (hx : ∀ t, x = .tmp t → lk st.env t = lk env t) : VR w (Own Ss) φ (ev env x) (a.eval x) [] := by
  have := act_eval h x
  cases x with
  | tmp t => simpa only [ev, hx t rfl] using this
  | const v => exact this
  | global g => exact this
  | func f => exact this
theorem call_run2 {env : Env} {o : Oper} {c : Call} (ho : o.op = .call c) (hE : ∀ x ∈ c.operands, VR w (Own Ss) φ (ev env x) (a.eval x) []) {fid : FuncId} {as : List AV} (hc : calleeOf env c = some (fid, as)) (hg : calleeGk env c) (he : Enter P fid) :
    ∃ vs : List Value, (execOp a.eval o).run P w = .ok (.enter fid vs.toArray) w ∧ CR w (Own Ss) φ as vs [] := by
  unfold calleeOf at hc; unfold calleeGk at hg; split at hc
  · rename_i f hcal
    split at hc
    · rename_i fid' first cap hf
      cases hc
      rw [hcal] at hg; simp only at hg; have hv := (hE f (by simp [Call.operands, hcal])).strip hg.1
      rw [hf] at hv
      generalize hx : a.eval f = x at hv
      cases hv with
      | fn _ _ _ fs cs k1 k2 =>
        have k3 := cr_map (w := w) (own := Own Ss) (φ := φ) (ρ := ev env) (r := a.eval) (l := c.args.toList) (fun y hy => hE y (by simp only [Call.operands, Array.mem_append]; right; simpa using hy)) hg.2
        refine ⟨fs ++ c.args.toList.map a.eval ++ cs, ?_, by simpa using (k1.app k3).app k2⟩; obtain ⟨dst, op, ty, pos, after, guard⟩ := o; simp only at ho; subst ho; obtain ⟨callee, args, ats⟩ := c; simp only at hcal; subst hcal
        have e : (fs.toArray ++ Array.map a.eval args ++ cs.toArray) = (fs ++ args.toList.map a.eval ++ cs).toArray := by
          apply Array.ext'; simp
        simp only [execOp, resolve, hx, Deferred.ofValue, Sem.run_bind, Sem.run_pure, Result.andThen_ok, invoke, e]; exact callFunc_run he _
    · cases hc
  · cases hc
theorem HR.pre {h l : Heap} (hh : HR w (Own Ss) φ (h ++ l) Ss) : HR w (Own Ss) φ h Ss := fun id b hb => hh id b (by
  have := (List.getElem?_eq_some_iff.1 hb).1
  rw [List.getElem?_append_left this]; exact hb)
theorem fn_run {φ : Refs} {Ss : List (List Nat)} {h H : Heap} {f : FuncId} {as : List AV} {out : AV} {d d' : Nat} {vs : List Value} (hp : HP φ Ss H w) (hh : HR w (Own Ss) φ h Ss) (hf : Fn P f (as.map (viewN h d)) out) (hc : CR w (Own Ss) φ as vs []) :
    Calls P f vs.toArray w fun e w' => ∃ v φ' Ss', e = .returned v ∧ HP φ' Ss' H w' ∧ VR w' (Own Ss') φ' (viewN [] d' out) v [] ∧ (∀ id r, φ id = some r → φ' id = some r) ∧ (∀ b, Own Ss' b → Own Ss b ∨ w.heap.size ≤ b) ∧ Fr w Ss.flatten w' := by
  have hv : CR w (fun _ => False) nof (as.map (viewN h d)) vs [] :=
    cr_map_view (own := Own Ss) (own2 := fun _ => False) (φ := φ) (fun v x F k _ => view_sound (own := Own Ss) (φ0 := φ) (Ss := Ss) (fun _ hb => hb.elim) hh (fun _ _ _ _ _ _ hb => hb) d v x F (fun _ _ e => e) k (fun _ _ hb => hb)) hc (fun _ _ hb => hb)
  refine (hf.2 w vs hv).mono fun e w' ⟨v, S, e1, e2, e3, e4, e5⟩ => ?_; have hfz : ∀ b, b < w.heap.size → ¬ Own Ss b → ¬ Own Ss b ∧ w'.heap[b]? = w.heap[b]? := fun b hb ho => ⟨ho, e5.block b hb (by simp)⟩
  refine ⟨v, φ, Ss, e1, ⟨?_, hp.len, hp.fresh, hp.nodup, fun b hb => Nat.lt_of_lt_of_le (hp.bound b hb) e5.size⟩, ?_, fun _ _ e => e, fun b hb => .inl hb, ⟨e5.os, e5.tape, e5.output, e5.size, fun b hb _ => e5.block b hb (by simp)⟩⟩
  · intro id b hid
    obtain ⟨S', q1, q2⟩ := hp.heap id b hid; exact ⟨S', q1, q2.tr hfz e5.size (fun _ _ e => e) (fun x hx => e5.block x (hp.bound x (List.mem_flatten.2 ⟨S', List.mem_of_getElem? q1, hx⟩)) (by simp))⟩
  · have := view_sound (w := w') (own := fun _ => True) (own2 := Own Ss) (φ0 := nof) (h := []) (Ss := []) (fun _ _ => trivial) (fun id b hid => by simp at hid) (fun id S ⟨b, hb⟩ => by simp at hb) d' out v S (fun _ _ e => e) e2 (fun b hb ho => by
      have := (e4 b hb).1; have := hp.bound b ho; omega)
    exact this.up
theorem q1_sound {ops : Array Oper} {Q : Exit → Act → World → Prop} {K' : Act → World → Prop} {i : Nat} {o : Oper} (hi : ops[i]? = some o) {env : Env} {h : Heap} {c : Bool} {J : AV → List Blk → Prop}
    (hq : Q1 P N (ops.toList.map (·.dst)) c o env h J) (hag : ∀ t ∈ o.looksAt ops, lk st.env t = lk env t) {l : Heap} (hpre : st.heap = h ++ l) (hc : c = true → l = [])
    (hK : ∀ v bl φ' Ss' a' w', (c = false → bl = []) → J v bl → Rel N w0 B0 φ' Ss' ⟨putE st.env o.dst v, st.heap ++ bl.map some⟩ a' w' → K' a' w') (hR : Rel N w0 B0 φ Ss st a w) : wpOp P ops Q i K' a w := by
  have hE : ∀ x ∈ o.op.operands, VR w (Own Ss) φ (ev env x) (a.eval x) [] := fun x hx => eval_ag hR fun t ht => hag t (by
    subst ht
    exact List.mem_append_left _ (List.mem_filterMap.2 ⟨.tmp t, by simpa using hx, rfl⟩))
  have hE' : ∀ x ∈ o.op.operands.toList, VR w (Own Ss) φ (ev env x) (a.eval x) [] := fun x hx => hE x (by simpa using hx)
  have hg : gval (ops.toList.map (·.dst)) env o.guard = gval (ops.toList.map (·.dst)) st.env o.guard := by
    unfold gval; split
    · rfl
    · rename_i j want hgu
      split
      · rename_i t ht
        have : lk st.env t = lk env t := hag t (by
          refine List.mem_append_right _ ?_; rw [hgu]; rw [List.getElem?_map, Array.getElem?_toList] at ht
          cases hj : ops[j]? with
          | none => rw [hj] at ht; cases ht
          | some o' => rw [hj] at ht; simp at ht; simp [hj, ht])
        rw [this]
      · rfl
  have hh : HR w (Own Ss) φ h Ss := HR.pre (l := l) (by rw [← hpre]; exact hR.heap)
  unfold wpOp; rw [hi]; simp only; unfold Q1 at hq; obtain ⟨hd, hq⟩ := hq; rw [hg] at hq
  have done : ∀ {v : AV} {x : Value} {φ' : Refs} {Ss' : List (List Nat)} {w' : World}, J v [] → Rel N w0 B0 φ' Ss' st a w' → VR w' (Own Ss') φ' v x [] → K' (a.put o.dst x) w' := fun {v x φ' Ss' w'} hJ hR hv =>
    hK v [] φ' Ss' _ w' (fun _ => rfl) hJ (by simpa using hR.put hd hv)
  cases hgv : gval (ops.toList.map (·.dst)) st.env o.guard with
  | bad => rw [hgv] at hq; exact hq.elim
  | free =>
    rw [hgv] at hq; simp only at hq; rw [if_pos (gval_free hgv)]
    left
    unfold Oper.wp
    cases hcl : cls o.op with
    | bad => rw [hcl] at hq; exact hq.elim
    | store => rw [hcl] at hq; exact hq.elim
    | clr => rw [hcl] at hq; exact hq.elim
    | app =>
      rw [hcl] at hq; simp only at hq; split at hq
      · rename_i cl hop
        split at hq
        · rename_i s x t xt ha ht
          have hl := hc rfl
          subst hl; rw [List.append_nil] at hpre; obtain ⟨hs, hok, hq⟩ := hq
          have hEs : ∀ y ∈ [s, x], VR w (Own Ss) φ (ev env y) (a.eval y) [] := fun y hy => hE y (by
            rw [hop]; simp only [Op.operands, Call.operands, Array.mem_append]
            exact .inr (by rw [← ha] at hy; simpa using hy))
          have hq' := app_nil hs hok
          rw [← hpre] at hok hq hq'; obtain ⟨y, w', φ', Ss', hrun, hR', hv⟩ := app_sound (P := P) (ty := o.type) hR (hEs s (by simp)) (hEs x (by simp)) hok
          have : (execOp a.eval o).run P w = .ok (.value y) w' := by
            have hcc : cl.callee = .builtin .append := by
              rw [hop] at hcl; obtain ⟨callee, args, ats⟩ := cl; unfold cls clsC at hcl
              cases callee with
              | value _ => cases hcl
              | invoke _ _ => cases hcl
              | builtin b => cases b <;> first | rfl | (simp at hcl)
            obtain ⟨callee, args, ats⟩ := cl; simp only at ha ht hcc; subst hcc; have ea : args = #[s, x] := by rw [← Array.toArray_toList (xs := args), ha]
            have et : ats = #[t, xt] := by rw [← Array.toArray_toList (xs := ats), ht]
            subst ea; subst et; unfold execOp; rw [hop]; simp [resolve, invoke, builtin, hrun]
          rw [this]; have hz := hR'.put hd hv
          rw [hq'] at hz; exact hK _ [appBlk P st.heap t (ev env x)] φ' Ss' _ w' (fun e => by cases e) hq (by simpa using hz)
        · exact hq.elim
      · exact hq.elim
    | pure =>
      rw [hcl] at hq; simp only at hq; obtain ⟨y, hy, hv⟩ := evP_sound (P := P) hh hE' hq.2.1; rw [hy]
      exact done hq.2.2 hR hv
    | alloc =>
      rw [hcl] at hq; simp only at hq
      cases c with
      | true =>
        simp only at hq; obtain ⟨y, w', hy, hm⟩ := evA_sound (P := P) (own := Own Ss) (φ := φ) (w := w) (o := o) hE' hq.1; obtain ⟨φ', Ss', hR', hv⟩ := hR.made hm; rw [hy]; have hl := hc rfl
        subst hl; rw [List.append_nil] at hpre; have hq3 := hq.2
        rw [← hpre] at hq3
        exact hK _ _ _ _ _ _ (fun e => by cases e) hq3 (by simpa using hR'.put hd hv)
      | false =>
        simp only at hq; split at hq
        · rename_i t n ps hop
          obtain ⟨rfl, rfl, hq⟩ := hq; obtain ⟨tt, htt⟩ := Option.isSome_iff_exists.1 hq.1; obtain ⟨e, i, hu, hi, _⟩ := tel_spec (sz := tt.1) (bytes := tt.2) htt
          have hrun : (execOp a.eval o).run P w = .ok (.value (.slice (some ⟨w.heap.size, 0, none⟩) 0 0)) { w with heap := w.heap.push (.cells #[] e) } := by
            unfold execOp; rw [hop]; have e0 : (Array.map (fun _ : Nat => (default : Value)) (Array.range 0)) = #[] := by apply Array.ext <;> simp
            simp [Instr.buildSlice, run_underlying hu, run_sizeI hi, Instr.fill, run_newRow]; try rw [e0]
          rw [hrun]
          have hfz : ∀ b, b < w.heap.size → ¬ Own Ss b → ¬ Own Ss b ∧ (w.heap.push (.cells #[] e))[b]? = w.heap[b]? := fun b hb ho => ⟨ho, by
            rw [Array.getElem?_push, if_neg (by omega)]⟩
          refine done (φ' := φ) (Ss' := Ss) hq.2 (hR.call (w' := { w with heap := w.heap.push (.cells #[] e) }) (φ' := φ) (Ss' := Ss) ⟨?_, hR.len, hR.fresh, hR.nodup, fun b hb => ?_⟩ (fun _ _ h => h) (fun b hb => .inl hb) ⟨rfl, rfl, rfl, by simp, fun b hb _ => by simp only []; rw [Array.getElem?_push, if_neg (by omega)]⟩) (.nil _)
          · intro id b hid
            obtain ⟨S', q1, q2⟩ := hR.heap id b hid
            exact ⟨S', q1, q2.tr (w' := { w with heap := w.heap.push (.cells #[] e) }) hfz (by simp) (fun _ _ h => h) (fun x hx => by
              have := (hR.bound x (List.mem_flatten.2 ⟨S', List.mem_of_getElem? q1, hx⟩)).1
              simp only []
              rw [Array.getElem?_push, if_neg (by omega)])⟩
          · have := (hR.bound b hb).1
            simp only [Array.size_push]; omega
        · exact hq.elim
    | call =>
      rw [hcl] at hq; simp only at hq; split at hq
      · rename_i cl hop
        split at hq
        · rename_i fid as hcal
          obtain ⟨hgk, out, hf, hq⟩ := hq; obtain ⟨vs, hrun, hcr⟩ := call_run2 hop (by rw [hop] at hE; exact hE) hcal hgk hf.1; rw [hrun]
          cases c with
          | false =>
            refine (fn_run (d' := 6) hR.hp hh hf hcr).mono fun e w' ⟨v, φ', Ss', e1, e3, e4, e5, e6, e7⟩ => ?_; subst e1
            exact done hq (hR.call e3 e5 e6 e7) e4
          | true =>
            have hl := hc rfl
            subst hl; rw [List.append_nil] at hpre; rw [← hpre] at hf hq; refine ((CallS.of_fn hf hq.1).2 φ Ss w vs hR.hp hcr).mono fun e w' ⟨v, out', h', φ', Ss', e1, e2, e3, e4, e5, e6, e7⟩ => ?_; obtain ⟨rfl, rfl⟩ := e2; subst e1
            exact hK _ _ _ _ _ _ (fun e => by cases e) hq.2 ((hR.call e3 e5 e6 e7).put hd e4)
        · exact hq.elim
      · exact hq.elim
  | on g =>
    rw [hgv] at hq; simp only at hq; obtain ⟨hcf, hq⟩ := hq; have hw := gval_on hR hgv
    rw [hw]
    cases hcl : cls o.op with
    | bad => rw [hcl] at hq; exact hq.elim
    | alloc => rw [hcl] at hq; exact hq.elim
    | store => rw [hcl] at hq; exact hq.elim
    | app => rw [hcl] at hq; exact hq.elim
    | clr => rw [hcl] at hq; exact hq.elim
    | pure =>
      rw [hcl] at hq; simp only at hq
      cases g with
      | true =>
        rw [if_pos rfl]
        left
        obtain ⟨y, hy, hv⟩ := evP_sound (P := P) hh hE' (hq.1 rfl); unfold Oper.wp; rw [hy]
        exact done hq.2 hR (.condT _ _ _ hv)
      | false =>
        rw [if_neg (by simp)]
        exact done hq.2 hR (.condF _)
    | call =>
      rw [hcl] at hq; simp only at hq; split at hq
      · rename_i cl hop
        split at hq
        · rename_i fid as hcal
          obtain ⟨out, hq1, hq2⟩ := hq
          cases g with
          | true =>
            rw [if_pos rfl]
            left
            obtain ⟨hgk, hf⟩ := hq1 rfl; obtain ⟨vs, hrun, hcr⟩ := call_run2 hop (by rw [hop] at hE; exact hE) hcal hgk hf.1; unfold Oper.wp; rw [hrun]
            refine (fn_run (d' := 6) hR.hp hh hf hcr).mono fun e w' ⟨v, φ', Ss', e1, e3, e4, e5, e6, e7⟩ => ?_; subst e1
            exact done hq2 (hR.call e3 e5 e6 e7) (.condT _ _ _ e4)
          | false =>
            rw [if_neg (by simp)]; exact done hq2 hR (.condF _)
        · exact hq.elim
      · exact hq.elim
end
end HK
namespace HK
open Go
structure It where
  o : Oper
  v : AV
  bl : List Blk
def It.app (it : It) (st : St) : St := ⟨putE st.env it.o.dst it.v, st.heap ++ it.bl.map some⟩
def stM : List It → (Nat → Bool) → St → St
  | [], _, st => st
  | it :: its, fs, st => stM its (fun k => fs (k + 1)) (if fs 0 then it.app st else st)
def blM : List It → (Nat → Bool) → Heap
  | [], _ => []
  | it :: its, fs => (if fs 0 then it.bl.map some else []) ++ blM its (fun k => fs (k + 1))
def pre (k : Nat) : Nat → Bool := fun j => decide (j < k)
def setF (fs : Nat → Bool) (k : Nat) : Nat → Bool := fun j => if j = k then true else fs j
theorem stM_heap : ∀ (its : List It) (fs : Nat → Bool) (st : St), (stM its fs st).heap = st.heap ++ blM its fs
  | [], _, st => by simp [stM, blM]
  | it :: its, fs, st => by
    simp only [stM, blM]; rw [stM_heap]; split <;> simp [It.app]
theorem stM_congr : ∀ (its : List It) (fs fs' : Nat → Bool) (st : St), (∀ k, k < its.length → fs k = fs' k) → stM its fs st = stM its fs' st
  | [], _, _, _, _ => rfl
  | it :: its, fs, fs', st, h => by
    simp only [stM]; rw [h 0 (by simp)]; exact stM_congr its _ _ _ fun k hk => h (k + 1) (by simp; omega)
theorem stM_lk {t : Nat} : ∀ (its : List It) (fs fs' : Nat → Bool) (st st' : St), (∀ k it, its[k]? = some it → it.o.dst = some t → fs k = fs' k) → lk st.env t = lk st'.env t →
    lk (stM its fs st).env t = lk (stM its fs' st').env t
  | [], _, _, _, _, _, h => h
  | it :: its, fs, fs', st, st', h, he => by
    simp only [stM]; refine stM_lk its _ _ _ _ (fun k x hk => h (k + 1) x (by simpa using hk)) ?_; by_cases hd : it.o.dst = some t
    · rw [h 0 it (by simp) hd]
      split
      · simp [It.app, hd, putE, lk]
      · exact he
    · have hn : ∀ s : St, lk (it.app s).env t = lk s.env t := fun s => by
        cases hx : it.o.dst with
        | none => simp [It.app, hx, putE]
        | some d =>
          have : t ≠ d := fun e => hd (by rw [hx, e])
          simp [It.app, hx, putE, lk, this]
      split <;> split <;> simp only [hn, he]
theorem stM_put {t : Nat} {k : Nat} {it : It} : ∀ (its : List It) (fs : Nat → Bool) (st : St), its[k]? = some it → fs k = false → (∀ k' it', its[k']? = some it' → k' ≠ k → ∀ d, it.o.dst = some d → it'.o.dst ≠ some d) →
    lk (putE (stM its fs st).env it.o.dst it.v) t = lk (stM its (setF fs k) st).env t
  | its, fs, st, hk, hf, hd => by
    cases hx : it.o.dst with
    | none =>
      simp only [putE]; refine stM_lk its _ _ st st (fun j x hj hxd => ?_) rfl; unfold setF; split
      · rename_i e; subst e; rw [hk] at hj; cases hj; rw [hx] at hxd; cases hxd
      · rfl
    | some d =>
      by_cases htd : t = d
      · subst htd
        simp only [putE, lk, if_true]; clear hf
        induction its generalizing k fs st with
        | nil => simp at hk
        | cons x its ih =>
          simp only [stM]
          cases k with
          | zero =>
            simp at hk; subst hk
            have h1 : lk (stM its (fun k => setF fs 0 (k + 1)) (x.app st)).env t = lk (stM its (fun _ => false) (x.app st)).env t := stM_lk its _ _ _ _ (fun j y hj hy => by
              exact absurd hy (hd (j + 1) y (by simpa using hj) (by omega) t hx)) rfl
            have h2 : ∀ (l : List It) (s : St), stM l (fun _ => false) s = s := fun l => by
              induction l with
              | nil => intro s; rfl
              | cons y l ih => intro s; simp only [stM]; exact ih s
            have h3 : setF fs 0 0 = true := by simp [setF]
            rw [h3]; simp only [if_true]; rw [h1, h2]
            simp [It.app, hx, putE, lk]
          | succ k =>
            have := ih (fun j => fs (j + 1)) (if fs 0 then x.app st else st) (k := k) (by simpa using hk) (fun k' it' h1 h2 => hd (k' + 1) it' (by simpa using h1) (by omega))
            have e1 : setF fs (k + 1) 0 = fs 0 := by simp [setF]
            have e2 : (fun j => setF fs (k + 1) (j + 1)) = setF (fun j => fs (j + 1)) k := by funext j; simp [setF]
            rw [e1, e2]; exact this
      · simp only [putE, lk, if_neg htd]
        refine stM_lk its _ _ st st (fun j x hj hxd => ?_) rfl; unfold setF; split
        · rename_i e; subst e; rw [hk] at hj; cases hj; rw [hx] at hxd; exact absurd (Option.some.inj hxd).symm htd
        · rfl
theorem blM_set {k : Nat} {it : It} : ∀ (its : List It) (fs : Nat → Bool), its[k]? = some it → fs k = false → (it.bl = [] ∨ ∀ k' it', its[k']? = some it' → k < k' → fs k' = true → it'.bl = []) →
    blM its (setF fs k) = blM its fs ++ it.bl.map some
  | [], _, hk, _, _ => by simp at hk
  | x :: its, fs, hk, hf, hb => by
    cases k with
    | zero =>
      simp at hk; subst hk; have e2 : (fun j => setF fs 0 (j + 1)) = fun j => fs (j + 1) := by funext j; simp [setF]
      have e1 : setF fs 0 0 = true := by simp [setF]
      simp only [blM, e1, e2, hf, if_true, Bool.false_eq_true, if_false, List.nil_append]; rcases hb with hb | hb
      · simp [hb]
      · have : ∀ (l : List It) (g : Nat → Bool), (∀ k' it', l[k']? = some it' → g k' = true → it'.bl = []) → blM l g = [] := fun l => by
          induction l with
          | nil => intro g _; rfl
          | cons y l ih =>
            intro g hg; simp only [blM]; rw [ih _ fun k' it' h1 h2 => hg (k' + 1) it' (by simpa using h1) h2]; split
            · rename_i h0; rw [hg 0 y (by simp) h0]; rfl
            · rfl
        rw [this its _ fun k' it' h1 h2 => hb (k' + 1) it' (by simpa using h1) (by omega) h2]
        simp
    | succ k =>
      have e1 : setF fs (k + 1) 0 = fs 0 := by simp [setF]
      have e2 : (fun j => setF fs (k + 1) (j + 1)) = setF (fun j => fs (j + 1)) k := by funext j; simp [setF]
      simp only [blM, e1, e2]; rw [blM_set its (fun j => fs (j + 1)) (by simpa using hk) hf (hb.imp id fun hb k' it' h1 h2 h3 => hb (k' + 1) it' (by simpa using h1) (by omega) h3)]; simp
theorem blM_pre {k : Nat} : ∀ (its : List It) (fs : Nat → Bool), (∀ k' it', its[k']? = some it' → k' < k → it'.bl = [] ∨ fs k' = true) → ∃ l, blM its fs = blM its (pre k) ++ l
  | [], _, _ => ⟨[], rfl⟩
  | x :: its, fs, h => by
    cases k with
    | zero =>
      refine ⟨blM (x :: its) fs, ?_⟩
      have : ∀ (l : List It) (g : Nat → Bool), (∀ j, g j = false) → blM l g = [] := fun l => by
        induction l with
        | nil => intro g _; rfl
        | cons y l ih => intro g hg; simp only [blM]; rw [ih _ fun j => hg (j + 1), hg 0]; rfl
      rw [this _ (pre 0) fun j => by simp [pre]]
      rfl
    | succ k =>
      obtain ⟨l, hl⟩ := blM_pre (k := k) its (fun j => fs (j + 1)) (fun k' it' h1 h2 => h (k' + 1) it' (by simpa using h1) (by omega)); have e1 : (fun j => pre (k + 1) (j + 1)) = pre k := by funext j; simp [pre]
      have e2 : pre (k + 1) 0 = true := by simp [pre]
      refine ⟨l, ?_⟩; simp only [blM, e1, e2, hl, if_true]; rcases h 0 x (by simp) (by omega) with h0 | h0
      · simp [h0]
      · simp [h0]
def runQ (P : Program) (N : Sz) (ds : List (Option Tmp)) : List (Bool × Oper) → St → (St → Prop) → Prop
  | [], st, K => K st
  | (c, o) :: l, st, K => Q1 P N ds c o st.env st.heap (fun v bl => runQ P N ds l ⟨putE st.env o.dst v, st.heap ++ bl.map some⟩ K)
variable {P : Program} {N : Sz} {ds : List (Option Tmp)}
theorem Q1.ex {c : Bool} {o : Oper} {env : Env} {h : Heap} {J : AV → List Blk → Prop} (hq : Q1 P N ds c o env h J) : ∃ v bl, Q1 P N ds c o env h (fun v' bl' => v' = v ∧ bl' = bl) ∧ J v bl ∧ (c = false → bl = []) := by
  unfold Q1 at hq ⊢; obtain ⟨hd, hq⟩ := hq; split at hq
  · rename_i hg
    split at hq
    · rename_i hc; exact ⟨_, _, ⟨hd, hq.1, hq.2.1, rfl, rfl⟩, hq.2.2, fun _ => rfl⟩
    · rename_i hc
      cases c with
      | true => exact ⟨_, _, ⟨hd, hq.1, rfl, rfl⟩, hq.2, fun e => by cases e⟩
      | false =>
        simp only at hq; split at hq
        · exact ⟨_, _, ⟨hd, hq.1, hq.2.1, hq.2.2.1, rfl, rfl⟩, hq.2.2.2, fun _ => rfl⟩
        · exact hq.elim
    · rename_i hc
      split at hq
      · split at hq
        · exact ⟨_, _, ⟨hd, hq.1, hq.2.1, rfl, rfl⟩, hq.2.2, fun e => by cases e⟩
        · exact hq.elim
      · exact hq.elim
    · rename_i hc
      split at hq
      · split at hq
        · obtain ⟨hgk, out, hf, hq⟩ := hq
          cases c with
          | false => exact ⟨_, _, ⟨hd, hgk, out, hf, rfl, rfl⟩, hq, fun _ => rfl⟩
          | true => exact ⟨_, _, ⟨hd, hgk, out, hf, hq.1, rfl, rfl⟩, hq.2, fun e => by cases e⟩
        · exact hq.elim
      · exact hq.elim
    · exact hq.elim
  · obtain ⟨hcf, hq⟩ := hq
    split at hq
    · exact ⟨_, _, ⟨hd, hcf, hq.1, rfl, rfl⟩, hq.2, fun _ => rfl⟩
    · split at hq
      · split at hq
        · obtain ⟨out, h1, h2⟩ := hq
          exact ⟨_, _, ⟨hd, hcf, out, h1, rfl, rfl⟩, h2, fun _ => rfl⟩
        · exact hq.elim
      · exact hq.elim
    · exact hq.elim
  · exact hq.elim
theorem runQ_its {K : St → Prop} : ∀ {l : List (Bool × Oper)} {st : St}, runQ P N ds l st K → ∃ its : List It, its.length = l.length ∧ K (stM its (fun _ => true) st) ∧
    ∀ k c o, l[k]? = some (c, o) → ∃ it, its[k]? = some it ∧ it.o = o ∧ (c = false → it.bl = []) ∧ Q1 P N ds c o (stM its (pre k) st).env (stM its (pre k) st).heap (fun v bl => v = it.v ∧ bl = it.bl)
  | [], st, h => ⟨[], rfl, h, fun k c o hk => by simp at hk⟩
  | (c, o) :: l, st, h => by
    obtain ⟨v, bl, h1, h2, h3⟩ := Q1.ex h; obtain ⟨its, e1, e2, e3⟩ := runQ_its h2; refine ⟨⟨o, v, bl⟩ :: its, by simp [e1], by simpa [stM, It.app] using e2, fun k c' o' hk => ?_⟩
    cases k with
    | zero =>
      simp at hk; obtain ⟨rfl, rfl⟩ := hk
      have : ∀ (l : List It) (g : Nat → Bool) (s : St), (∀ j, g j = false) → stM l g s = s := fun l => by
        induction l with
        | nil => intro g s _; rfl
        | cons y l ih => intro g s hg; simp only [stM]; rw [hg 0]; exact ih _ s fun j => hg (j + 1)
      refine ⟨_, by simp; rfl, rfl, h3, ?_⟩; rw [this _ (pre 0) _ fun j => by simp [pre]]
      exact h1
    | succ k =>
      obtain ⟨it, k1, k2, k3, k4⟩ := e3 k c' o' (by simpa using hk); refine ⟨it, by simpa using k1, k2, k3, ?_⟩; have e1 : (fun j => pre (k + 1) (j + 1)) = pre k := by funext j; simp [pre]
      have e2 : pre (k + 1) 0 = true := by simp [pre]
      simp only [stM, e1, e2, if_true]; exact k4
end HK
namespace HK
open Go
inductive PSeg where
  | q (l : List (Nat × Bool))
  | b (i : Nat)
  | w (l : List (Nat × Bool)) (i x : Nat)
def PSeg.idx : PSeg → List Nat
  | .q l => l.map (·.1)
  | .b i => [i]
  | .w l i x => (l ++ [(x, false)]).map (·.1) ++ [i]
def planIdx (plan : List PSeg) : List Nat := (plan.map PSeg.idx).flatten
def prd (o : Oper) : List Nat := (o.after.toList.filter (Region.binds .any)).map (·.on)
def lkT : List (Nat × List Nat) → Nat → List Nat
  | [], _ => []
  | (k, s) :: T, x => if x = k then s else lkT T x
def ancT (ops : List Oper) : List Nat → List (Nat × List Nat) → List (Nat × List Nat)
  | [], T => T
  | i :: r, T => match ops[i]? with
    | some o => ancT ops r ((i, (T.map (·.1)).filter fun z => (prd o).contains z || (prd o).any fun p => (lkT T p).contains z) :: T)
    | none => T
inductive Anc (ops : List Oper) : Nat → Nat → Prop
  | one {x z : Nat} {o : Oper} (h : ops[x]? = some o) (hz : z ∈ prd o) : Anc ops z x
  | more {x z p : Nat} {o : Oper} (h : ops[x]? = some o) (hp : p ∈ prd o) (hz : Anc ops z p) : Anc ops z x
def TOk (ops : List Oper) (T : List (Nat × List Nat)) : Prop := ∀ x z, z ∈ lkT T x → Anc ops z x
theorem ancT_ok {ops : List Oper} : ∀ (l : List Nat) {T : List (Nat × List Nat)}, TOk ops T → TOk ops (ancT ops l T)
  | [], T, h => h
  | i :: r, T, h => by
    unfold ancT; split
    · rename_i o ho
      refine ancT_ok r fun x z hz => ?_; simp only [lkT] at hz; split at hz
      · rename_i e
        subst e; rw [List.mem_filter] at hz; obtain ⟨_, hz⟩ := hz; simp only [Bool.or_eq_true, List.contains_iff_mem, List.any_eq_true] at hz; rcases hz with hz | ⟨p, hp, hz⟩
        · exact .one ho hz
        · exact .more ho hp (h p z hz)
      · exact h x z hz
    · exact h
def pairOk (ops : List Oper) (T : List (Nat × List Nat)) (x : Nat) (o : Oper) (y : Nat) (cy : Bool) : Bool := y != x && match ops[y]? with
  | some oy => (match o.dst with | some d => oy.dst != some d | none => true) && ((lkT T x).contains y || (!cy && (match oy.dst with | some d => !(o.looksAt ops.toArray).contains d | none => true) && (match o.dst with | some d => !(oy.looksAt ops.toArray).contains d | none => true)))
  | none => false
def qOk (ops : List Oper) (T : List (Nat × List Nat)) (D : List Nat) (done : List (Nat × Bool)) : List (Nat × Bool) → Bool
  | [] => true
  | (x, c) :: r => match ops[x]? with
    | none => false
    | some o => (prd o).all (fun p => D.contains p || (done.map (·.1)).contains p) && done.all (fun y => pairOk ops T x o y.1 y.2) && qOk ops T D (done ++ [(x, c)]) r
def wOk : Oper → Oper → Bool
  | ⟨none, .store _ (.tmp a) (.tmp v), _, _, _, none⟩, ⟨some d, .extract _ _, _, _, _, none⟩ => d != a && d != v
  | _, _ => false
def segOk (ops : List Oper) (T : List (Nat × List Nat)) (D : List Nat) : PSeg → Bool
  | .b i => match ops[i]? with | some o => (prd o).all D.contains | none => false
  | .q l => qOk ops T D [] l
  | .w l i x => qOk ops T D [] (l ++ [(x, false)]) && match ops[i]?, ops[x]? with
    | some o, some ox => wOk o ox && (prd o).all (fun p => D.contains p || (l.map (·.1)).contains p) && decide (i ∉ (l ++ [(x, false)]).map (·.1)) && (l.map (·.1)).all (fun z => (lkT T i).contains z)
    | _, _ => false
def planOk (ops : List Oper) (T : List (Nat × List Nat)) : List Nat → List PSeg → Bool
  | D, [] => (List.range ops.length).all D.contains
  | D, s :: r => s.idx.all (fun x => !D.contains x && D.all fun z => (lkT T x).contains z) && segOk ops T D s && planOk ops T (D ++ s.idx) r
def drawOk (ops : List Oper) (plan : List PSeg) : Bool := planOk ops (ancT ops (planIdx plan) []) [] plan
def runD (P : Program) (N : Sz) (ops : List Oper) (ds : List (Option Tmp)) : List PSeg → St → (St → Prop) → Prop
  | [], st, K => K st
  | .b i :: r, st, K => match ops[i]? with
    | some o => runA P N ds [o] st fun s => runD P N ops ds r s K
    | none => False
  | .w l i x :: r, st, K => match ops[i]? with
    | some o => runQ P N ds ((l ++ [(x, false)]).filterMap fun x => (ops[x.1]?).map fun o => (x.2, o)) st fun s => runA P N ds [o] s fun s => runD P N ops ds r s K
    | none => False
  | .q l :: r, st, K => runQ P N ds (l.filterMap fun x => (ops[x.1]?).map fun o => (x.2, o)) st fun s => runD P N ops ds r s K
theorem qOk_spec {ops : List Oper} {T : List (Nat × List Nat)} {D : List Nat} : ∀ {l : List (Nat × Bool)} {done : List (Nat × Bool)}, qOk ops T D done l = true → ∀ (k x : Nat) (c : Bool), l[k]? = some ((x, c) : Nat × Bool) → ∃ o, ops[x]? = some o ∧
    (∀ p ∈ prd o, p ∈ D ∨ p ∈ done.map (·.1) ∨ ∃ k' c', k' < k ∧ l[k']? = some (p, c')) ∧ (∀ y ∈ done, pairOk ops T x o y.1 y.2 = true) ∧ (∀ (k' y : Nat) (c' : Bool), k' < k → l[k']? = some (y, c') → pairOk ops T x o y c' = true)
  | [], _, _, k, x, c, hk => by simp at hk
  | (x0, c0) :: r, done, h, k, x, c, hk => by
    unfold qOk at h; split at h
    · cases h
    · rename_i o ho
      simp only [Bool.and_eq_true, List.all_eq_true, Bool.or_eq_true, List.contains_iff_mem] at h
      cases k with
      | zero =>
        simp at hk; obtain ⟨rfl, rfl⟩ := hk
        exact ⟨o, ho, fun p hp => (h.1.1 p hp).imp id fun h => .inl h, h.1.2, fun k' y c' hlt => by omega⟩
      | succ k =>
        obtain ⟨o', e1, e2, e3, e4⟩ := qOk_spec h.2 k x c (by simpa using hk); refine ⟨o', e1, fun p hp => ?_, fun y hy => e3 y (List.mem_append_left _ hy), fun k' y c' hlt hy => ?_⟩
        · rcases e2 p hp with h1 | h1 | ⟨k', c', h1, h2⟩
          · exact .inl h1
          · rw [List.map_append, List.mem_append] at h1
            rcases h1 with h1 | h1
            · exact .inr (.inl h1)
            · simp at h1; subst h1; exact .inr (.inr ⟨0, c0, by omega, by simp⟩)
          · exact .inr (.inr ⟨k' + 1, c', by omega, by simpa using h2⟩)
        · cases k' with
          | zero =>
            have h5 := e3 (x0, c0) (List.mem_append_right _ (by simp))
            simp at hy; obtain ⟨rfl, rfl⟩ := hy; exact h5
          | succ k' => exact e4 k' y c' (by omega) (by simpa using hy)
theorem plan_cover {ops : List Oper} {T : List (Nat × List Nat)} : ∀ {plan : List PSeg} {D : List Nat}, planOk ops T D plan = true → ∀ x, x < ops.length → x ∈ D ∨ x ∈ planIdx plan
  | [], D, h, x, hx => by
    simp only [planOk, List.all_eq_true, List.mem_range, List.contains_iff_mem] at h
    exact .inl (h x hx)
  | s :: r, D, h, x, hx => by
    simp only [planOk, Bool.and_eq_true] at h; rcases plan_cover h.2 x hx with h1 | h1
    · rcases List.mem_append.1 h1 with h1 | h1
      · exact .inl h1
      · exact .inr (by simp [planIdx]; exact .inl h1)
    · exact .inr (by simp only [planIdx, List.map_cons, List.flatten_cons, List.mem_append]; exact .inr h1)
theorem plan_later {ops : List Oper} {T : List (Nat × List Nat)} : ∀ {plan : List PSeg} {D : List Nat}, planOk ops T D plan = true → ∀ x ∈ planIdx plan, ∀ z ∈ D, z ∈ lkT T x
  | [], D, h, x, hx => by simp [planIdx] at hx
  | s :: r, D, h, x, hx => by
    intro z hz; simp only [planOk, Bool.and_eq_true] at h; simp only [planIdx, List.map_cons, List.flatten_cons, List.mem_append] at hx; rcases hx with hx | hx
    · have := List.all_eq_true.1 h.1.1 x hx
      simp only [Bool.and_eq_true, List.all_eq_true, List.contains_iff_mem] at this; exact this.2 z hz
    · exact plan_later h.2 x hx z (List.mem_append_left _ hz)
theorem minOf : ∀ (n : Nat) (l : List Nat), (∃ k ∈ l, k < n) → ∃ k ∈ l, ∀ j ∈ l, k ≤ j
  | 0, _, ⟨k, _, h⟩ => by omega
  | n + 1, l, ⟨k, hk, h⟩ => by
    by_cases h' : ∃ j ∈ l, j < n
    · exact minOf n l h'
    · exact ⟨k, hk, fun j hj => by
        have : ¬ j < n := fun hlt => h' ⟨j, hj, hlt⟩
        omega⟩
theorem blM_eq : ∀ (its : List It) (fs fs' : Nat → Bool), (∀ k it, its[k]? = some it → it.bl = [] ∨ fs k = fs' k) → blM its fs = blM its fs'
  | [], _, _, _ => rfl
  | x :: its, fs, fs', h => by
    simp only [blM]; rw [blM_eq its _ (fun k => fs' (k + 1)) fun k it hk => h (k + 1) it (by simpa using hk)]; rcases h 0 x (by simp) with h0 | h0
    · simp [h0]
    · rw [h0]
section
variable {P : Program} {N : Sz} {w0 : World} {B0 : Cx}
theorem Rel.lkc {φ : Refs} {Ss : List (List Nat)} {st st' : St} {a : Act} {w : World} (h : Rel N w0 B0 φ Ss st a w) (he : ∀ t, lk st'.env t = lk st.env t) (hh : st'.heap = st.heap) : Rel N w0 B0 φ Ss st' a w :=
  ⟨fun t => by rw [he]; exact h.env t, by rw [hh]; exact h.heap, by rw [hh]; exact h.len, by rw [hh]; exact h.fresh, h.nodup, h.bound, h.fr, h.size, h.defers, h.cx, h.keep⟩
def Closed (ops : List Oper) (listed : Array Bool) : Prop := ∀ y o, listed.getD y false = true → ops[y]? = some o → ∀ p ∈ prd o, listed.getD p false = true
theorem Closed.anc {ops : List Oper} {listed : Array Bool} (h : Closed ops listed) {z x : Nat} (ha : Anc ops z x) : listed.getD x false = true → listed.getD z false = true := by
  induction ha with
  | one ho hz => exact fun hx => h _ _ hx ho _ hz
  | more ho hp _ ih => exact fun hx => ih (h _ _ hx ho _ hp)
theorem Closed.ready {ops : List Oper} {listed : Array Bool} (h : Closed ops listed) {z x : Nat} {o : Oper} (ho : ops[x]? = some o) (hr : ∀ p ∈ prd o, listed.getD p false = true) (ha : Anc ops z x) : listed.getD z false = true := by
  cases ha with
  | one ho' hz => rw [ho] at ho'; cases ho'; exact hr _ hz
  | more ho' hp hz => rw [ho] at ho'; cases ho'; exact h.anc hz (hr _ hp)
theorem ready_iff {ops : List Oper} {listed : Array Bool} {x : Nat} (hs : listed.size = ops.length) : x ∈ Region.ready .any ops.toArray listed ↔ listed.getD x false = false ∧ ∃ o, ops[x]? = some o ∧ ∀ p ∈ prd o, listed.getD p false = true := by
  rw [mem_ready]; constructor
  · rintro ⟨h1, o, ho, h2⟩
    have hx : x < ops.length := (List.getElem?_eq_some_iff.1 (by simpa using ho)).1
    refine ⟨?_, o, by simpa using ho, fun p hp => ?_⟩
    · have hlt : x < listed.size := by omega
      simp [Array.getElem?_eq_getElem hlt] at h1 ⊢; exact h1
    · obtain ⟨e, he, rfl⟩ := List.mem_map.1 hp
      rw [List.mem_filter] at he; exact h2 e (by simpa using he.1) he.2
  · rintro ⟨h1, o, ho, h2⟩
    have hx : x < ops.length := (List.getElem?_eq_some_iff.1 ho).1
    refine ⟨?_, o, by simpa using ho, fun e he hb => h2 e.on (List.mem_map.2 ⟨e, List.mem_filter.2 ⟨by simpa using he, hb⟩, rfl⟩)⟩; have hlt : x < listed.size := by omega
    simp [Array.getElem?_eq_getElem hlt] at h1 ⊢; exact h1
theorem listed_set {ops : List Oper} {listed : Array Bool} {x i : Nat} (hs : listed.size = ops.length) (hx : x < ops.length) : (listed.setIfInBounds x true).getD i false = (if i = x then true else listed.getD i false) := by
  split
  · rename_i e; subst e
    have hlt : i < listed.size := by omega
    simp [hlt]
  · rename_i e
    exact getD_set_ne false (fun h => e h.symm)
theorem Closed.set {ops : List Oper} {listed : Array Bool} (h : Closed ops listed) {x : Nat} {o : Oper} (hs : listed.size = ops.length) (ho : ops[x]? = some o) (hr : ∀ p ∈ prd o, listed.getD p false = true) : Closed ops (listed.setIfInBounds x true) := by
  have hx : x < ops.length := (List.getElem?_eq_some_iff.1 ho).1
  intro y oy hy hoy p hp; rw [listed_set hs hx] at hy ⊢; split
  · rfl
  · split at hy
    · rename_i e; subst e; rw [ho] at hoy; cases hoy; exact hr p hp
    · exact h y oy hy hoy p hp
end
end HK
namespace HK
open Go
section
variable {P : Program} {N : Sz} {w0 : World} {B0 : Cx}
theorem seg_sound {ops : List Oper} {T : List (Nat × List Nat)} {Q : Exit → Act → World → Prop} (hT : TOk ops T) {D : List Nat} {l : List (Nat × Bool)} {r : List PSeg} (hD : ∀ p ∈ D, p < ops.length) (hdis : ∀ x ∈ l.map (·.1), x ∉ D) (hq : qOk ops T D [] l = true)
    (hcov : ∀ x, x < ops.length → x ∈ D ∨ x ∈ l.map (·.1) ∨ x ∈ planIdx r) {its : List It} {st0 : St} {rest : Nat}
    (hlater : ∀ y ∈ planIdx r, (∀ z ∈ l.map (·.1), z ∈ lkT T y) ∨ ∀ (fs : Nat → Bool) φ Ss a w (listed : Array Bool) f oy, ops[y]? = some oy → (∀ p ∈ prd oy, listed.getD p false = true) → listed.getD y false = false → (∀ z ∈ lkT T y, listed.getD z false = true) → listed.size = ops.length →
      Closed ops listed → (∀ i, i < ops.length → (listed.getD i false = true ↔ i ∈ D ∨ ∃ k c, l[k]? = some ((i, c) : Nat × Bool) ∧ fs k = true)) → (∃ k, k < l.length ∧ fs k = false) → Rel N w0 B0 φ Ss (stM its fs st0) a w → rest ≤ f →
      wpOp P ops.toArray Q y (fun a' w' => wpAny P .any ops.toArray Q f (listed.setIfInBounds y true) a' w') a w) (hlen : its.length = l.length)
    (hits : ∀ (k : Nat) (x : Nat) (c : Bool), l[k]? = some ((x, c) : Nat × Bool) → ∃ it o, its[k]? = some it ∧ ops[x]? = some o ∧ it.o = o ∧ (c = false → it.bl = []) ∧
      Q1 P N (ops.map (·.dst)) c o (stM its (pre k) st0).env (stM its (pre k) st0).heap (fun v bl => v = it.v ∧ bl = it.bl))
    (next : ∀ φ Ss a w listed fuel, listed.size = ops.length → Closed ops listed → (∀ i, i < ops.length → (listed.getD i false = true ↔ i ∈ D ++ l.map (·.1))) → Rel N w0 B0 φ Ss (stM its (fun _ => true) st0) a w → rest ≤ fuel →
      wpAny P .any ops.toArray Q fuel listed a w) :
    ∀ (n : Nat) (pd : List Nat) (fs : Nat → Bool) (φ : Refs) (Ss : List (List Nat)) (a : Act) (w : World) (listed : Array Bool) (fuel : Nat), pd.length = n → pd.Nodup → (∀ k ∈ pd, k < l.length) → (∀ k, k < l.length → (fs k = false ↔ k ∈ pd)) →
      listed.size = ops.length → Closed ops listed → (∀ i, i < ops.length → (listed.getD i false = true ↔ i ∈ D ∨ ∃ k c, l[k]? = some ((i, c) : Nat × Bool) ∧ fs k = true)) → Rel N w0 B0 φ Ss (stM its fs st0) a w → n + rest ≤ fuel →
      wpAny P .any ops.toArray Q fuel listed a w := by
  have hinj : ∀ (k k' : Nat) (x : Nat) (c c' : Bool), l[k]? = some ((x, c) : Nat × Bool) → l[k']? = some ((x, c') : Nat × Bool) → k = k' := by
    intro k k' x c c' h1 h2; rcases Nat.lt_trichotomy k k' with hlt | he | hlt
    · obtain ⟨o, _, _, _, h3⟩ := qOk_spec hq k' x c' h2
      have := h3 k x c hlt h1
      simp [pairOk] at this
    · exact he
    · obtain ⟨o, _, _, _, h3⟩ := qOk_spec hq k x c h1
      have := h3 k' x c' hlt h2
      simp [pairOk] at this
  intro n
  induction n with
  | zero =>
    intro pd fs φ Ss a w listed fuel hpl hnd hlt hfs hs hcl hL hR hfu; have hpd : pd = [] := List.eq_nil_of_length_eq_zero hpl
    subst hpd
    have hall : ∀ k, k < l.length → fs k = true := fun k hk => by
      have := hfs k hk
      cases h : fs k with
      | true => rfl
      | false => exact absurd (this.1 h) (by simp)
    refine next φ Ss a w listed fuel hs hcl (fun i hi => (hL i hi).trans ?_) (by rw [← stM_congr its fs (fun _ => true) st0 fun k hk => hall k (by omega)]; exact hR) (by omega)
    rw [List.mem_append]; refine or_congr Iff.rfl ⟨fun ⟨k, c, h1, _⟩ => List.mem_map.2 ⟨(i, c), List.mem_of_getElem? h1, rfl⟩, fun h => ?_⟩; obtain ⟨⟨i', c⟩, hm, rfl⟩ := List.mem_map.1 h; obtain ⟨k, hk⟩ := List.getElem?_of_mem hm
    exact ⟨k, c, hk, hall k (List.getElem?_eq_some_iff.1 hk).1⟩
  | succ n ih =>
    intro pd fs φ Ss a w listed fuel hpl hnd hlt hfs hs hcl hL hR hfu; obtain ⟨f, rfl⟩ : ∃ f, fuel = f + 1 := ⟨fuel - 1, by omega⟩
    have hidx : ∀ k, k < l.length → ∃ x c, l[k]? = some ((x, c) : Nat × Bool) := fun k hk => ⟨_, _, List.getElem?_eq_getElem hk⟩
    have hxlt : ∀ (k x : Nat) (c : Bool), l[k]? = some ((x, c) : Nat × Bool) → x < ops.length := fun k x c hk => by
      obtain ⟨o, h1, _⟩ := qOk_spec hq k x c hk; exact (List.getElem?_eq_some_iff.1 h1).1
    -- what is pending is not listed
    have hpend : ∀ (k x : Nat) (c : Bool), l[k]? = some ((x, c) : Nat × Bool) → fs k = false → listed.getD x false = false := fun k x c hk hf => by
      cases h : listed.getD x false with
      | false => rfl
      | true =>
        rcases (hL x (hxlt k x c hk)).1 h with h1 | ⟨k', c', h1, h2⟩
        · exact absurd h1 (hdis x (List.mem_map.2 ⟨(x, c), List.mem_of_getElem? hk, rfl⟩))
        · have := hinj k k' x c c' hk h1
          subst this; rw [hf] at h2; cases h2
    have hlisted : ∀ (k x : Nat) (c : Bool), l[k]? = some ((x, c) : Nat × Bool) → listed.getD x false = true → fs k = true := fun k x c hk hx => by
      cases h : fs k with
      | true => rfl
      | false => rw [hpend k x c hk h] at hx; cases hx
    refine ⟨fun h0 => ?_, fun x hx => ?_⟩
    · exfalso
      have hne : pd ≠ [] := fun e => by rw [e] at hpl; cases hpl
      obtain ⟨k0, hk0, hmin⟩ := minOf l.length pd (by
        obtain ⟨k, t, e⟩ := List.exists_cons_of_ne_nil hne
        exact ⟨k, by rw [e]; simp, hlt k (by rw [e]; simp)⟩)
      obtain ⟨x, c, hx⟩ := hidx k0 (hlt k0 hk0); obtain ⟨o, h1, h2, _, _⟩ := qOk_spec hq k0 x c hx
      have : x ∈ Region.ready .any ops.toArray listed := (ready_iff hs).2 ⟨hpend k0 x c hx ((hfs k0 (hlt k0 hk0)).2 hk0), o, h1, fun p hp => by
        rcases h2 p hp with h3 | h3 | ⟨k', c', h3, h4⟩
        · exact (hL p (hD p h3)).2 (.inl h3)
        · simp at h3
        · refine (hL p (hxlt k' p c' h4)).2 (.inr ⟨k', c', h4, ?_⟩)
          cases h5 : fs k' with
          | true => rfl
          | false =>
            have := hmin k' ((hfs k' (List.getElem?_eq_some_iff.1 h4).1).1 h5)
            omega⟩
      rw [h0] at this; cases this
    · obtain ⟨hun, o, ho, hpr⟩ := (ready_iff hs).1 hx
      have hxl : x < ops.length := (List.getElem?_eq_some_iff.1 ho).1
      have hanc : ∀ z ∈ lkT T x, listed.getD z false = true := fun z hz => hcl.ready ho hpr (hT x z hz)
      rcases hcov x hxl with h1 | h1 | h1
      · rw [(hL x hxl).2 (.inl h1)] at hun; cases hun
      · obtain ⟨⟨x', c⟩, hm, rfl⟩ := List.mem_map.1 h1
        obtain ⟨k, hk⟩ := List.getElem?_of_mem hm; have hkl := (List.getElem?_eq_some_iff.1 hk).1
        have hfk : fs k = false := by
          cases h : fs k with
          | false => rfl
          | true => rw [(hL x' hxl).2 (.inr ⟨k, c, hk, h⟩)] at hun; cases hun
        obtain ⟨it, o', e1, e2, e3, e4, e5⟩ := hits k x' c hk; rw [ho] at e2; cases e2; obtain ⟨o2, q1, q2, q3, q4⟩ := qOk_spec hq k x' c hk; rw [ho] at q1; cases q1
        -- what comes later of the text and is done must not come behind
        have hlat : ∀ (k' x2 : Nat) (c2 : Bool), l[k']? = some ((x2, c2) : Nat × Bool) → fs k' = true → x' ∉ lkT T x2 := fun k' x2 c2 h1 h2 hz => by
          have := hcl.anc (hT x2 x' hz) ((hL x2 (hxlt k' x2 c2 h1)).2 (.inr ⟨k', c2, h1, h2⟩))
          rw [hun] at this; cases this
        have hitk : ∀ (k' : Nat) (it' : It), its[k']? = some it' → ∃ x2 c2, l[k']? = some ((x2, c2) : Nat × Bool) ∧ ops[x2]? = some it'.o ∧ (c2 = false → it'.bl = []) := fun k' it' h => by
          have hlt' : k' < l.length := by have := (List.getElem?_eq_some_iff.1 h).1; omega
          obtain ⟨x2, c2, h2⟩ := hidx k' hlt'; obtain ⟨it2, o2, g1, g2, g3, g4, _⟩ := hits k' x2 c2 h2; rw [h] at g1; cases g1; exact ⟨x2, c2, h2, by rw [g3]; exact g2, g4⟩
        -- two of them
        have hpair : ∀ (k' : Nat) (it' : It) (x2 : Nat) (c2 : Bool), its[k']? = some it' → l[k']? = some ((x2, c2) : Nat × Bool) → k' < k → pairOk ops T x' o x2 c2 = true := fun k' it' x2 c2 _ h2 h3 => q4 k' x2 c2 h3 h2
        have hpair2 : ∀ (k' : Nat) (it' : It) (x2 : Nat) (c2 : Bool), its[k']? = some it' → l[k']? = some ((x2, c2) : Nat × Bool) → ops[x2]? = some it'.o → k < k' → pairOk ops T x2 it'.o x' c = true := fun k' it' x2 c2 _ h2 h2' h3 => by
          obtain ⟨o3, g1, _, _, g4⟩ := qOk_spec hq k' x2 c2 h2; rw [h2'] at g1; cases g1; exact g4 k x' c h3 hk
        have hfst : ∀ (k' x2 : Nat) (c2 : Bool), l[k']? = some ((x2, c2) : Nat × Bool) → x2 ∈ lkT T x' → fs k' = true := fun k' x2 c2 h1 h2 => hlisted k' x2 c2 h1 (hanc x2 h2)
        have hmk : c = true → ∀ (k' : Nat) (it' : It), its[k']? = some it' → k < k' → fs k' = false := fun hc k' it' h1 h2 => by
          obtain ⟨x2, c2, h3, h4, _⟩ := hitk k' it' h1; have := hpair2 k' it' x2 c2 h1 h3 h4 h2
          simp only [pairOk, ho, hc, Bool.not_true, Bool.false_and, Bool.or_false, Bool.and_eq_true, List.contains_iff_mem] at this
          cases h5 : fs k' with
          | false => rfl
          | true => exact absurd this.2.2 (hlat k' x2 c2 h3 h5)
        have hds : ops.toArray.toList.map (·.dst) = ops.map (·.dst) := by simp
        have hpre : ∃ lh, (stM its fs st0).heap = (stM its (pre k) st0).heap ++ lh ∧ (c = true → lh = []) := by
          rw [stM_heap, stM_heap]
          have hbefore : ∀ k' it', its[k']? = some it' → k' < k → it'.bl = [] ∨ fs k' = true := fun k' it' h1 h2 => by
            obtain ⟨x2, c2, h3, h4, h5⟩ := hitk k' it' h1; have := hpair k' it' x2 c2 h1 h3 h2
            cases c2 with
            | false => exact .inl (h5 rfl)
            | true =>
              simp only [pairOk, h4, Bool.not_true, Bool.false_and, Bool.or_false, Bool.and_eq_true, List.contains_iff_mem] at this; exact .inr (hfst k' x2 true h3 this.2.2)
          cases hcc : c with
          | true =>
            refine ⟨[], ?_, fun _ => rfl⟩; rw [blM_eq its fs (pre k) fun k' it' h1 => ?_, List.append_nil]; rcases Nat.lt_trichotomy k' k with h2 | h2 | h2
            · rcases hbefore k' it' h1 h2 with h3 | h3
              · exact .inl h3
              · right; rw [h3]; simp [pre, h2]
            · subst h2; right; rw [hfk]; simp [pre]
            · right; rw [hmk hcc k' it' h1 h2]; simp [pre]; omega
          | false =>
            obtain ⟨lh, hl⟩ := blM_pre (k := k) its fs hbefore; exact ⟨lh, by rw [hl, List.append_assoc], fun e => by cases e⟩
        obtain ⟨lh, hp1, hp2⟩ := hpre
        refine q1_sound (ops := ops.toArray) (o := o) (by simpa using ho) (c := c) (env := (stM its (pre k) st0).env) (h := (stM its (pre k) st0).heap) (l := lh) (by rw [hds]; exact e5) (fun t ht => ?_) hp1 hp2 (fun v bl φ' Ss' a' w' _ hJ hR' => ?_) hR
        · refine stM_lk its _ _ st0 st0 (fun k' it' h1 h2 => ?_) rfl
          obtain ⟨x2, c2, h3, h4, h5⟩ := hitk k' it' h1; rcases Nat.lt_trichotomy k' k with h6 | h6 | h6
          · have := hpair k' it' x2 c2 h1 h3 h6
            simp only [pairOk, h4, h2, Bool.and_eq_true, Bool.or_eq_true, List.contains_iff_mem] at this; rcases this.2.2 with h7 | ⟨⟨_, h7⟩, _⟩
            · rw [hfst k' x2 c2 h3 h7]; simp [pre, h6]
            · simp at h7; exact absurd ht h7
          · subst h6; rw [hfk]; simp [pre]
          · have := hpair2 k' it' x2 c2 h1 h3 h4 h6
            simp only [pairOk, ho, h2, Bool.and_eq_true, Bool.or_eq_true, List.contains_iff_mem] at this; have h9 : pre k k' = false := by simp [pre]; omega
            rw [h9]; rcases this.2.2 with h7 | ⟨_, h7⟩
            · cases h8 : fs k' with
              | false => rfl
              | true => exact absurd h7 (hlat k' x2 c2 h3 h8)
            · simp at h7; exact absurd ht h7
        · obtain ⟨rfl, rfl⟩ := hJ
          have hkpd : k ∈ pd := (hfs k hkl).1 hfk
          have hR2 : Rel N w0 B0 φ' Ss' (stM its (setF fs k) st0) a' w' := by
            refine hR'.lkc (fun t => ?_) ?_
            · subst e3
              refine (stM_put its fs st0 e1 hfk fun k' it' h1 h2 d hd => ?_).symm; obtain ⟨x2, c2, h3, h4, h5⟩ := hitk k' it' h1; rcases Nat.lt_or_ge k' k with h6 | h6
              · have := hpair k' it' x2 c2 h1 h3 h6
                simp only [pairOk, h4, hd, Bool.and_eq_true] at this
                simpa using this.2.1
              · have := hpair2 k' it' x2 c2 h1 h3 h4 (by omega)
                simp only [pairOk, ho, hd, Bool.and_eq_true] at this; intro h7; rw [h7] at this
                simpa using this.2.1
            · show (stM its (setF fs k) st0).heap = (stM its fs st0).heap ++ it.bl.map some
              rw [stM_heap, stM_heap, blM_set its fs e1 hfk ?_, List.append_assoc]
              cases hcc : c with
              | false => exact .inl (e4 hcc)
              | true => exact .inr fun k' it' h1 h2 h3 => by rw [hmk hcc k' it' h1 h2] at h3; cases h3
          refine ih (pd.erase k) (setF fs k) φ' Ss' a' w' _ f (by rw [List.length_erase_of_mem hkpd]; omega) (hnd.erase k) (fun k' h => hlt k' (List.mem_of_mem_erase h)) (fun k' hk' => ?_) (by simpa using hs) (hcl.set hs ho hpr) (fun i hi => ?_) hR2 (by omega)
          · rw [hnd.mem_erase_iff]
            unfold setF; split
            · rename_i e; subst e; simp
            · rename_i e
              exact (hfs k' hk').trans ⟨fun h => ⟨e, h⟩, fun h => h.2⟩
          · rw [listed_set hs hxl]
            split
            · rename_i e; subst e
              simp only [true_iff]; exact .inr ⟨k, c, hk, by simp [setF]⟩
            · rename_i e
              refine (hL i hi).trans (or_congr Iff.rfl ⟨fun ⟨k', c', h1, h2⟩ => ⟨k', c', h1, ?_⟩, fun ⟨k', c', h1, h2⟩ => ⟨k', c', h1, ?_⟩⟩)
              · unfold setF; split
                · rfl
                · exact h2
              · unfold setF at h2
                split at h2
                · rename_i e'; subst e'; rw [hk] at h1; cases h1; exact absurd rfl e
                · exact h2
      · have hne : pd ≠ [] := fun e => by rw [e] at hpl; cases hpl
        obtain ⟨k0, t, e⟩ := List.exists_cons_of_ne_nil hne; have hk0 : k0 ∈ pd := by rw [e]; simp
        rcases hlater x h1 with hlx | hlx
        rotate_left
        · exact hlx fs φ Ss a w listed f o ho hpr hun hanc hs hcl hL ⟨k0, hlt k0 hk0, (hfs k0 (hlt k0 hk0)).2 hk0⟩ hR (by omega)
        exfalso; obtain ⟨x0, c0, hx0⟩ := hidx k0 (hlt k0 hk0); have h2 := hanc x0 (hlx x0 (List.mem_map.2 ⟨(x0, c0), List.mem_of_getElem? hx0, rfl⟩))
        rw [hpend k0 x0 c0 hx0 ((hfs k0 (hlt k0 hk0)).2 hk0)] at h2; cases h2
theorem stM_snoc : ∀ (its : List It) (n : Nat) (itx : It) (st : St), its.length = n + 1 → its[n]? = some itx → stM its (fun _ => true) st = itx.app (stM its (pre n) st)
  | [], n, _, _, h, _ => by simp at h
  | it :: its, 0, itx, st, h, hx => by
    have : its = [] := by simpa using h
    subst this; simp at hx; subst hx
    simp [stM, pre]
  | it :: its, n + 1, itx, st, h, hx => by
    have h1 : its.length = n + 1 := by simpa using h
    have h2 := stM_snoc its n itx (it.app st) h1 (by simpa using hx)
    have e : (fun k => pre (n + 1) (k + 1)) = pre n := by
      funext k
      simp [pre]
    simp only [stM, e]; have e0 : pre (n + 1) 0 = true := by simp [pre]
    rw [e0]
    simpa using h2
theorem w_swap2 {ds : List (Option Tmp)} {o ox : Oper} {st : St} {K : St → Prop} (hw : wOk o ox = true) (h : runA P N ds [ox] st fun s => runA P N ds [o] s K) : runA P N ds [o] st fun s => runA P N ds [ox] s K := by
  unfold wOk at hw; split at hw
  · rename_i t a v _ _ _ d y k _ _ _
    simp only [Bool.and_eq_true, bne_iff_ne, ne_eq] at hw; simp only [runA, gval, cls, putE, dOk, evP] at h ⊢
    have e : ∀ u x, ¬ d = u → ev ((d, x) :: st.env) (.tmp u) = ev st.env (.tmp u) := fun u x hu => by
      simp only [ev, lk]; rw [if_neg (fun e => hu e.symm)]
    rw [e _ _ hw.1, e _ _ hw.2] at h; obtain ⟨h1, h2, _, h3, h4⟩ := h; exact ⟨trivial, h3, h1, h2, h4⟩
  · cases hw
theorem w_q1 {ds : List (Option Tmp)} {o ox : Oper} {s : St} {v : AV} {bl : List Blk} {K : St → Prop} (hw : wOk o ox = true) (h : Q1 P N ds false ox s.env s.heap (fun v' bl' => v' = v ∧ bl' = bl)) (hk : K ⟨putE s.env ox.dst v, s.heap⟩) : runA P N ds [ox] s K := by
  unfold wOk at hw; split at hw
  · rename_i t a u _ _ _ d y k _ _ _
    simp only [Q1, gval, cls] at h; simp only [runA, gval, cls]; obtain ⟨h1, _, h2, h3, _⟩ := h; exact ⟨h1, h2, by rw [h3]; exact hk⟩
  · cases hw
theorem b_step {ops : List Oper} {T : List (Nat × List Nat)} (hT : TOk ops T) {Q : Exit → Act → World → Prop} {D : List Nat} {i : Nat} {o : Oper} (ho : ops[i]? = some o) (hiD : i ∉ D) (hpr : ∀ p ∈ prd o, p ∈ D) (hD : ∀ p ∈ D, p < ops.length) {L : List Nat}
    (hcov : ∀ x, x < ops.length → x ∈ D ∨ x = i ∨ x ∈ L) (hlat : ∀ x ∈ L, i ∈ lkT T x) {st : St} {φ : Refs} {Ss : List (List Nat)} {a : Act} {w : World} {listed : Array Bool} {f : Nat} (hs : listed.size = ops.length) (hcl : Closed ops listed)
    (hL : ∀ j, j < ops.length → (listed.getD j false = true ↔ j ∈ D)) (hR : Rel N w0 B0 φ Ss st a w) {J : St → Prop} (hr : runA P N (ops.map (·.dst)) [o] st J)
    (next : ∀ st' φ' Ss' a' w' listed', listed'.size = ops.length → Closed ops listed' → (∀ j, j < ops.length → (listed'.getD j false = true ↔ j ∈ D ++ [i])) → Rel N w0 B0 φ' Ss' st' a' w' → J st' → wpAny P .any ops.toArray Q f listed' a' w') :
    wpAny P .any ops.toArray Q (f + 1) listed a w := by
  have hil := (List.getElem?_eq_some_iff.1 ho).1
  have hun : listed.getD i false = false := by
    cases h : listed.getD i false with
    | false => rfl
    | true => exact absurd ((hL i hil).1 h) hiD
  have hri : i ∈ Region.ready .any ops.toArray listed := (ready_iff hs).2 ⟨hun, o, ho, fun p hp => (hL p (hD p (hpr p hp))).2 (hpr p hp)⟩
  refine ⟨fun h0 => (by rw [h0] at hri; cases hri), fun x hx => ?_⟩; obtain ⟨hux, ox, hox, hpx⟩ := (ready_iff hs).1 hx; have hxl := (List.getElem?_eq_some_iff.1 hox).1
  have hxi : x = i := by
    rcases hcov x hxl with h | h | h
    · rw [(hL x hxl).2 h] at hux; cases hux
    · exact h
    · have h4 := hcl.ready hox hpx (hT x i (hlat x h))
      rw [hun] at h4; cases h4
  subst hxi; rw [ho] at hox; cases hox; have hds : ops.toArray.toList.map (·.dst) = ops.map (·.dst) := by simp
  refine stepA_sound (ops := ops.toArray) (o := o) (by simpa using ho) (fun st' φ' Ss' a' w' hJ hR' => ?_) hR (by rw [hds]; exact hr); refine next st' φ' Ss' a' w' _ (by simpa using hs) (hcl.set hs ho hpx) (fun j hj => ?_) hR' hJ
  rw [listed_set hs hil]; split
  · rename_i e; subst e; simp
  · rename_i e
    rw [hL j hj]; simp [e]
theorem plan_sound {ops : List Oper} {T : List (Nat × List Nat)} (hT : TOk ops T) {Q : Exit → St → Prop} {K : St → Prop} (hK : ∀ st, K st → Q .normal st) :
    ∀ (plan : List PSeg) (D : List Nat) (st : St) (φ : Refs) (Ss : List (List Nat)) (a : Act) (w : World) (listed : Array Bool) (fuel : Nat), planOk ops T D plan = true → (∀ p ∈ D, p < ops.length) → listed.size = ops.length → Closed ops listed →
      (∀ i, i < ops.length → (listed.getD i false = true ↔ i ∈ D)) → Rel N w0 B0 φ Ss st a w → runD P N ops (ops.map (·.dst)) plan st K → (planIdx plan).length ≤ fuel → wpAny P .any ops.toArray (QR N w0 B0 Q) fuel listed a w
  | [], D, st, φ, Ss, a, w, listed, fuel, hp, hD, hs, hcl, hL, hR, hr, hf => by
    refine wpAny_done ?_ ⟨st, φ, Ss, hK _ hr, hR⟩ fuel; rw [List.eq_nil_iff_forall_not_mem]; intro x hx; obtain ⟨h1, o, ho, _⟩ := (ready_iff hs).1 hx; have hxl := (List.getElem?_eq_some_iff.1 ho).1
    rcases plan_cover hp x hxl with h | h
    · rw [(hL x hxl).2 h] at h1; cases h1
    · simp [planIdx] at h
  | .b i :: r, D, st, φ, Ss, a, w, listed, fuel, hp, hD, hs, hcl, hL, hR, hr, hf => by
    have hcov := plan_cover hp
    simp only [planOk, Bool.and_eq_true] at hp; obtain ⟨⟨hp1, hp2⟩, hp3⟩ := hp; simp only [PSeg.idx, List.all_cons, List.all_nil, Bool.and_true, Bool.and_eq_true, Bool.not_eq_true', List.all_eq_true, List.contains_iff_mem] at hp1
    have hiD : i ∉ D := fun h => by have := hp1.1; simp [h] at this
    simp only [runD] at hr; simp only [segOk] at hp2; split at hr
    · rename_i o ho
      rw [ho] at hp2; simp only [List.all_eq_true, List.contains_iff_mem] at hp2; have hil := (List.getElem?_eq_some_iff.1 ho).1
      have hlen : (planIdx (.b i :: r)).length = 1 + (planIdx r).length := by simp [planIdx, PSeg.idx]; omega
      obtain ⟨f, rfl⟩ : ∃ f, fuel = f + 1 := ⟨fuel - 1, by omega⟩
      have hun : listed.getD i false = false := by
        cases h : listed.getD i false with
        | false => rfl
        | true => exact absurd ((hL i hil).1 h) hiD
      have hri : i ∈ Region.ready .any ops.toArray listed := (ready_iff hs).2 ⟨hun, o, ho, fun p hp => (hL p (hD p (hp2 p hp))).2 (hp2 p hp)⟩
      refine ⟨fun h0 => (by rw [h0] at hri; cases hri), fun x hx => ?_⟩; obtain ⟨hux, ox, hox, hpr⟩ := (ready_iff hs).1 hx; have hxl := (List.getElem?_eq_some_iff.1 hox).1
      have hxi : x = i := by
        rcases hcov x hxl with h | h
        · rw [(hL x hxl).2 h] at hux; cases hux
        · simp only [planIdx, List.map_cons, List.flatten_cons, List.mem_append, PSeg.idx, List.mem_singleton] at h
          rcases h with h | h
          · exact h
          · have h3 := plan_later hp3 x h i (List.mem_append_right _ (by simp [PSeg.idx]))
            have h4 := hcl.ready hox hpr (hT x i h3)
            rw [hun] at h4; cases h4
      subst hxi; rw [ho] at hox; cases hox; have hds : ops.toArray.toList.map (·.dst) = ops.map (·.dst) := by simp
      refine stepA_sound (ops := ops.toArray) (o := o) (by simpa using ho) (fun st' φ' Ss' a' w' hJ hR' => ?_) hR (by rw [hds]; exact hr)
      refine plan_sound hT hK r (D ++ [x]) st' φ' Ss' a' w' _ f (by simpa [PSeg.idx] using hp3) (fun p hp => ?_) (by simpa using hs) (hcl.set hs ho hpr) (fun j hj => ?_) hR' hJ (by omega)
      · rcases List.mem_append.1 hp with h | h
        · exact hD p h
        · simp at h; subst h; exact hil
      · rw [listed_set hs hil]
        split
        · rename_i e; subst e; simp
        · rename_i e
          rw [hL j hj]; simp [e]
    · exact hr.elim
  | .w l i x :: r, D, st, φ, Ss, a, w, listed, fuel, hp, hD, hs, hcl, hL, hR, hr, hf => by
    have hcov := plan_cover hp
    simp only [planOk, Bool.and_eq_true] at hp; obtain ⟨⟨hp1, hp2⟩, hp3⟩ := hp; simp only [PSeg.idx, segOk] at hp1 hp2 hp3; simp only [runD] at hr; split at hr
    rotate_left
    · exact hr.elim
    rename_i o ho
    rw [ho] at hp2
    cases hox : ops[x]? with
    | none => rw [hox] at hp2; simp at hp2
    | some ox =>
    rw [hox] at hp2; simp only [Bool.and_eq_true, decide_eq_true_eq, List.all_eq_true, Bool.or_eq_true, List.contains_iff_mem] at hp2; obtain ⟨hq, ⟨⟨hw, hpo⟩, hinl⟩, hanc⟩ := hp2
    generalize hl' : l ++ [(x, false)] = l' at *
    have hlen' : l'.length = l.length + 1 := by rw [← hl']; simp
    have hlx : l'[l.length]? = some (x, false) := by rw [← hl']; simp
    have hll : ∀ k, k < l.length → l'[k]? = l[k]? := fun k hk => by rw [← hl', List.getElem?_append_left hk]
    have hfm : ∀ (m : List (Nat × Bool)), (∀ x ∈ m, ∃ o, ops[x.1]? = some o) → (m.filterMap fun x => (ops[x.1]?).map fun o => (x.2, o)).length = m.length ∧
        ∀ (k x : Nat) (c : Bool), m[k]? = some ((x, c) : Nat × Bool) → ∃ o, ops[x]? = some o ∧ (m.filterMap fun x => (ops[x.1]?).map fun o => (x.2, o))[k]? = some (c, o) := by
      intro m
      induction m with
      | nil => intro _; exact ⟨rfl, fun k x c h => by simp at h⟩
      | cons y m ih =>
        intro hm; obtain ⟨o, ho⟩ := hm y (by simp); obtain ⟨i1, i2⟩ := ih fun x hx => hm x (by simp [hx])
        have e : ((y :: m).filterMap fun x => (ops[x.1]?).map fun o => (x.2, o)) = (y.2, o) :: (m.filterMap fun x => (ops[x.1]?).map fun o => (x.2, o)) := by
          rw [List.filterMap_cons, ho]; rfl
        rw [e]; refine ⟨by simp [i1], fun k x c h => ?_⟩
        cases k with
        | zero => simp at h; subst h; exact ⟨o, ho, by simp⟩
        | succ k => simpa using i2 k x c (by simpa using h)
    have hex : ∀ x ∈ l', ∃ o, ops[x.1]? = some o := fun x hx => by
      obtain ⟨k, hk⟩ := List.getElem?_of_mem hx; obtain ⟨o, h1, _⟩ := qOk_spec hq k x.1 x.2 hk; exact ⟨o, h1⟩
    obtain ⟨f1, f2⟩ := hfm l' hex; obtain ⟨its, i1, i2, i3⟩ := runQ_its hr
    have hits : ∀ (k : Nat) (x : Nat) (c : Bool), l'[k]? = some ((x, c) : Nat × Bool) → ∃ it o, its[k]? = some it ∧ ops[x]? = some o ∧ it.o = o ∧ (c = false → it.bl = []) ∧
        Q1 P N (ops.map (·.dst)) c o (stM its (pre k) st).env (stM its (pre k) st).heap (fun v bl => v = it.v ∧ bl = it.bl) := fun k x c hk => by
      obtain ⟨o, h1, h2⟩ := f2 k x c hk; obtain ⟨it, h3, h4, h5, h6⟩ := i3 k c o h2; exact ⟨it, o, h3, h1, h4, h5, h6⟩
    have hlen : (planIdx (.w l i x :: r)).length = l'.length + (1 + (planIdx r).length) := by simp [planIdx, PSeg.idx, hl']; omega
    have hno : ∀ (l : List It) (s : St), stM l (fun _ => false) s = s := fun l => by
      induction l with
      | nil => intro s; rfl
      | cons y l ih => intro s; simp only [stM]; exact ih s
    have hidxlt : ∀ p ∈ l'.map (·.1), p < ops.length := fun p hp => by
      obtain ⟨y, hy, rfl⟩ := List.mem_map.1 hp; obtain ⟨o, ho⟩ := hex y hy; exact (List.getElem?_eq_some_iff.1 ho).1
    have hil := (List.getElem?_eq_some_iff.1 ho).1
    have hdisD : ∀ y ∈ l'.map (·.1), y ∉ D := fun y hy hyD => by
      have := List.all_eq_true.1 hp1 y (List.mem_append_left _ hy)
      simp [hyD] at this
    have hiD : i ∉ D := fun h => by
      have := List.all_eq_true.1 hp1 i (List.mem_append_right _ (by simp))
      simp [h] at this
    have hxmem : x ∈ l'.map (·.1) := List.mem_map.2 ⟨(x, false), List.mem_of_getElem? hlx, rfl⟩
    have hmm : l'.map (·.1) = l.map (·.1) ++ [x] := by rw [← hl']; simp
    have hprdo : ∀ p ∈ prd o, p ∈ D ++ l.map (·.1) := fun p hp => by
      rcases hpo p hp with h | h
      · exact List.mem_append_left _ h
      · exact List.mem_append_right _ h
    have hcov2 : ∀ z, z < ops.length → z ∈ D ∨ z ∈ l'.map (·.1) ∨ z = i ∨ z ∈ planIdx r := fun z hz => by
      rcases hcov z hz with h | h
      · exact .inl h
      · simp only [planIdx, List.map_cons, List.flatten_cons, List.mem_append, PSeg.idx, hl'] at h
        rcases h with (h | h) | h
        · exact .inr (.inl h)
        · simp at h; exact .inr (.inr (.inl h))
        · exact .inr (.inr (.inr h))
    have hpl : ∀ z ∈ planIdx r, ∀ y ∈ D ++ (l'.map (·.1) ++ [i]), y ∈ lkT T z := fun z hz y hy => plan_later hp3 z hz y hy
    have hend : ∀ (st' : St) φ' Ss' a' w' (listed' : Array Bool) f', listed'.size = ops.length → Closed ops listed' → (∀ j, j < ops.length → (listed'.getD j false = true ↔ j ∈ D ++ (l'.map (·.1) ++ [i]))) → Rel N w0 B0 φ' Ss' st' a' w' →
        runD P N ops (ops.map (·.dst)) r st' K → (planIdx r).length ≤ f' → wpAny P .any ops.toArray (QR N w0 B0 Q) f' listed' a' w' := fun st' φ' Ss' a' w' l2 f' h1 h2 h3 h4 h5 h6 =>
      plan_sound hT hK r (D ++ (l'.map (·.1) ++ [i])) st' φ' Ss' a' w' l2 f' hp3 (fun p hp => by
        rcases List.mem_append.1 hp with h | h
        · exact hD p h
        · rcases List.mem_append.1 h with h | h
          · exact hidxlt p h
          · simp at h; subst h; exact hil) h1 h2 h3 h4 h5 h6
    refine seg_sound (r := .b i :: r) (rest := 1 + (planIdx r).length) hT hD hdisD hq (fun z hz => ?_) (fun y hy => ?_) (i1.trans f1) hits
      (fun φ' Ss' a' w' listed' fuel' hs' hcl' hL' hR' hf' => ?_)
      l'.length (List.range l'.length) (fun _ => false) φ Ss a w listed fuel (by simp) List.nodup_range (fun k hk => by simpa using hk) (fun k hk => by simp [hk]) hs hcl (fun i hi => (hL i hi).trans ⟨.inl, fun h => h.elim id fun ⟨_, _, _, h⟩ => by cases h⟩) (by rw [hno]; exact hR) (by omega)
    · rcases hcov2 z hz with h | h | h | h
      · exact .inl h
      · exact .inr (.inl h)
      · subst h; exact .inr (.inr (by simp [planIdx, PSeg.idx]))
      · exact .inr (.inr (by simp only [planIdx, List.map_cons, List.flatten_cons, PSeg.idx, List.mem_append]; exact .inr h))
    · have hy' : y = i ∨ y ∈ planIdx r := by simpa [planIdx, PSeg.idx] using hy
      rcases hy' with rfl | hy'
      rotate_left
      · exact .inl fun z hz => hpl y hy' z (List.mem_append_right _ (List.mem_append_left _ hz))
      refine .inr fun fs φ' Ss' a' w' listed' f oy hoy hpy huy hay hs' hcl' hL' hpend hR' hf' => ?_; rw [ho] at hoy; cases hoy
      have hinj : ∀ (k k' : Nat) (x : Nat) (c c' : Bool), l'[k]? = some ((x, c) : Nat × Bool) → l'[k']? = some ((x, c') : Nat × Bool) → k = k' := by
        intro k k' x c c' h1 h2; rcases Nat.lt_trichotomy k k' with hlt | he | hlt
        · obtain ⟨o, _, _, _, h3⟩ := qOk_spec hq k' x c' h2
          have := h3 k x c hlt h1
          simp [pairOk] at this
        · exact he
        · obtain ⟨o, _, _, _, h3⟩ := qOk_spec hq k x c h1
          have := h3 k' x c' hlt h2
          simp [pairOk] at this
      have hdone : ∀ k, k < l.length → fs k = true := fun k hk => by
        obtain ⟨⟨z, c⟩, hz⟩ : ∃ q, l[k]? = some q := ⟨_, List.getElem?_eq_getElem hk⟩
        have hzm : z ∈ l.map (·.1) := List.mem_map.2 ⟨(z, c), List.mem_of_getElem? hz, rfl⟩
        have hz' : l'[k]? = some (z, c) := by rw [hll k hk]; exact hz
        have hzl : z < ops.length := hidxlt z (by rw [hmm]; exact List.mem_append_left _ hzm)
        rcases (hL' z hzl).1 (hay z (hanc z hzm)) with h | ⟨k', c', h1, h2⟩
        · exact absurd h (hdisD z (by rw [hmm]; exact List.mem_append_left _ hzm))
        · have := hinj k k' z c c' hz' h1
          subst this; exact h2
      have hfx : fs l.length = false := by
        obtain ⟨k, hk, hfk⟩ := hpend; rcases Nat.lt_or_ge k l.length with h | h
        · rw [hdone k h] at hfk; cases hfk
        · have : k = l.length := by omega
          rw [← this]; exact hfk
      obtain ⟨itx, ox', e1, e2, e3, e4, e5⟩ := hits l.length x false hlx; rw [hox] at e2; cases e2
      have hst1 : stM its fs st = stM its (pre l.length) st := stM_congr _ _ _ _ fun k hk => by
        rcases Nat.lt_trichotomy k l.length with h | h | h
        · rw [hdone k h]; simp [pre, h]
        · subst h; rw [hfx]; simp [pre]
        · have := i1.trans f1; omega
      have hst2 := stM_snoc its l.length itx st (by have := i1.trans f1; omega) e1
      have hJ : runA P N (ops.map (·.dst)) [ox] (stM its (pre l.length) st) (fun s => runA P N (ops.map (·.dst)) [o] s fun s => runD P N ops (ops.map (·.dst)) r s K) := by
        refine w_q1 hw e5 ?_; rw [hst2] at i2; have e6 := e4 rfl
        simp only [It.app, e6, List.map_nil, List.append_nil, e3] at i2; exact i2
      have hJ2 := w_swap2 hw hJ
      have hds : ops.toArray.toList.map (·.dst) = ops.map (·.dst) := by simp
      rw [hst1] at hR'; have hxl := (List.getElem?_eq_some_iff.1 hox).1
      refine stepA_sound (ops := ops.toArray) (o := o) (by simpa using ho) (fun st' φ2 Ss2 a2 w2 hJ3 hR2 => ?_) hR' (by rw [hds]; exact hJ2); obtain ⟨f', rfl⟩ : ∃ f', f = f' + 1 := ⟨f - 1, by omega⟩
      have hpx : ∀ p ∈ prd ox, p ∈ D ++ (l.map (·.1) ++ [y]) := fun p hp => by
        obtain ⟨o2, g1, g2, _, _⟩ := qOk_spec hq l.length x false hlx; rw [hox] at g1; cases g1; rcases g2 p hp with h | h | ⟨k', c', h1, h2⟩
        · exact List.mem_append_left _ h
        · simp at h
        · refine List.mem_append_right _ (List.mem_append_left _ ?_)
          rw [hll k' h1] at h2; exact List.mem_map.2 ⟨(p, c'), List.mem_of_getElem? h2, rfl⟩
      have hxnl : x ∉ l.map (·.1) := fun h => by
        obtain ⟨⟨x', c⟩, hm, rfl⟩ := List.mem_map.1 h; obtain ⟨k, hk⟩ := List.getElem?_of_mem hm; have hkl := (List.getElem?_eq_some_iff.1 hk).1
        have := hinj k l.length x' c false (by rw [hll k hkl]; exact hk) hlx
        omega
      have hxy : x ≠ y := fun e => hinl (e ▸ hxmem)
      refine b_step hT (D := D ++ (l.map (·.1) ++ [y])) (L := planIdx r) hox (fun h => by
        simp only [List.mem_append, List.mem_singleton] at h; rcases h with h | h | h
        · exact hdisD x hxmem h
        · exact hxnl h
        · exact hxy h) hpx (fun p hp => ?_) (fun z hz => ?_) (fun z hz => hpl z hz x (List.mem_append_right _ (List.mem_append_left _ hxmem))) (by simpa using hs') (hcl'.set hs' ho hpy) (fun j hj => ?_) hR2 hJ3 (fun st3 φ3 Ss3 a3 w3 l3 h1 h2 h3 h4 h5 => hend st3 φ3 Ss3 a3 w3 l3 f' h1 h2 (fun j hj => ?_) h4 h5 (by omega))
      · simp only [List.mem_append, List.mem_singleton] at hp
        rcases hp with h | h | h
        · exact hD p h
        · exact hidxlt p (by rw [hmm]; exact List.mem_append_left _ h)
        · subst h; exact hil
      · rcases hcov2 z hz with h | h | h | h
        · exact .inl (List.mem_append_left _ h)
        · rw [hmm] at h
          rcases List.mem_append.1 h with h | h
          · exact .inl (List.mem_append_right _ (List.mem_append_left _ h))
          · simp at h; exact .inr (.inl h)
        · subst h; exact .inl (by simp)
        · exact .inr (.inr h)
      · rw [listed_set hs' hil]
        split
        · rename_i e; subst e; simp
        · rename_i e
          rw [hL' j hj]; simp only [List.mem_append, List.mem_singleton]; constructor
          · rintro (h | ⟨k, c, h1, h2⟩)
            · exact .inl h
            · have hkl : k < l.length := by
                have := (List.getElem?_eq_some_iff.1 h1).1
                rcases Nat.lt_or_ge k l.length with h | h
                · exact h
                · have : k = l.length := by omega
                  rw [this, hfx] at h2; cases h2
              rw [hll k hkl] at h1; exact .inr (.inl (List.mem_map.2 ⟨(j, c), List.mem_of_getElem? h1, rfl⟩))
          · rintro (h | h | h)
            · exact .inl h
            · obtain ⟨⟨j', c⟩, hm, rfl⟩ := List.mem_map.1 h
              obtain ⟨k, hk⟩ := List.getElem?_of_mem hm; have hkl := (List.getElem?_eq_some_iff.1 hk).1
              exact .inr ⟨k, c, by rw [hll k hkl]; exact hk, hdone k hkl⟩
            · exact absurd h e
      · rw [h3 j hj, hmm]
        simp only [List.mem_append, List.mem_singleton]; constructor
        · rintro ((h | h | h) | h)
          · exact .inl h
          · exact .inr (.inl (.inl h))
          · exact .inr (.inr h)
          · exact .inr (.inl (.inr h))
        · rintro (h | (h | h) | h)
          · exact .inl (.inl h)
          · exact .inl (.inr (.inl h))
          · exact .inr h
          · exact .inl (.inr (.inr h))
    · obtain ⟨f', rfl⟩ : ∃ f', fuel' = f' + 1 := ⟨fuel' - 1, by omega⟩
      refine b_step hT (D := D ++ l'.map (·.1)) (L := planIdx r) ho (fun h => by
        rcases List.mem_append.1 h with h | h
        · exact hiD h
        · exact hinl h) (fun p hp => ?_) (fun p hp => ?_) (fun z hz => ?_) (fun z hz => hpl z hz i (List.mem_append_right _ (List.mem_append_right _ (by simp)))) hs' hcl' hL' hR' i2 (fun st3 φ3 Ss3 a3 w3 l3 h1 h2 h3 h4 h5 => hend st3 φ3 Ss3 a3 w3 l3 f' h1 h2 (fun j hj => by rw [h3 j hj, List.append_assoc]) h4 h5 (by omega))
      · have := hprdo p hp
        rw [hmm]; simp only [List.mem_append] at this ⊢; rcases this with h | h
        · exact .inl h
        · exact .inr (.inl h)
      · rcases List.mem_append.1 hp with h | h
        · exact hD p h
        · exact hidxlt p h
      · rcases hcov2 z hz with h | h | h | h
        · exact .inl (List.mem_append_left _ h)
        · exact .inl (List.mem_append_right _ h)
        · exact .inr (.inl h)
        · exact .inr (.inr h)
  | .q l :: r, D, st, φ, Ss, a, w, listed, fuel, hp, hD, hs, hcl, hL, hR, hr, hf => by
    have hcov := plan_cover hp
    simp only [planOk, Bool.and_eq_true] at hp; obtain ⟨⟨hp1, hp2⟩, hp3⟩ := hp; simp only [PSeg.idx, segOk] at hp1 hp2 hp3; simp only [runD] at hr
    have hfm : ∀ (m : List (Nat × Bool)), (∀ x ∈ m, ∃ o, ops[x.1]? = some o) → (m.filterMap fun x => (ops[x.1]?).map fun o => (x.2, o)).length = m.length ∧
        ∀ (k x : Nat) (c : Bool), m[k]? = some ((x, c) : Nat × Bool) → ∃ o, ops[x]? = some o ∧ (m.filterMap fun x => (ops[x.1]?).map fun o => (x.2, o))[k]? = some (c, o) := by
      intro m
      induction m with
      | nil => intro _; exact ⟨rfl, fun k x c h => by simp at h⟩
      | cons y m ih =>
        intro hm; obtain ⟨o, ho⟩ := hm y (by simp); obtain ⟨i1, i2⟩ := ih fun x hx => hm x (by simp [hx])
        have e : ((y :: m).filterMap fun x => (ops[x.1]?).map fun o => (x.2, o)) = (y.2, o) :: (m.filterMap fun x => (ops[x.1]?).map fun o => (x.2, o)) := by
          rw [List.filterMap_cons, ho]; rfl
        rw [e]; refine ⟨by simp [i1], fun k x c h => ?_⟩
        cases k with
        | zero => simp at h; subst h; exact ⟨o, ho, by simp⟩
        | succ k => simpa using i2 k x c (by simpa using h)
    have hex : ∀ x ∈ l, ∃ o, ops[x.1]? = some o := fun x hx => by
      obtain ⟨k, hk⟩ := List.getElem?_of_mem hx; obtain ⟨o, h1, _⟩ := qOk_spec hp2 k x.1 x.2 hk; exact ⟨o, h1⟩
    obtain ⟨f1, f2⟩ := hfm l hex; obtain ⟨its, i1, i2, i3⟩ := runQ_its hr
    have hits : ∀ (k : Nat) (x : Nat) (c : Bool), l[k]? = some ((x, c) : Nat × Bool) → ∃ it o, its[k]? = some it ∧ ops[x]? = some o ∧ it.o = o ∧ (c = false → it.bl = []) ∧
        Q1 P N (ops.map (·.dst)) c o (stM its (pre k) st).env (stM its (pre k) st).heap (fun v bl => v = it.v ∧ bl = it.bl) := fun k x c hk => by
      obtain ⟨o, h1, h2⟩ := f2 k x c hk; obtain ⟨it, h3, h4, h5, h6⟩ := i3 k c o h2; exact ⟨it, o, h3, h1, h4, h5, h6⟩
    have hlen : (planIdx (.q l :: r)).length = l.length + (planIdx r).length := by simp [planIdx, PSeg.idx]
    have hno : ∀ (l : List It) (s : St), stM l (fun _ => false) s = s := fun l => by
      induction l with
      | nil => intro s; rfl
      | cons y l ih => intro s; simp only [stM]; exact ih s
    have hidxlt : ∀ p ∈ l.map (·.1), p < ops.length := fun p hp => by
      obtain ⟨y, hy, rfl⟩ := List.mem_map.1 hp; obtain ⟨o, ho⟩ := hex y hy; exact (List.getElem?_eq_some_iff.1 ho).1
    refine seg_sound (rest := (planIdx r).length) hT hD (fun x hx hxD => ?_) hp2 (fun x hx => ?_) (fun x hx => .inl fun z hz => plan_later hp3 x hx z (List.mem_append_right _ hz)) (i1.trans f1) hits
      (fun φ' Ss' a' w' listed' fuel' hs' hcl' hL' hR' hf' => plan_sound hT hK r (D ++ l.map (·.1)) _ φ' Ss' a' w' listed' fuel' hp3 (fun p hp => ?_) hs' hcl' hL' hR' i2 hf')
      l.length (List.range l.length) (fun _ => false) φ Ss a w listed fuel (by simp) List.nodup_range (fun k hk => by simpa using hk) (fun k hk => by simp [hk]) hs hcl (fun i hi => (hL i hi).trans ⟨.inl, fun h => h.elim id fun ⟨_, _, _, h⟩ => by cases h⟩) (by rw [hno]; exact hR) (by omega)
    · have := List.all_eq_true.1 hp1 x hx
      simp [hxD] at this
    · rcases hcov x hx with h | h
      · exact .inl h
      · right; simpa [planIdx, PSeg.idx] using h
    · rcases List.mem_append.1 hp with h | h
      · exact hD p h
      · exact hidxlt p h
theorem SW.draw {id : Nat} {l : List Oper} {Q : Exit → St → Prop} {st : St} (hm : P.follows .mixedOrders = true) (plan : List PSeg) (hp : drawOk l plan = true) (hn : (planIdx plan).length = l.length) (h : runD P N l (l.map (·.dst)) plan st (Q .normal)) :
    SW P N (.region id l.toArray true) Q st := fun w0 B0 φ Ss a w hR => by
  refine wp_region_any hm ?_; have hT : TOk l (ancT l (planIdx plan) []) := ancT_ok _ fun x z hz => by simp [lkT] at hz
  have hR' : Rel N w0 B0 φ Ss st a { w with drawn := w.drawn + 1 } := hR.drew _
  have hrep : ∀ i, (Array.replicate l.length false).getD i false = false := fun i => by
    by_cases hi : i < l.length
    · simp [hi]
    · simp [hi]
  refine plan_sound hT (K := Q .normal) (fun _ h => h) plan [] st φ Ss a _ _ _ hp (fun p hp => by simp at hp) (by simp) (fun y o hy => ?_) (fun i hi => ?_) hR' h (by simp; omega)
  · rw [show l.toArray.size = l.length by simp, hrep] at hy; cases hy
  · rw [show l.toArray.size = l.length by simp, hrep]; simp
theorem SW.drawK {id : Nat} {l : List Oper} {y : Code} {Q : Exit → St → Prop} {st : St} (hm : P.follows .mixedOrders = true) (plan : List PSeg) (hp : drawOk l plan = true) (hn : (planIdx plan).length = l.length)
    (h : ∀ K : St → Prop, (∀ st, SW P N y Q st → K st) → runD P N l (l.map (·.dst)) plan st K) : SW P N (.seq (.region id l.toArray true) y) Q st :=
  SW.seq (SW.draw hm plan hp hn (h _ fun _ h => h))
theorem SW.drawE {id : Nat} {l : List Oper} {Q : Exit → St → Prop} {st : St} (hm : P.follows .mixedOrders = true) (plan : List PSeg) (hp : drawOk l plan = true) (hn : (planIdx plan).length = l.length)
    (h : ∀ K : St → Prop, (∀ st, Q .normal st → K st) → runD P N l (l.map (·.dst)) plan st K) : SW P N (.region id l.toArray true) Q st :=
  SW.draw hm plan hp hn (h _ fun _ h => h)
end
end HK
