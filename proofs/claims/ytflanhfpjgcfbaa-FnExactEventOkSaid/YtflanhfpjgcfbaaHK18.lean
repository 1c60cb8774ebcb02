/-
  My own text (road H): HK18.
-/
import Derived.Test.YtflanhfpjgcfbaaHKC
namespace HK
open Go

inductive Cls where
  | pure | alloc | store | app | clr | call | bad
def clsC : Call → Cls
  | { callee := .builtin .append, .. } => .app
  | { callee := .builtin .clear, .. } => .clr
  | { callee := .builtin _, .. } => .pure
  | { callee := .value _, .. } => .call
  | { callee := .invoke _ _, .. } => .bad
def cls : Op → Cls
  | .alloc _ | .box _ _ | .buildSlice _ _ _ | .makeSlice _ _ _ => .alloc
  | .store _ _ _ => .store
  | .call c => clsC c
  | _ => .pure

inductive GV where
  | free
  | on (g : Bool)
  | bad
def gb (want b : Bool) : Bool := if want then b else !b
def gval (ds : List (Option Tmp)) (env : Env) : Option (Nat × Bool) → GV
  | none => .free
  | some (j, want) => match ds[j]? with
    | some (some t) => match lk env t with
      | .bool b => .on (gb want b)
      | .cond g (.bool b) => .on (g && gb want b)
      | _ => .bad
    | _ => .bad

/-- What is called, and with what. -/
def calleeOf (env : Env) (c : Call) : Option (FuncId × List AV) := match c.callee with
  | .value f => match st1 (ev env f) with
    | .fn (.func fid) first cap => some (fid, first ++ (c.args.toList.map fun x => st1 (ev env x)) ++ cap)
    | _ => none
  | _ => none
def calleeGk (env : Env) (c : Call) : Prop := match c.callee with
  | .value f => gk (ev env f) ∧ allGk (ev env) c.args.toList
  | _ => False

/-- The operations of a region, in the order of the text. -/
def runA (P : Program) (N : Sz) (ds : List (Option Tmp)) : List Oper → St → (St → Prop) → Prop
  | [], st, K => K st
  | o :: rest, st, K => dOk N o.dst = true ∧ match gval ds st.env o.guard with
    | .free => match cls o.op with
      | .pure => (evP P st.heap (ev st.env) o.op).1 ∧ runA P N ds rest ⟨putE st.env o.dst (evP P st.heap (ev st.env) o.op).2, st.heap⟩ K
      | .alloc => (evA P (ev st.env) o.op).ok ∧ runA P N ds rest ⟨putE st.env o.dst ((evA P (ev st.env) o.op).val st.heap.length), st.heap ++ [some (evA P (ev st.env) o.op).blk]⟩ K
      | .store => match o.op with
        | .store t a v => (evS P st.heap t (ev st.env a) (ev st.env v)).ok ∧ runA P N ds rest ⟨putE st.env o.dst .undef, (evS P st.heap t (ev st.env a) (ev st.env v)).h⟩ K
        | _ => False
      | .app => match o.op with
        | .call c => match c.args.toList, c.argTypes.toList with
          | [s, x], [t, xt] => (evApp P st.heap t xt (ev st.env s) (ev st.env x)).1 ∧
            runA P N ds rest ⟨putE st.env o.dst (evApp P st.heap t xt (ev st.env s) (ev st.env x)).2.2, (evApp P st.heap t xt (ev st.env s) (ev st.env x)).2.1⟩ K
          | _, _ => False
        | _ => False
      | .clr => match o.op with
        | .call c => match c.args.toList, c.argTypes.toList with
          | [x], [t] => (evClr P st.heap t (ev st.env x)).1 ∧ runA P N ds rest ⟨putE st.env o.dst .undef, (evClr P st.heap t (ev st.env x)).2⟩ K
          | _, _ => False
        | _ => False
      | .call => match o.op with
        | .call c => match calleeOf st.env c with
          | some (fid, as) => calleeGk st.env c ∧ CallS P fid as st.heap (fun out h' => runA P N ds rest ⟨putE st.env o.dst out, h'⟩ K)
          | none => False
        | _ => False
      | .bad => False
    | .on g => match cls o.op with
      | .pure => (g = true → (evP P st.heap (ev st.env) o.op).1) ∧ runA P N ds rest ⟨putE st.env o.dst (.cond g (evP P st.heap (ev st.env) o.op).2), st.heap⟩ K
      | .call => match o.op with
        | .call c => match calleeOf st.env c with
          | some (fid, as) => ∃ out, (g = true → calleeGk st.env c ∧ CallS P fid as st.heap (fun o h' => o = out ∧ h' = st.heap)) ∧ runA P N ds rest ⟨putE st.env o.dst (.cond g out), st.heap⟩ K
          | none => False
        | _ => False
      | _ => False
    | .bad => False

def QR (N : Sz) (w0 : World) (B0 : Cx) (Q : Exit → St → Prop) : Exit → Act → World → Prop := fun e a w => ∃ st φ Ss, Q e st ∧ Rel N w0 B0 φ Ss st a w

section
variable {P : Program} {N : Sz} {w0 : World} {B0 : Cx} {φ : Refs} {Ss : List (List Nat)} {st : St} {a : Act} {w : World}

theorem act_eval (h : Rel N w0 B0 φ Ss st a w) (x : Operand) : VR w (Own Ss) φ (ev st.env x) (a.eval x) [] := by
  cases x with
  | tmp t => exact h.env t
  | const v => exact VR.absV v
  | global g => exact .con _
  | func f => exact .fn (.func f) [] [] [] [] .nil .nil

theorem gval_free {ops : Array Oper} {o : Oper} (hg : gval (ops.toList.map (·.dst)) st.env o.guard = .free) : Region.wanted o (yielded ops a.tmps) = true := by
  unfold gval at hg
  split at hg
  · rename_i h; simp [Region.wanted, h]
  · split at hg
    · split at hg <;> cases hg
    · cases hg
theorem getD_bool {tmps : Array Value} {t : Nat} {b : Bool} (h : tmps.getD t Go.undef = .bool b) : tmps[t]? = some (.bool b) := by
  rw [Array.getD_eq_getD_getElem?] at h
  cases hx : tmps[t]? with
  | none => rw [hx] at h; cases h
  | some v => rw [hx] at h; simp at h; rw [h]
theorem gval_on (h : Rel N w0 B0 φ Ss st a w) {ops : Array Oper} {o : Oper} {g : Bool} (hg : gval (ops.toList.map (·.dst)) st.env o.guard = .on g) : Region.wanted o (yielded ops a.tmps) = g := by
  unfold gval at hg
  split at hg
  · cases hg
  · rename_i j want hgu
    split at hg
    · rename_i t ht
      have hd : (ops[j]?).bind (·.dst) = some t := by
        rw [List.getElem?_map, Array.getElem?_toList] at ht
        cases hj : ops[j]? with
        | none => rw [hj] at ht; cases ht
        | some o' => rw [hj] at ht; simpa using ht
      have hv := h.env t
      have hy : yielded ops a.tmps j = match a.tmps[t]? with | some (.bool b) => some b | _ => none := by
        unfold yielded; rw [hd]; rfl
      split at hg
      · rename_i b hb
        cases hg
        rw [hb] at hv
        generalize hx : a.tmps.getD t Go.undef = x at hv
        cases hv
        have := getD_bool hx
        simp only [Region.wanted, hgu, hy, this]
        cases want <;> cases b <;> rfl
      · rename_i g' b hb
        cases hg
        rw [hb] at hv
        generalize hx : a.tmps.getD t Go.undef = x at hv
        cases hv with
        | condT _ _ _ hv =>
          cases hv
          have := getD_bool hx
          simp only [Region.wanted, hgu, hy, this]
          cases want <;> cases b <;> rfl
        | condF _ =>
          simp only [Region.wanted, hgu, hy, Bool.false_and]
          rw [Array.getD_eq_getD_getElem?] at hx
          cases hq : a.tmps[t]? with
          | none => cases want <;> rfl
          | some v => rw [hq] at hx; simp at hx; subst hx; cases want <;> rfl
      · cases hg
    · cases hg

/-- One operation that only computes. -/
theorem pure_upon (h : Rel N w0 B0 φ Ss st a w) {o : Oper} (ok : (evP P st.heap (ev st.env) o.op).1) :
    ∃ y, (execOp a.eval o).run P w = .ok (.value y) w ∧ VR w (Own Ss) φ (evP P st.heap (ev st.env) o.op).2 y [] :=
  evP_sound h.heap (fun x _ => act_eval h x) ok

theorem Rel.made (h : Rel N w0 B0 φ Ss st a w) {w' : World} {b : Blk} {s : Option Nat} {y : Value} (hm : Made w w' (Own Ss) φ b s y) :
    ∃ φ' Ss', Rel N w0 B0 φ' Ss' ⟨st.env, st.heap ++ [some b]⟩ a w' ∧ VR w' (Own Ss') φ' (AR.val ⟨True, b, s⟩ st.heap.length) y [] := by
  obtain ⟨c, T, vs, h1, h2, h3, h4, h5, h6, h7, h8, h9⟩ := hm
  have hφ := h.fresh st.heap.length (Nat.le_refl _)
  have e : (Ss ++ [[]]).flatten = Ss.flatten := by simp
  have h8' : CR w (Own (Ss ++ [[]])) φ b.es.flatten vs [] := by unfold Own at h8 ⊢; rw [e]; exact h8
  have hR := h.slot.new (id := st.heap.length) (by simp) hφ (by rw [← h.len]; simp) h1 h2 h3 h4 b h5 h6 h7 h8'
  simp only [set_end] at hR
  refine ⟨_, _, hR, ?_⟩
  have hk : upd φ st.heap.length (some ⟨w.heap.size, 0, c.size, b.sz⟩) st.heap.length = some (some ⟨w.heap.size, 0, c.size, b.sz⟩) := by unfold upd; rw [if_pos rfl]
  cases s with
  | none =>
    subst h9
    have := VR.ptr (w := w') (own := Own ((Ss ++ [[]]).set st.heap.length [w.heap.size])) st.heap.length 0 0 _ hk
    simpa [AR.val] using this
  | some l =>
    obtain ⟨cap, rfl, hl, hc⟩ := h9
    have := VR.sl (w := w') (own := Own ((Ss ++ [[]]).set st.heap.length [w.heap.size])) st.heap.length 0 l cap _ hk hl (by simpa using hc)
    simpa [AR.val] using this

theorem callFunc_run {f : FuncId} (he : Enter P f) (args : Array Value) : (callFunc f args).run P w = .ok (.enter f args) w := by
  obtain ⟨fn, h1, h2, h3⟩ := he
  simp [callFunc, h1, h2, h3]

theorem call_run (h : Rel N w0 B0 φ Ss st a w) {o : Oper} {c : Call} (ho : o.op = .call c) {fid : FuncId} {as : List AV} (hc : calleeOf st.env c = some (fid, as)) (hg : calleeGk st.env c) (he : Enter P fid) :
    ∃ vs : List Value, (execOp a.eval o).run P w = .ok (.enter fid vs.toArray) w ∧ CR w (Own Ss) φ as vs [] := by
  unfold calleeOf at hc
  unfold calleeGk at hg
  split at hc
  · rename_i f hcal
    split at hc
    · rename_i fid' first cap hf
      cases hc
      rw [hcal] at hg
      simp only at hg
      have hv := (act_eval h f).strip hg.1
      rw [hf] at hv
      generalize hx : a.eval f = x at hv
      cases hv with
      | fn _ _ _ fs cs k1 k2 =>
        have k3 := cr_map (w := w) (own := Own Ss) (φ := φ) (ρ := ev st.env) (r := a.eval) (l := c.args.toList) (fun y _ => act_eval h y) hg.2
        refine ⟨fs ++ c.args.toList.map a.eval ++ cs, ?_, by simpa using (k1.app k3).app k2⟩
        obtain ⟨dst, op, ty, pos, after, guard⟩ := o
        simp only at ho
        subst ho
        obtain ⟨callee, args, ats⟩ := c
        simp only at hcal
        subst hcal
        have e : (fs.toArray ++ Array.map a.eval args ++ cs.toArray) = (fs ++ args.toList.map a.eval ++ cs).toArray := by
          apply Array.ext'; simp
        simp only [execOp, resolve, hx, Deferred.ofValue, Sem.run_bind, Sem.run_pure, Result.andThen_ok, invoke, e]
        exact callFunc_run he _
    · cases hc
  · cases hc

theorem runA_sound {ops : Array Oper} {Q : Exit → St → Prop} {K : St → Prop} (hK : ∀ st, K st → Q .normal st) :
    ∀ (l : List Oper) {φ : Refs} {Ss : List (List Nat)} {st : St} {a : Act} {w : World}, Rel N w0 B0 φ Ss st a w → runA P N (ops.toList.map (·.dst)) l st K → wpList P ops (QR N w0 B0 Q) l a w
  | [], _, _, _, _, _, h, hr => ⟨_, _, _, hK _ hr, h⟩
  | o :: rest, φ, Ss, st, a, w, h, hr => by
    have ih := fun {φ : Refs} {Ss : List (List Nat)} {st : St} {a : Act} {w : World} => runA_sound (ops := ops) hK rest (φ := φ) (Ss := Ss) (st := st) (a := a) (w := w)
    simp only [runA] at hr
    obtain ⟨hd, hr⟩ := hr
    unfold wpList
    cases hgv : gval (ops.toList.map (·.dst)) st.env o.guard with
    | bad => rw [hgv] at hr; exact hr.elim
    | free =>
      rw [hgv] at hr
      simp only at hr
      rw [if_pos (gval_free hgv)]
      left
      unfold Oper.wp
      cases hcl : cls o.op with
      | bad => rw [hcl] at hr; exact hr.elim
      | pure =>
        rw [hcl] at hr
        simp only at hr
        obtain ⟨y, hy, hv⟩ := pure_upon h hr.1
        rw [hy]
        exact ih (h.put hd hv) hr.2
      | alloc =>
        rw [hcl] at hr
        simp only at hr
        obtain ⟨y, w', hy, hm⟩ := evA_sound (own := Own Ss) (φ := φ) (w := w) (o := o) (fun x _ => act_eval h x) hr.1
        obtain ⟨φ', Ss', hR, hv⟩ := h.made hm
        rw [hy]
        exact ih (hR.put hd hv) hr.2
      | store =>
        rw [hcl] at hr
        simp only at hr
        split at hr
        · rename_i t pa va hop
          obtain ⟨w', Ss', hrun, hR⟩ := store_sound (P := P) h (act_eval h pa) (act_eval h va) hr.1
          have : (execOp a.eval o).run P w = .ok .skip w' := by
            unfold execOp; rw [hop]
            simp only [Sem.run_bind, hrun, Result.andThen_ok, Sem.run_pure]
          rw [this]
          exact ih (hR.put hd (.undef _)) hr.2
        · exact hr.elim
      | app =>
        rw [hcl] at hr
        simp only at hr
        split at hr
        · rename_i c hop
          split at hr
          · rename_i s x t xt ha ht
            obtain ⟨y, w', φ', Ss', hrun, hR, hv⟩ := app_sound (P := P) (ty := o.type) h (act_eval h s) (act_eval h x) hr.1
            have : (execOp a.eval o).run P w = .ok (.value y) w' := by
              have hcc : c.callee = .builtin .append := by
                rw [hop] at hcl
                obtain ⟨callee, args, ats⟩ := c
                unfold cls clsC at hcl
                cases callee with
                | value _ => cases hcl
                | invoke _ _ => cases hcl
                | builtin b => cases b <;> first | rfl | (simp at hcl)
              obtain ⟨callee, args, ats⟩ := c
              simp only at ha ht hcc
              subst hcc
              have ea : args = #[s, x] := by rw [← Array.toArray_toList (xs := args), ha]
              have et : ats = #[t, xt] := by rw [← Array.toArray_toList (xs := ats), ht]
              subst ea; subst et
              unfold execOp; rw [hop]
              simp [resolve, invoke, builtin, hrun]
            rw [this]
            exact ih (hR.put hd hv) hr.2
          · exact hr.elim
        · exact hr.elim
      | clr =>
        rw [hcl] at hr
        simp only at hr
        split at hr
        · rename_i c hop
          split at hr
          · rename_i x t ha ht
            obtain ⟨w', Ss', hrun, hR⟩ := clr_sound (P := P) (ty := o.type) h (act_eval h x) hr.1
            have : (execOp a.eval o).run P w = .ok (.value (.tuple #[])) w' := by
              have hcc : c.callee = .builtin .clear := by
                rw [hop] at hcl
                obtain ⟨callee, args, ats⟩ := c
                unfold cls clsC at hcl
                cases callee with
                | value _ => cases hcl
                | invoke _ _ => cases hcl
                | builtin b => cases b <;> first | rfl | (simp at hcl)
              obtain ⟨callee, args, ats⟩ := c
              simp only at ha ht hcc
              subst hcc
              have ea : args = #[x] := by rw [← Array.toArray_toList (xs := args), ha]
              have et : ats = #[t] := by rw [← Array.toArray_toList (xs := ats), ht]
              subst ea; subst et
              unfold execOp; rw [hop]
              simp [resolve, invoke, builtin, hrun]
            rw [this]
            exact ih (hR.put hd (.undef _)) hr.2
          · exact hr.elim
        · exact hr.elim
      | call =>
        rw [hcl] at hr
        simp only at hr
        split at hr
        · rename_i c hop
          split at hr
          · rename_i fid as hc
            obtain ⟨vs, hrun, hcr⟩ := call_run h hop hc hr.1 hr.2.1
            rw [hrun]
            refine (hr.2.2 φ Ss w vs h.hp hcr).mono fun e w' ⟨v, out, h', φ', Ss', e1, e2, e3, e4, e5, e6, e7⟩ => ?_
            subst e1
            exact ih ((h.call e3 e5 e6 e7).put hd e4) e2
          · exact hr.elim
        · exact hr.elim
    | on g =>
      rw [hgv] at hr
      simp only at hr
      have hw := gval_on h hgv
      rw [hw]
      cases hcl : cls o.op with
      | bad => rw [hcl] at hr; exact hr.elim
      | alloc => rw [hcl] at hr; exact hr.elim
      | store => rw [hcl] at hr; exact hr.elim
      | app => rw [hcl] at hr; exact hr.elim
      | clr => rw [hcl] at hr; exact hr.elim
      | pure =>
        rw [hcl] at hr
        simp only at hr
        cases g with
        | true =>
          rw [if_pos rfl]
          left
          obtain ⟨y, hy, hv⟩ := pure_upon h (hr.1 rfl)
          unfold Oper.wp
          rw [hy]
          exact ih (h.put hd (.condT _ _ _ hv)) hr.2
        | false =>
          rw [if_neg (by simp)]
          exact ih (h.put hd (.condF _)) hr.2
      | call =>
        rw [hcl] at hr
        simp only at hr
        split at hr
        · rename_i c hop
          split at hr
          · rename_i fid as hc
            obtain ⟨out, hr1, hr2⟩ := hr
            cases g with
            | true =>
              rw [if_pos rfl]
              left
              obtain ⟨hg, hcs⟩ := hr1 rfl
              obtain ⟨vs, hrun, hcr⟩ := call_run h hop hc hg hcs.1
              unfold Oper.wp
              rw [hrun]
              refine (hcs.2 φ Ss w vs h.hp hcr).mono fun e w' ⟨v, out', h', φ', Ss', e1, e2, e3, e4, e5, e6, e7⟩ => ?_
              obtain ⟨rfl, rfl⟩ := e2
              subst e1
              exact ih ((h.call e3 e5 e6 e7).put hd (.condT _ _ _ e4)) hr2
            | false =>
              rw [if_neg (by simp)]
              exact ih (h.put hd (.condF _)) hr2
          · exact hr.elim
        · exact hr.elim
end
end HK
