import Derived.Test.YteeefpifkepbpaaEG2d
import Derived.RangeFuncNested
import Derived.TacticsIn
/-
  My own texts (road H): HK53.
-/
set_option linter.unusedVariables false
set_option linter.unusedSimpArgs false
namespace HK
open Go
def FW (ro : Option Nat) : Fence := { Fence.wide with round := ro }
theorem calls_FW {ro : Option Nat} {n : Nat} {P : Program} {f : FuncId} {args : Array Value} {w : World} {R : Ending → World → Prop} (h : Calls P f args w R) : CallsIn (FW ro) n P f args w R := (callsIn_wide (n := n)).2 h
theorem put_ds {ds : List Deferred} (t : Array Value) (d : Option Tmp) (v : Value) : (⟨((⟨t, []⟩ : Act).put d v).tmps, ds⟩ : Act) = (⟨t, ds⟩ : Act).put d v := by cases d <;> rfl
theorem put_nilE (t : Array Value) (d : Option Tmp) (v : Value) : (⟨t, []⟩ : Act).put d v = ⟨((⟨t, []⟩ : Act).put d v).tmps, []⟩ := by cases d <;> rfl
theorem nodef {o : Oper} (h : cls o.op ≠ .pure) : ∀ c, o.op ≠ .defer c := fun c e => h (by rw [e]; rfl)
theorem nodefP {P : Program} {h : Heap} {ρ : Operand → AV} {o : Oper} (ok : (evP P h ρ o.op).1) : ∀ c, o.op ≠ .defer c := fun c e => by rw [e] at ok; exact ok
def QD (N : Sz) (w0 : World) (B0 : Cx) (ds : List Deferred) (Q : Exit → St → Prop) : Exit → Act → World → Prop := fun e a w => a.defers = ds ∧ QR N w0 B0 Q e ⟨a.tmps, []⟩ w
section
variable {P : Program} {N : Sz} {w0 : World} {B0 : Cx} {φ : Refs} {Ss : List (List Nat)} {st : St} {a : Act} {w : World}
theorem put_nil (t : Array Value) (d : Option Tmp) (v : Value) (h : Rel N w0 B0 φ Ss st ((⟨t, []⟩ : Act).put d v) w) : Rel N w0 B0 φ Ss st ⟨((⟨t, []⟩ : Act).put d v).tmps, []⟩ w := put_nilE t d v ▸ h
theorem runI_app {ops : Array Oper} {Q : Exit → Act → World → Prop} {K : St → Prop} {more : List Oper} {ro : Option Nat} {ds : List Deferred} {n : Nat} (hK : ∀ st φ Ss t w, K st → Rel N w0 B0 φ Ss st ⟨t, []⟩ w → wpListIn (FW ro) n P ops Q more ⟨t, ds⟩ w) :
    ∀ (l : List Oper) {φ : Refs} {Ss : List (List Nat)} {st : St} {tm : Array Value} {w : World}, Rel N w0 B0 φ Ss st ⟨tm, []⟩ w → runA P N (ops.toList.map (·.dst)) l st K → wpListIn (FW ro) n P ops Q (l ++ more) ⟨tm, ds⟩ w
  | [], _, _, _, _, _, h, hr => hK _ _ _ _ _ hr h
  | o :: rest, φ, Ss, st, tm, w, h, hr => by
    have ih := fun {φ : Refs} {Ss : List (List Nat)} {st : St} {d : Option Tmp} {v : Value} {w : World} (hR : Rel N w0 B0 φ Ss st ((⟨tm, []⟩ : Act).put d v) w) (hr : runA P N (ops.toList.map (·.dst)) rest st K) =>
      put_ds (ds := ds) tm d v ▸ runI_app (ops := ops) (ro := ro) (ds := ds) (n := n) hK rest (put_nil tm d v hR) hr
    have ev : ∀ x, ((⟨tm, ds⟩ : Act).eval x) = (⟨tm, []⟩ : Act).eval x := fun _ => rfl
    simp only [runA] at hr; obtain ⟨hd, hr⟩ := hr; rw [List.cons_append]; unfold wpListIn; dsimp only []
    cases hgv : gval (ops.toList.map (·.dst)) st.env o.guard with
    | bad => rw [hgv] at hr; exact hr.elim
    | free =>
      rw [hgv] at hr; simp only at hr; rw [if_pos (gval_free (a := ⟨tm, []⟩) hgv)]
      have hnd : ∀ c, o.op ≠ .defer c := by
        cases hcl : cls o.op with
        | pure => rw [hcl] at hr; exact nodefP hr.1
        | _ => exact nodef (by rw [hcl]; intro h; cases h)
      refine ⟨fun _ _ => trivial, ?_⟩; rw [Oper.semAt_eq _ _ _ hnd]
      show o.uponIn _ _ _ _ _ _ ((execOp (⟨tm, []⟩ : Act).eval o).run P w)
      cases hcl : cls o.op with
      | bad => rw [hcl] at hr; exact hr.elim
      | pure =>
        rw [hcl] at hr; simp only at hr; obtain ⟨y, hy, hv⟩ := pure_upon h hr.1; rw [hy]
        exact ih (h.put hd hv) hr.2
      | alloc =>
        rw [hcl] at hr; simp only at hr; obtain ⟨y, w', hy, hm⟩ := evA_sound (own := Own Ss) (φ := φ) (w := w) (o := o) (fun x _ => act_eval h x) hr.1; obtain ⟨φ', Ss', hR, hv⟩ := h.made hm; rw [hy]
        exact ih (hR.put hd hv) hr.2
      | store =>
        rw [hcl] at hr; simp only at hr; split at hr
        · rename_i t pa va hop
          obtain ⟨w', Ss', hrun, hR⟩ := store_sound (P := P) h (act_eval h pa) (act_eval h va) hr.1
          have : (execOp (⟨tm, []⟩ : Act).eval o).run P w = .ok .skip w' := by
            unfold execOp; rw [hop]; simp only [Sem.run_bind, hrun, Result.andThen_ok, Sem.run_pure]
          rw [this]; exact ih (hR.put hd (.undef _)) hr.2
        · exact hr.elim
      | app =>
        rw [hcl] at hr; simp only at hr; split at hr
        · rename_i c hop
          split at hr
          · rename_i s x t xt ha ht
            obtain ⟨y, w', φ', Ss', hrun, hR, hv⟩ := app_sound (P := P) (ty := o.type) h (act_eval h s) (act_eval h x) hr.1
            have : (execOp (⟨tm, []⟩ : Act).eval o).run P w = .ok (.value y) w' := by
              have hcc : c.callee = .builtin .append := by
                rw [hop] at hcl; obtain ⟨callee, args, ats⟩ := c; unfold cls clsC at hcl
                cases callee with
                | value _ => cases hcl
                | invoke _ _ => cases hcl
                | builtin b => cases b <;> first | rfl | (simp at hcl)
              obtain ⟨callee, args, ats⟩ := c; simp only at ha ht hcc; subst hcc; have ea : args = #[s, x] := by rw [← Array.toArray_toList (xs := args), ha]
              have et : ats = #[t, xt] := by rw [← Array.toArray_toList (xs := ats), ht]
              subst ea; subst et; unfold execOp; rw [hop]; simp [resolve, invoke, builtin, hrun]
            rw [this]; exact ih (hR.put hd hv) hr.2
          · exact hr.elim
        · exact hr.elim
      | clr =>
        rw [hcl] at hr; simp only at hr; split at hr
        · rename_i c hop
          split at hr
          · rename_i x t ha ht
            obtain ⟨w', Ss', hrun, hR⟩ := clr_sound (P := P) (ty := o.type) h (act_eval h x) hr.1
            have : (execOp (⟨tm, []⟩ : Act).eval o).run P w = .ok (.value (.tuple #[])) w' := by
              have hcc : c.callee = .builtin .clear := by
                rw [hop] at hcl; obtain ⟨callee, args, ats⟩ := c; unfold cls clsC at hcl
                cases callee with
                | value _ => cases hcl
                | invoke _ _ => cases hcl
                | builtin b => cases b <;> first | rfl | (simp at hcl)
              obtain ⟨callee, args, ats⟩ := c; simp only at ha ht hcc; subst hcc; have ea : args = #[x] := by rw [← Array.toArray_toList (xs := args), ha]
              have et : ats = #[t] := by rw [← Array.toArray_toList (xs := ats), ht]
              subst ea; subst et; unfold execOp; rw [hop]; simp [resolve, invoke, builtin, hrun]
            rw [this]; exact ih (hR.put hd (.undef _)) hr.2
          · exact hr.elim
        · exact hr.elim
      | call =>
        rw [hcl] at hr; simp only at hr; split at hr
        · rename_i c hop
          split at hr
          · rename_i fid as hc
            obtain ⟨vs, hrun, hcr⟩ := call_run h hop hc hr.1 hr.2.1; rw [hrun]; refine ⟨fun h => (by cases h), calls_FW ?_⟩; refine (hr.2.2 φ Ss w vs h.hp hcr).mono fun e w' ⟨v, out, h', φ', Ss', e1, e2, e3, e4, e5, e6, e7⟩ => ?_; subst e1
            exact ih ((h.call e3 e5 e6 e7).put hd e4) e2
          · exact hr.elim
        · exact hr.elim
    | on g =>
      rw [hgv] at hr; simp only at hr; have hw : Region.wanted o (yielded ops tm) = g := gval_on h hgv
      rw [hw]
      cases hcl : cls o.op with
      | bad => rw [hcl] at hr; exact hr.elim
      | alloc => rw [hcl] at hr; exact hr.elim
      | store => rw [hcl] at hr; exact hr.elim
      | app => rw [hcl] at hr; exact hr.elim
      | clr => rw [hcl] at hr; exact hr.elim
      | pure =>
        rw [hcl] at hr; simp only at hr
        cases g with
        | true =>
          rw [if_pos rfl]; obtain ⟨y, hy, hv⟩ := pure_upon h (hr.1 rfl); refine ⟨fun _ _ => trivial, ?_⟩; rw [Oper.semAt_eq _ _ _ (nodefP (hr.1 rfl))]
          show o.uponIn _ _ _ _ _ _ ((execOp (⟨tm, []⟩ : Act).eval o).run P w)
          rw [hy]
          exact ih (h.put hd (.condT _ _ _ hv)) hr.2
        | false =>
          rw [if_neg (by simp)]
          exact ⟨fun _ _ => trivial, ih (h.put hd (.condF _)) hr.2⟩
      | call =>
        rw [hcl] at hr; simp only at hr; split at hr
        · rename_i c hop
          split at hr
          · rename_i fid as hc
            obtain ⟨out, hr1, hr2⟩ := hr
            cases g with
            | true =>
              rw [if_pos rfl]; obtain ⟨hg, hcs⟩ := hr1 rfl; obtain ⟨vs, hrun, hcr⟩ := call_run h hop hc hg hcs.1; refine ⟨fun _ _ => trivial, ?_⟩; rw [Oper.semAt_eq _ _ _ (nodef (by rw [hcl]; intro h; cases h))]
              show o.uponIn _ _ _ _ _ _ ((execOp (⟨tm, []⟩ : Act).eval o).run P w)
              rw [hrun]; refine ⟨fun h => (by cases h), calls_FW ?_⟩; refine (hcs.2 φ Ss w vs h.hp hcr).mono fun e w' ⟨v, out', h', φ', Ss', e1, e2, e3, e4, e5, e6, e7⟩ => ?_; obtain ⟨rfl, rfl⟩ := e2; subst e1
              exact ih ((h.call e3 e5 e6 e7).put hd (.condT _ _ _ e4)) hr2
            | false =>
              rw [if_neg (by simp)]; exact ⟨fun _ _ => trivial, ih (h.put hd (.condF _)) hr2⟩
          · exact hr.elim
        · exact hr.elim
theorem runI_sound {ops : Array Oper} {Q : Exit → St → Prop} {K : St → Prop} {ro : Option Nat} {ds : List Deferred} {n : Nat} (hK : ∀ st, K st → Q .normal st) (l : List Oper) {φ : Refs} {Ss : List (List Nat)} {st : St} {tm : Array Value} {w : World}
    (hR : Rel N w0 B0 φ Ss st ⟨tm, []⟩ w) (hr : runA P N (ops.toList.map (·.dst)) l st K) : wpListIn (FW ro) n P ops (QD N w0 B0 ds Q) l ⟨tm, ds⟩ w := by
  have := runI_app (ops := ops) (Q := QD N w0 B0 ds Q) (K := K) (more := []) (ro := ro) (ds := ds) (n := n) (fun st φ Ss t w h1 h2 => ⟨rfl, _, _, _, hK _ h1, h2⟩) l hR hr
  simpa using this
end
def SI (P : Program) (N : Sz) (ro : Option Nat) (ds : List Deferred) (c : Code) (Q : Exit → St → Prop) (st : St) : Prop := ∀ n w0 B0 φ Ss t w, Rel N w0 B0 φ Ss st ⟨t, []⟩ w → c.wpIn (FW ro) n P (QD N w0 B0 ds Q) ⟨t, ds⟩ w
section
variable {P : Program} {N : Sz} {Q : Exit → St → Prop} {st : St} {ro : Option Nat} {ds : List Deferred}
theorem SI.wk {c : Code} {st' : St} (h : Wk N st st') (k : SI P N ro ds c Q st') : SI P N ro ds c Q st := fun n w0 B0 φ Ss a w hR =>
  let ⟨φ', Ss', hR'⟩ := h w0 B0 φ Ss _ w hR
  k n w0 B0 φ' Ss' a w hR'
theorem SI.mono {c : Code} {Q' : Exit → St → Prop} (h : SI P N ro ds c Q st) (hq : ∀ e s, Q e s → Q' e s) : SI P N ro ds c Q' st := fun n w0 B0 φ Ss a w hR =>
  wpIn_mono (h n w0 B0 φ Ss a w hR) fun _ _ _ ⟨h0, s, φ', Ss', h1, h2⟩ => ⟨h0, s, φ', Ss', hq _ _ h1, h2⟩
theorem SI.skip (h : Q .normal st) : SI P N ro ds .skip Q st := fun _ _ _ φ Ss _ _ hR => wpIn_skip ⟨rfl, st, φ, Ss, h, hR⟩
theorem SI.exit {id : Nat} (h : Q (.exit id) st) : SI P N ro ds (.exit id) Q st := fun _ _ _ φ Ss _ _ hR => wpIn_exit ⟨rfl, st, φ, Ss, h, hR⟩
theorem SI.ret (h : Q .ret st) : SI P N ro ds .ret Q st := fun _ _ _ φ Ss _ _ hR => wpIn_ret ⟨rfl, st, φ, Ss, h, hR⟩
theorem SI.seq {x y : Code} (h : SI P N ro ds x (Ex.then (SI P N ro ds y Q) Q) st) : SI P N ro ds (.seq x y) Q st := fun n w0 B0 φ Ss a w hR =>
  wpIn_seq (wpIn_mono (h n w0 B0 φ Ss a w hR) fun e a' w' ⟨h0, s, φ', Ss', h1, h2⟩ => by
    obtain ⟨t', ds'⟩ := a'; subst h0
    cases e <;> first | exact h1 n w0 B0 φ' Ss' t' w' h2 | exact ⟨rfl, s, φ', Ss', h1, h2⟩)
theorem SI.seqK {x y : Code} (h : ∀ K : St → Prop, (∀ st, SI P N ro ds y Q st → K st) → SI P N ro ds x (Ex.then K Q) st) : SI P N ro ds (.seq x y) Q st := SI.seq (h _ fun _ h => h)
theorem SI.cond {c : Operand} {x y : Code} (b : Bool) (hc : st1 (ev st.env c) = .bool b) (hg : gk (ev st.env c)) (ht : b = true → SI P N ro ds x Q st) (hf : b = false → SI P N ro ds y Q st) : SI P N ro ds (.cond c x y) Q st := fun n w0 B0 φ Ss a w hR => by
  have hv := (act_eval hR c).strip hg
  rw [hc] at hv
  generalize hx : (⟨a, []⟩ : Act).eval c = v at hv
  cases hv
  exact wpIn_cond_split (a := ⟨a, ds⟩) hx (fun e => ht e n w0 B0 φ Ss a w hR) (fun e => hf e n w0 B0 φ Ss a w hR)
theorem SI.block {id : Nat} {c : Code} (h : SI P N ro ds c (Ex.ib id Q) st) : SI P N ro ds (.block id c) Q st := fun n w0 B0 φ Ss a w hR =>
  wpIn_block (wpIn_mono (h n w0 B0 φ Ss a w hR) fun e a' w' ⟨h0, s, φ', Ss', h1, h2⟩ => by
    cases e with
    | exit id' =>
      simp only [Ex.ib] at h1; simp only [Exit.inBlock]; split at h1
      · rename_i he; rw [if_pos he]; exact ⟨h0, s, φ', Ss', h1, h2⟩
      · rename_i he; rw [if_neg he]; exact ⟨h0, s, φ', Ss', h1, h2⟩
    | _ => exact ⟨h0, s, φ', Ss', h1, h2⟩)
theorem SI.region {id : Nat} {l : List Oper} (h : runA P N (l.map (·.dst)) l st (Q .normal)) : SI P N ro ds (.region id l.toArray false) Q st := fun n w0 B0 φ Ss a w hR =>
  wpIn_region_lit (runI_sound (ops := l.toArray) (K := Q .normal) (fun _ h => h) l hR (by simpa using h))
theorem SI.regionK {id : Nat} {l : List Oper} {y : Code} (h : ∀ K : St → Prop, (∀ st, SI P N ro ds y Q st → K st) → runA P N (l.map (·.dst)) l st K) : SI P N ro ds (.seq (.region id l.toArray false) y) Q st :=
  SI.seq (SI.region (Q := Ex.then (SI P N ro ds y Q) Q) (h _ fun _ h => h))
theorem SI.regionE {id : Nat} {l : List Oper} (h : ∀ K : St → Prop, (∀ st, Q .normal st → K st) → runA P N (l.map (·.dst)) l st K) : SI P N ro ds (.region id l.toArray false) Q st := SI.region (h _ fun _ h => h)
end
end HK
