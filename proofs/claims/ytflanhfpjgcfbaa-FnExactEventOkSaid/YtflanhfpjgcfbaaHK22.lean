/-
  My own text (road H): HK22.
-/
import Derived.Test.YtflanhfpjgcfbaaHK21
namespace HK
open Go
section
variable {P : Program} {N : Sz} {w0 : World} {B0 : Cx} {φ : Refs} {Ss : List (List Nat)} {st : St} {a : Act} {w : World}
/-- One operation of a region, whatever comes behind it. -/
theorem stepA_sound {ops : Array Oper} {Q : Exit → Act → World → Prop} {J : St → Prop} {K' : Act → World → Prop} {i : Nat} {o : Oper} (hi : ops[i]? = some o)
    (hK : ∀ st' φ' Ss' a' w', J st' → Rel N w0 B0 φ' Ss' st' a' w' → K' a' w') (h : Rel N w0 B0 φ Ss st a w) (hr : runA P N (ops.toList.map (·.dst)) [o] st J) : wpOp P ops Q i K' a w := by
    unfold wpOp
    rw [hi]
    simp only
    simp only [runA] at hr
    obtain ⟨hd, hr⟩ := hr
    cases hgv : gval (ops.toList.map (·.dst)) st.env o.guard with
    | bad => rw [hgv] at hr; exact hr.elim
    | free =>
      rw [hgv] at hr
      simp only at hr
      rw [if_pos (gval_free hgv)]
      left
      unfold Oper.wp
      cases hcl : cls o.op with
      | bad => rw [hcl] at hr; exact hr.elim
      | pure =>
        rw [hcl] at hr
        simp only at hr
        obtain ⟨y, hy, hv⟩ := pure_upon h hr.1
        rw [hy]
        exact hK _ _ _ _ _ hr.2 (h.put hd hv)
      | alloc =>
        rw [hcl] at hr
        simp only at hr
        obtain ⟨y, w', hy, hm⟩ := evA_sound (own := Own Ss) (φ := φ) (w := w) (o := o) (fun x _ => act_eval h x) hr.1
        obtain ⟨φ', Ss', hR, hv⟩ := h.made hm
        rw [hy]
        exact hK _ _ _ _ _ hr.2 (hR.put hd hv)
      | store =>
        rw [hcl] at hr
        simp only at hr
        split at hr
        · rename_i t pa va hop
          obtain ⟨w', Ss', hrun, hR⟩ := store_sound (P := P) h (act_eval h pa) (act_eval h va) hr.1
          have : (execOp a.eval o).run P w = .ok .skip w' := by
            unfold execOp; rw [hop]
            simp only [Sem.run_bind, hrun, Result.andThen_ok, Sem.run_pure]
          rw [this]
          exact hK _ _ _ _ _ hr.2 (hR.put hd (.undef _))
        · exact hr.elim
      | app =>
        rw [hcl] at hr
        simp only at hr
        split at hr
        · rename_i c hop
          split at hr
          · rename_i s x t xt ha ht
            obtain ⟨y, w', φ', Ss', hrun, hR, hv⟩ := app_sound (P := P) (ty := o.type) h (act_eval h s) (act_eval h x) hr.1
            have : (execOp a.eval o).run P w = .ok (.value y) w' := by
              have hcc : c.callee = .builtin .append := by
                rw [hop] at hcl
                obtain ⟨callee, args, ats⟩ := c
                unfold cls clsC at hcl
                cases callee with
                | value _ => cases hcl
                | invoke _ _ => cases hcl
                | builtin b => cases b <;> first | rfl | (simp at hcl)
              obtain ⟨callee, args, ats⟩ := c
              simp only at ha ht hcc
              subst hcc
              have ea : args = #[s, x] := by rw [← Array.toArray_toList (xs := args), ha]
              have et : ats = #[t, xt] := by rw [← Array.toArray_toList (xs := ats), ht]
              subst ea; subst et
              unfold execOp; rw [hop]
              simp [resolve, invoke, builtin, hrun]
            rw [this]
            exact hK _ _ _ _ _ hr.2 (hR.put hd hv)
          · exact hr.elim
        · exact hr.elim
      | clr =>
        rw [hcl] at hr
        simp only at hr
        split at hr
        · rename_i c hop
          split at hr
          · rename_i x t ha ht
            obtain ⟨w', Ss', hrun, hR⟩ := clr_sound (P := P) (ty := o.type) h (act_eval h x) hr.1
            have : (execOp a.eval o).run P w = .ok (.value (.tuple #[])) w' := by
              have hcc : c.callee = .builtin .clear := by
                rw [hop] at hcl
                obtain ⟨callee, args, ats⟩ := c
                unfold cls clsC at hcl
                cases callee with
                | value _ => cases hcl
                | invoke _ _ => cases hcl
                | builtin b => cases b <;> first | rfl | (simp at hcl)
              obtain ⟨callee, args, ats⟩ := c
              simp only at ha ht hcc
              subst hcc
              have ea : args = #[x] := by rw [← Array.toArray_toList (xs := args), ha]
              have et : ats = #[t] := by rw [← Array.toArray_toList (xs := ats), ht]
              subst ea; subst et
              unfold execOp; rw [hop]
              simp [resolve, invoke, builtin, hrun]
            rw [this]
            exact hK _ _ _ _ _ hr.2 (hR.put hd (.undef _))
          · exact hr.elim
        · exact hr.elim
      | call =>
        rw [hcl] at hr
        simp only at hr
        split at hr
        · rename_i c hop
          split at hr
          · rename_i fid as hc
            obtain ⟨vs, hrun, hcr⟩ := call_run h hop hc hr.1 hr.2.1
            rw [hrun]
            refine (hr.2.2 φ Ss w vs h.hp hcr).mono fun e w' ⟨v, out, h', φ', Ss', e1, e2, e3, e4, e5, e6, e7⟩ => ?_
            subst e1
            exact hK _ _ _ _ _ e2 ((h.call e3 e5 e6 e7).put hd e4)
          · exact hr.elim
        · exact hr.elim
    | on g =>
      rw [hgv] at hr
      simp only at hr
      have hw := gval_on h hgv
      rw [hw]
      cases hcl : cls o.op with
      | bad => rw [hcl] at hr; exact hr.elim
      | alloc => rw [hcl] at hr; exact hr.elim
      | store => rw [hcl] at hr; exact hr.elim
      | app => rw [hcl] at hr; exact hr.elim
      | clr => rw [hcl] at hr; exact hr.elim
      | pure =>
        rw [hcl] at hr
        simp only at hr
        cases g with
        | true =>
          rw [if_pos rfl]
          left
          obtain ⟨y, hy, hv⟩ := pure_upon h (hr.1 rfl)
          unfold Oper.wp
          rw [hy]
          exact hK _ _ _ _ _ hr.2 (h.put hd (.condT _ _ _ hv))
        | false =>
          rw [if_neg (by simp)]
          exact hK _ _ _ _ _ hr.2 (h.put hd (.condF _))
      | call =>
        rw [hcl] at hr
        simp only at hr
        split at hr
        · rename_i c hop
          split at hr
          · rename_i fid as hc
            obtain ⟨out, hr1, hr2⟩ := hr
            cases g with
            | true =>
              rw [if_pos rfl]
              left
              obtain ⟨hg, hcs⟩ := hr1 rfl
              obtain ⟨vs, hrun, hcr⟩ := call_run h hop hc hg hcs.1
              unfold Oper.wp
              rw [hrun]
              refine (hcs.2 φ Ss w vs h.hp hcr).mono fun e w' ⟨v, out', h', φ', Ss', e1, e2, e3, e4, e5, e6, e7⟩ => ?_
              obtain ⟨rfl, rfl⟩ := e2
              subst e1
              exact hK _ _ _ _ _ hr2 ((h.call e3 e5 e6 e7).put hd (.condT _ _ _ e4))
            | false =>
              rw [if_neg (by simp)]
              exact hK _ _ _ _ _ hr2 (h.put hd (.condF _))
          · exact hr.elim
        · exact hr.elim
end
end HK
