/-
  My own text (road H): HK29.
-/
import Derived.Test.YtflanhfpjgcfbaaHK28
set_option linter.unusedSimpArgs false
set_option linter.unusedVariables false
namespace HK
open Go
/-- A slice's elements, as far as they are known. -/
def elemsN (h : Heap) : AV → Option (List (List AV))
  | .fz es => some es
  | .own _ es => some es
  | .nil => some []
  | .sl id off len => match hb h id with
    | some b => some ((b.es.drop off).take len)
    | none => none
  | _ => none
theorem nil_run {P : Program} {w : World} {t : TypeId} {A : Option Addr} {len cap : Nat} {e : TypeId} (ht : P.underlying t = some (.slice e)) (x y : Operand) :
    ((do eqGuard .eql t x y (.slice A len cap) (.slice none 0 0); binOp .eql t (.slice A len cap) (.slice none 0 0)) : Sem Value).run P w = .ok (.bool A.isNone) w := by
  have hu : (underlying t).run P w = .ok (.slice e) w := by
    simp [underlying, ht]
  have k1 : ∀ (d : Nat), (Op.equalIn (d + 1) t (.slice A len cap) (.slice none 0 0)).run P w = .ok A.isNone w := fun d => by
    cases A with
    | none =>
      rw [Op.equalIn]
      simp [hu]
    | some a =>
      rw [Op.equalIn]
      simp [hu]
  have k2 : (Op.equalIn Op.maxDepth t (.slice A len cap) (.slice none 0 0)).run P w = .ok A.isNone w := k1 9999
  simp [eqGuard, binOp, Op.equal, k2]
section
variable {P : Program} {N : Sz} {w0 : World} {B0 : Cx} {φ : Refs} {Ss : List (List Nat)} {st : St} {a : Act} {w : World}
/-- A region's first operations, whatever comes behind them. -/
theorem runA_tail {ops : Array Oper} {Q : Exit → Act → World → Prop} {K : St → Prop} {tail : List Oper} (hK : ∀ st φ Ss a w, K st → Rel N w0 B0 φ Ss st a w → wpList P ops Q tail a w) :
    ∀ (l : List Oper) {φ : Refs} {Ss : List (List Nat)} {st : St} {a : Act} {w : World}, Rel N w0 B0 φ Ss st a w → runA P N (ops.toList.map (·.dst)) l st K → wpList P ops Q (l ++ tail) a w
  | [], _, _, _, _, _, h, hr => hK _ _ _ _ _ hr h
  | o :: rest, φ, Ss, st, a, w, h, hr => by
    have ih := fun {φ : Refs} {Ss : List (List Nat)} {st : St} {a : Act} {w : World} => runA_tail (ops := ops) (tail := tail) hK rest (φ := φ) (Ss := Ss) (st := st) (a := a) (w := w)
    simp only [runA] at hr
    obtain ⟨hd, hr⟩ := hr
    rw [List.cons_append]
    unfold wpList
    cases hgv : gval (ops.toList.map (·.dst)) st.env o.guard with
    | bad => rw [hgv] at hr; exact hr.elim
    | free =>
      rw [hgv] at hr
      simp only at hr
      rw [if_pos (gval_free hgv)]
      left
      unfold Oper.wp
      cases hcl : cls o.op with
      | bad => rw [hcl] at hr; exact hr.elim
      | pure =>
        rw [hcl] at hr
        simp only at hr
        obtain ⟨y, hy, hv⟩ := pure_upon h hr.1
        rw [hy]
        exact ih (h.put hd hv) hr.2
      | alloc =>
        rw [hcl] at hr
        simp only at hr
        obtain ⟨y, w', hy, hm⟩ := evA_sound (own := Own Ss) (φ := φ) (w := w) (o := o) (fun x _ => act_eval h x) hr.1
        obtain ⟨φ', Ss', hR, hv⟩ := h.made hm
        rw [hy]
        exact ih (hR.put hd hv) hr.2
      | store =>
        rw [hcl] at hr
        simp only at hr
        split at hr
        · rename_i t pa va hop
          obtain ⟨w', Ss', hrun, hR⟩ := store_sound (P := P) h (act_eval h pa) (act_eval h va) hr.1
          have : (execOp a.eval o).run P w = .ok .skip w' := by
            unfold execOp; rw [hop]
            simp only [Sem.run_bind, hrun, Result.andThen_ok, Sem.run_pure]
          rw [this]
          exact ih (hR.put hd (.undef _)) hr.2
        · exact hr.elim
      | app =>
        rw [hcl] at hr
        simp only at hr
        split at hr
        · rename_i c hop
          split at hr
          · rename_i s x t xt ha ht
            obtain ⟨y, w', φ', Ss', hrun, hR, hv⟩ := app_sound (P := P) (ty := o.type) h (act_eval h s) (act_eval h x) hr.1
            have : (execOp a.eval o).run P w = .ok (.value y) w' := by
              have hcc : c.callee = .builtin .append := by
                rw [hop] at hcl
                obtain ⟨callee, args, ats⟩ := c
                unfold cls clsC at hcl
                cases callee with
                | value _ => cases hcl
                | invoke _ _ => cases hcl
                | builtin b => cases b <;> first | rfl | (simp at hcl)
              obtain ⟨callee, args, ats⟩ := c
              simp only at ha ht hcc
              subst hcc
              have ea : args = #[s, x] := by rw [← Array.toArray_toList (xs := args), ha]
              have et : ats = #[t, xt] := by rw [← Array.toArray_toList (xs := ats), ht]
              subst ea; subst et
              unfold execOp; rw [hop]
              simp [resolve, invoke, builtin, hrun]
            rw [this]
            exact ih (hR.put hd hv) hr.2
          · exact hr.elim
        · exact hr.elim
      | clr =>
        rw [hcl] at hr
        simp only at hr
        split at hr
        · rename_i c hop
          split at hr
          · rename_i x t ha ht
            obtain ⟨w', Ss', hrun, hR⟩ := clr_sound (P := P) (ty := o.type) h (act_eval h x) hr.1
            have : (execOp a.eval o).run P w = .ok (.value (.tuple #[])) w' := by
              have hcc : c.callee = .builtin .clear := by
                rw [hop] at hcl
                obtain ⟨callee, args, ats⟩ := c
                unfold cls clsC at hcl
                cases callee with
                | value _ => cases hcl
                | invoke _ _ => cases hcl
                | builtin b => cases b <;> first | rfl | (simp at hcl)
              obtain ⟨callee, args, ats⟩ := c
              simp only at ha ht hcc
              subst hcc
              have ea : args = #[x] := by rw [← Array.toArray_toList (xs := args), ha]
              have et : ats = #[t] := by rw [← Array.toArray_toList (xs := ats), ht]
              subst ea; subst et
              unfold execOp; rw [hop]
              simp [resolve, invoke, builtin, hrun]
            rw [this]
            exact ih (hR.put hd (.undef _)) hr.2
          · exact hr.elim
        · exact hr.elim
      | call =>
        rw [hcl] at hr
        simp only at hr
        split at hr
        · rename_i c hop
          split at hr
          · rename_i fid as hc
            obtain ⟨vs, hrun, hcr⟩ := call_run h hop hc hr.1 hr.2.1
            rw [hrun]
            refine (hr.2.2 φ Ss w vs h.hp hcr).mono fun e w' ⟨v, out, h', φ', Ss', e1, e2, e3, e4, e5, e6, e7⟩ => ?_
            subst e1
            exact ih ((h.call e3 e5 e6 e7).put hd e4) e2
          · exact hr.elim
        · exact hr.elim
    | on g =>
      rw [hgv] at hr
      simp only at hr
      have hw := gval_on h hgv
      rw [hw]
      cases hcl : cls o.op with
      | bad => rw [hcl] at hr; exact hr.elim
      | alloc => rw [hcl] at hr; exact hr.elim
      | store => rw [hcl] at hr; exact hr.elim
      | app => rw [hcl] at hr; exact hr.elim
      | clr => rw [hcl] at hr; exact hr.elim
      | pure =>
        rw [hcl] at hr
        simp only at hr
        cases g with
        | true =>
          rw [if_pos rfl]
          left
          obtain ⟨y, hy, hv⟩ := pure_upon h (hr.1 rfl)
          unfold Oper.wp
          rw [hy]
          exact ih (h.put hd (.condT _ _ _ hv)) hr.2
        | false =>
          rw [if_neg (by simp)]
          exact ih (h.put hd (.condF _)) hr.2
      | call =>
        rw [hcl] at hr
        simp only at hr
        split at hr
        · rename_i c hop
          split at hr
          · rename_i fid as hc
            obtain ⟨out, hr1, hr2⟩ := hr
            cases g with
            | true =>
              rw [if_pos rfl]
              left
              obtain ⟨hg, hcs⟩ := hr1 rfl
              obtain ⟨vs, hrun, hcr⟩ := call_run h hop hc hg hcs.1
              unfold Oper.wp
              rw [hrun]
              refine (hcs.2 φ Ss w vs h.hp hcr).mono fun e w' ⟨v, out', h', φ', Ss', e1, e2, e3, e4, e5, e6, e7⟩ => ?_
              obtain ⟨rfl, rfl⟩ := e2
              subst e1
              exact ih ((h.call e3 e5 e6 e7).put hd (.condT _ _ _ e4)) hr2
            | false =>
              rw [if_neg (by simp)]
              exact ih (h.put hd (.condF _)) hr2
          · exact hr.elim
        · exact hr.elim

theorem elemsN_isNone (_ : Rel N w0 B0 φ Ss st a w) {v : AV} {x : Value} (hv : VR w (Own Ss) φ v x []) {es : List (List AV)} (he : elemsN st.heap v = some es) : ∃ A len cap, x = .slice A len cap ∧ (A.isNone = true → es = []) := by
  cases hv with
  | fz0 A cap => cases he; exact ⟨A, 0, cap, rfl, fun _ => rfl⟩
  | fz es' sz A cap vs hlt ho hu hcap hs h => exact ⟨some A, _, cap, rfl, fun e => by cases e⟩
  | nil A => cases he; exact ⟨A, 0, 0, rfl, fun _ => rfl⟩
  | own0 sz A => cases he; exact ⟨A, 0, 0, rfl, fun _ => rfl⟩
  | sl0 id off r A h =>
    refine ⟨A, 0, 0, rfl, fun _ => ?_⟩
    simp only [elemsN] at he
    split at he
    · simpa using he.symm
    · cases he
  | sl id off len cap r h hcap hlim => exact ⟨some _, _, _, rfl, fun e => by cases e⟩
  | _ => simp [elemsN] at he
/-- A region that ends with `x == nil` of a slice: nobody knows what comes out, but true comes out of none that has elements. -/
def nilK (P : Program) (N : Sz) (K : St → Prop) (o : Option Oper) (s : St) : Prop := match o with
  | some ⟨d, .binOp .eql t x (.const (.slice none 0 0)) _, _, _, _, none⟩ => dOk N d = true ∧ gk (ev s.env x) ∧ (tel P t).isSome = true ∧ match elemsN s.heap (st1 (ev s.env x)) with
    | some es => ∀ b : Bool, (b = true → es = []) → K ⟨putE s.env d (.bool b), s.heap⟩
    | none => False
  | _ => False
theorem SW.regionNil {id : Nat} {ls : List Oper} {y : Code} {Q : Exit → St → Prop} (h : ∀ K : St → Prop, (∀ st, SW P N y Q st → K st) → runA P N (ls.map (·.dst)) ls.dropLast st (nilK P N K ls.getLast?)) : SW P N (.seq (.region id ls.toArray false) y) Q st := by
  refine SW.seq fun w0 B0 φ Ss a w hR => wp_region_lit ?_
  have h1 := h _ fun _ h => h
  have hne : ls ≠ [] := fun e => by
    subst e
    simp [nilK] at h1
  obtain ⟨o, ho, hsp⟩ : ∃ o, ls.getLast? = some o ∧ ls = ls.dropLast ++ [o] := ⟨ls.getLast hne, List.getLast?_eq_some_getLast hne, (List.dropLast_concat_getLast hne).symm⟩
  rw [hsp]
  rw [ho] at h1
  refine runA_tail (ops := (ls.dropLast ++ [o]).toArray) (K := nilK P N _ (some o)) (fun st φ Ss a w hk hR => ?_) ls.dropLast hR (by rw [← hsp]; simpa using h1)
  unfold nilK at hk
  split at hk
  · rename_i d t x t' ty pos af heq
    injection heq with heq
    subst heq
    obtain ⟨hd, hg, ht, hk⟩ := hk
    unfold wpList
    rw [if_pos (by simp [Region.wanted])]
    left
    split at hk
    · rename_i es he
      obtain ⟨A, len, cap, hx, hA⟩ := elemsN_isNone hR ((act_eval hR x).strip hg) he
      obtain ⟨sz, hsz⟩ := Option.isSome_iff_exists.1 ht
      obtain ⟨e, i, hu, _⟩ := tel_spec (sz := sz.1) (bytes := sz.2) hsz
      have hrun : (execOp a.eval ⟨d, .binOp .eql t x (.const (.slice none 0 0)) t', ty, pos, af, none⟩).run P w = .ok (.value (.bool A.isNone)) w := by
        have := nil_run (w := w) (A := A) (len := len) (cap := cap) hu x (.const (.slice none 0 0))
        rw [← hx] at this
        have lift : ∀ {s : Sem Value} {y : Value}, s.run P w = .ok y w → (do pure (Next.value (← s)) : Sem Next).run P w = .ok (.value y) w := by
          intro s y hs; simp [hs]
        exact lift this
      unfold Oper.wp
      rw [hrun]
      exact ⟨_, φ, Ss, hk _ hA, hR.put hd (.bool _)⟩
    · exact hk.elim
  · exact hk.elim
/-- nil seen as an empty slice of one's own, or as one that is read only. -/
def softV : AV → AV → Prop
  | .nil, .own _ [] => True
  | .nil, .fz [] => True
  | a, b => a = b
def softE (env : Env) : Env → Prop
  | [] => True
  | (k, v) :: e => softV (lk env k) v ∧ softE env e
theorem softV_spec {own : Nat → Prop} {u v : AV} {x : Value} (h : softV u v) (k : VR w own φ u x []) : VR w own φ v x [] := by
  unfold softV at h
  split at h
  · cases k; exact .own0 _ _
  · cases k; exact .fz0 _ _
  · rw [← h]; exact k
theorem softE_lk {env : Env} : ∀ {e : Env}, softE env e → ∀ t, softV (lk env t) (lk e t) ∨ lk e t = .undef
  | [], _, _ => .inr rfl
  | (k, v) :: e, h, t => by
    simp only [lk]
    split
    · rename_i hk; subst hk; exact .inl h.1
    · exact softE_lk h.2 t
theorem Wk.soft {env' : Env} (h : softE st.env env') : Wk N st ⟨env', st.heap⟩ := by
  intro w0 B0 φ Ss a w hR
  refine ⟨φ, Ss, fun t => ?_, hR.heap, hR.len, hR.fresh, hR.nodup, hR.bound, hR.fr, hR.size, hR.defers, hR.cx, hR.keep⟩
  rcases softE_lk h t with e | e
  · exact softV_spec e (hR.env t)
  · rw [e]; exact .undef _
theorem Wk.softH {env' : Env} {h' : Heap} (h : softE st.env env') (hh : h' = st.heap) : Wk N st ⟨env', h'⟩ := by subst hh; exact Wk.soft h
end
@[simp] theorem hb_set {h : Heap} {id : Nat} {b : Blk} (hl : id < h.length) : hb (h.set id (some b)) id = some b := by simp [hb, hl]
end HK
