import Derived.Test.YteeefpifkepbpaaEG2d
/-
  My own texts (road H): HK51.
-/
set_option linter.unusedVariables false
set_option linter.unusedSimpArgs false
set_option linter.unusedSectionVars false
namespace HK
open Go
section
variable {P : Program} {N : Sz} {w0 : World} {B0 : Cx} {φ : Refs} {Ss : List (List Nat)} {st : St} {a : Act} {w : World}
theorem stepL_sound {ops : Array Oper} {Q : Exit → Act → World → Prop} {J : St → Prop} {rest : List Oper} {o : Oper}
    (hK : ∀ st' φ' Ss' a' w', J st' → Rel N w0 B0 φ' Ss' st' a' w' → wpList P ops Q rest a' w') (h : Rel N w0 B0 φ Ss st a w) (hr : runA P N (ops.toList.map (·.dst)) [o] st J) : wpList P ops Q (o :: rest) a w := by
    unfold wpList; simp only [runA] at hr; obtain ⟨hd, hr⟩ := hr
    cases hgv : gval (ops.toList.map (·.dst)) st.env o.guard with
    | bad => rw [hgv] at hr; exact hr.elim
    | free =>
      rw [hgv] at hr; simp only at hr; rw [if_pos (gval_free hgv)]
      left
      unfold Oper.wp
      cases hcl : cls o.op with
      | bad => rw [hcl] at hr; exact hr.elim
      | pure =>
        rw [hcl] at hr; simp only at hr; obtain ⟨y, hy, hv⟩ := pure_upon h hr.1; rw [hy]
        exact hK _ _ _ _ _ hr.2 (h.put hd hv)
      | alloc =>
        rw [hcl] at hr; simp only at hr; obtain ⟨y, w', hy, hm⟩ := evA_sound (own := Own Ss) (φ := φ) (w := w) (o := o) (fun x _ => act_eval h x) hr.1; obtain ⟨φ', Ss', hR, hv⟩ := h.made hm; rw [hy]
        exact hK _ _ _ _ _ hr.2 (hR.put hd hv)
      | store =>
        rw [hcl] at hr; simp only at hr; split at hr
        · rename_i t pa va hop
          obtain ⟨w', Ss', hrun, hR⟩ := store_sound (P := P) h (act_eval h pa) (act_eval h va) hr.1
          have : (execOp a.eval o).run P w = .ok .skip w' := by
            unfold execOp; rw [hop]; simp only [Sem.run_bind, hrun, Result.andThen_ok, Sem.run_pure]
          rw [this]; exact hK _ _ _ _ _ hr.2 (hR.put hd (.undef _))
        · exact hr.elim
      | app =>
        rw [hcl] at hr; simp only at hr; split at hr
        · rename_i c hop
          split at hr
          · rename_i s x t xt ha ht
            obtain ⟨y, w', φ', Ss', hrun, hR, hv⟩ := app_sound (P := P) (ty := o.type) h (act_eval h s) (act_eval h x) hr.1
            have : (execOp a.eval o).run P w = .ok (.value y) w' := by
              have hcc : c.callee = .builtin .append := by
                rw [hop] at hcl; obtain ⟨callee, args, ats⟩ := c; unfold cls clsC at hcl
                cases callee with
                | value _ => cases hcl
                | invoke _ _ => cases hcl
                | builtin b => cases b <;> first | rfl | (simp at hcl)
              obtain ⟨callee, args, ats⟩ := c; simp only at ha ht hcc; subst hcc; have ea : args = #[s, x] := by rw [← Array.toArray_toList (xs := args), ha]
              have et : ats = #[t, xt] := by rw [← Array.toArray_toList (xs := ats), ht]
              subst ea; subst et; unfold execOp; rw [hop]; simp [resolve, invoke, builtin, hrun]
            rw [this]; exact hK _ _ _ _ _ hr.2 (hR.put hd hv)
          · exact hr.elim
        · exact hr.elim
      | clr =>
        rw [hcl] at hr; simp only at hr; split at hr
        · rename_i c hop
          split at hr
          · rename_i x t ha ht
            obtain ⟨w', Ss', hrun, hR⟩ := clr_sound (P := P) (ty := o.type) h (act_eval h x) hr.1
            have : (execOp a.eval o).run P w = .ok (.value (.tuple #[])) w' := by
              have hcc : c.callee = .builtin .clear := by
                rw [hop] at hcl; obtain ⟨callee, args, ats⟩ := c; unfold cls clsC at hcl
                cases callee with
                | value _ => cases hcl
                | invoke _ _ => cases hcl
                | builtin b => cases b <;> first | rfl | (simp at hcl)
              obtain ⟨callee, args, ats⟩ := c; simp only at ha ht hcc; subst hcc; have ea : args = #[x] := by rw [← Array.toArray_toList (xs := args), ha]
              have et : ats = #[t] := by rw [← Array.toArray_toList (xs := ats), ht]
              subst ea; subst et; unfold execOp; rw [hop]; simp [resolve, invoke, builtin, hrun]
            rw [this]; exact hK _ _ _ _ _ hr.2 (hR.put hd (.undef _))
          · exact hr.elim
        · exact hr.elim
      | call =>
        rw [hcl] at hr; simp only at hr; split at hr
        · rename_i c hop
          split at hr
          · rename_i fid as hc
            obtain ⟨vs, hrun, hcr⟩ := call_run h hop hc hr.1 hr.2.1; rw [hrun]; refine (hr.2.2 φ Ss w vs h.hp hcr).mono fun e w' ⟨v, out, h', φ', Ss', e1, e2, e3, e4, e5, e6, e7⟩ => ?_; subst e1
            exact hK _ _ _ _ _ e2 ((h.call e3 e5 e6 e7).put hd e4)
          · exact hr.elim
        · exact hr.elim
    | on g =>
      rw [hgv] at hr; simp only at hr; have hw := gval_on h hgv
      rw [hw]
      cases hcl : cls o.op with
      | bad => rw [hcl] at hr; exact hr.elim
      | alloc => rw [hcl] at hr; exact hr.elim
      | store => rw [hcl] at hr; exact hr.elim
      | app => rw [hcl] at hr; exact hr.elim
      | clr => rw [hcl] at hr; exact hr.elim
      | pure =>
        rw [hcl] at hr; simp only at hr
        cases g with
        | true =>
          rw [if_pos rfl]
          left
          obtain ⟨y, hy, hv⟩ := pure_upon h (hr.1 rfl); unfold Oper.wp; rw [hy]
          exact hK _ _ _ _ _ hr.2 (h.put hd (.condT _ _ _ hv))
        | false =>
          rw [if_neg (by simp)]
          exact hK _ _ _ _ _ hr.2 (h.put hd (.condF _))
      | call =>
        rw [hcl] at hr; simp only at hr; split at hr
        · rename_i c hop
          split at hr
          · rename_i fid as hc
            obtain ⟨out, hr1, hr2⟩ := hr
            cases g with
            | true =>
              rw [if_pos rfl]
              left
              obtain ⟨hg, hcs⟩ := hr1 rfl; obtain ⟨vs, hrun, hcr⟩ := call_run h hop hc hg hcs.1; unfold Oper.wp; rw [hrun]; refine (hcs.2 φ Ss w vs h.hp hcr).mono fun e w' ⟨v, out', h', φ', Ss', e1, e2, e3, e4, e5, e6, e7⟩ => ?_
              obtain ⟨rfl, rfl⟩ := e2; subst e1
              exact hK _ _ _ _ _ hr2 ((h.call e3 e5 e6 e7).put hd (.condT _ _ _ e4))
            | false =>
              rw [if_neg (by simp)]; exact hK _ _ _ _ _ hr2 (h.put hd (.condF _))
          · exact hr.elim
        · exact hr.elim
def bytB : List (List AV) → Bool
  | [] => true
  | [.int .u8 _] :: l => bytB l
  | _ => false
theorem bytB_cr {own own' : Nat → Prop} {φ φ' : Refs} {w w' : World} : ∀ {es : List (List AV)} {vs : List Value} {S : List Nat}, bytB es = true → CR w own φ es.flatten vs S → S = [] ∧ CR w' own' φ' es.flatten vs []
  | [], _, _, _, h => by cases h; exact ⟨rfl, .nil⟩
  | e0 :: es, vs, S, hb, h => by
    unfold bytB at hb; split at hb
    · rename_i heq; cases heq
    · rename_i n l heq
      cases heq
      simp only [List.flatten_cons, List.cons_append, List.nil_append] at h ⊢; obtain ⟨v, us, S1, S2, rfl, rfl, h1, h2⟩ := h.uncons; cases h1
      obtain ⟨rfl, h3⟩ := bytB_cr hb h2; exact ⟨rfl, by simpa using CR.cons _ _ _ _ _ _ (.int _ _) h3⟩
    · cases hb
theorem freeze_block {w : World} {A : Addr} {n b : Nat} (h : b ≠ A.block) : (w.freeze A n).heap[b]? = w.heap[b]? := by
  unfold World.freeze; split
  · rfl
  · simp only [Array.getElem?_modify]
    rw [if_neg (fun e => h e.symm)]
theorem freeze_size {w : World} {A : Addr} {n : Nat} : (w.freeze A n).heap.size = w.heap.size := by
  unfold World.freeze; split
  · rfl
  · simp
theorem freeze_cell {w : World} {A B : Addr} {n : Nat} : (w.freeze A n).cell? B = w.cell? B := by
  by_cases h : B.block = A.block
  · unfold World.freeze
    by_cases hn : n = 0
    · rw [if_pos hn]
    · rw [if_neg hn]
      unfold World.cell?; simp only [Array.getElem?_modify, h, if_true]
      cases hx : w.heap[A.block]? with
      | none => rfl
      | some o => cases o <;> rfl
  · exact cell_of (freeze_block h)
theorem Rel.frozen (h : Rel N w0 B0 φ Ss st a w) {id len cap : Nat} {b : Blk} (hb : st.heap[id]? = some (some b)) {r : Ref} (hφ : φ id = some (some r)) (hn : bytB b.es = true) (hl : len = b.es.length) (hc : len ≤ cap) (hz : b.sz = 1) (k : Nat) :
    ∃ Ss', Rel N w0 B0 φ Ss' ⟨st.env, st.heap.set id none⟩ a (w.freeze ⟨r.rb, k, none⟩ 1) ∧ VR (w.freeze ⟨r.rb, k, none⟩ 1) (Own Ss') φ (.fz b.es) (.slice (some ⟨r.rb, r.base, none⟩) len cap) [] := by
  obtain ⟨S, hS, hB⟩ := h.heap id b hb; rcases hB with ⟨h1, _, _⟩ | ⟨r', vs, T, h1, h2, h3, h4, h5, h6, h7, rfl⟩
  · rw [hφ] at h1; cases h1
  rw [hφ] at h1; cases h1; obtain ⟨rfl, h8⟩ := bytB_cr (w' := w.freeze ⟨r.rb, k, none⟩ 1) (own' := Own (Ss.set id [])) (φ' := nof) hn h7; obtain ⟨A, B, e1, e2⟩ := flatten_set hS []
  have hsub : ∀ x, Own (Ss.set id []) x → Own Ss x ∧ x ≠ r.rb := fun x hx => by
    unfold Own at hx ⊢; rw [e2] at hx; have hnd := h.nodup
    rw [e1] at hnd; rw [e1]; simp only [List.nil_append] at hx; refine ⟨by rcases List.mem_append.1 hx with h | h <;> simp [h], fun e => ?_⟩; subst e; rw [List.nodup_append] at hnd; rcases List.mem_append.1 hx with h | h
    · exact hnd.2.2 _ h _ (by simp) rfl
    · have := hnd.2.1
      rw [List.nodup_append] at this; exact this.2.2 _ (by simp) _ h rfl
  have hrb : Own Ss r.rb := by unfold Own; rw [e1]; simp
  have hfz : ∀ b, b < w.heap.size → ¬ Own Ss b → ¬ Own (Ss.set id []) b ∧ (w.freeze ⟨r.rb, k, none⟩ 1).heap[b]? = w.heap[b]? := fun b _ ho => ⟨fun h => ho (hsub b h).1, freeze_block (fun e => ho (by rw [e]; exact hrb))⟩
  have hsz := Nat.le_of_eq (freeze_size (w := w) (A := ⟨r.rb, k, none⟩) (n := 1)).symm
  have hos : (w.freeze ⟨r.rb, k, none⟩ 1).os = w.os ∧ (w.freeze ⟨r.rb, k, none⟩ 1).tape = w.tape ∧ (w.freeze ⟨r.rb, k, none⟩ 1).output = w.output := by
    unfold World.freeze; split <;> exact ⟨rfl, rfl, rfl⟩
  have hlt : r.rb < w.heap.size := (h.bound r.rb hrb).1
  refine ⟨Ss.set id [], ⟨fun t => (h.env t).tr hfz hsz (fun _ _ e => e) (fun _ hb => by cases hb), fun i b' hi => ?_, by simp [h.len], fun i hi => h.fresh i (by simpa using hi), ?_, fun b hb => ?_,
    ⟨hos.1.trans h.fr.os, hos.2.1.trans h.fr.tape, hos.2.2.trans h.fr.output, Nat.le_trans h.fr.size hsz, fun b e1 e2 => ?_⟩, h.size, h.defers, h.cx, h.keep⟩, ?_⟩
  · by_cases e : i = id
    · subst e
      rw [List.getElem?_set] at hi; split at hi
      · split at hi <;> cases hi
      · rename_i hx; exact absurd rfl hx
    · rw [List.getElem?_set_ne (Ne.symm e)] at hi
      obtain ⟨S', q1, q2⟩ := h.heap i b' hi; refine ⟨S', by rw [List.getElem?_set_ne (Ne.symm e)]; exact q1, q2.tr hfz hsz (fun _ _ e => e) fun x hx => freeze_block fun e' => ?_⟩; simp only at e'; rw [e'] at hx
      exact nodup_disj h.nodup hS q1 (Ne.symm e) (List.mem_cons_self ..) hx
  · have := h.nodup
    rw [e1] at this; rw [e2]; exact this.sublist (by simp)
  · have := h.bound b (hsub b hb).1
    exact ⟨by rw [freeze_size]; exact this.1, this.2⟩
  · refine (freeze_block fun e => ?_).trans (h.fr.block b e1 e2)
    simp only at e; subst e; rcases (h.bound _ hrb).2 with h | h
    · exact e2 h
    · omega
  · subst hl
    refine .fz b.es 1 ⟨r.rb, r.base, none⟩ cap vs (by rw [freeze_size]; exact hlt) (fun hx => (hsub _ hx).2 rfl) (fun e he => by rw [← hz]; exact h4 e he) hc (fun n v hv => ?_) h8; rw [freeze_cell]; exact h6 n v hv
def tslc (P : Program) (t : TypeId) : Bool := tbyt P t
def runC (P : Program) (N : Sz) (ds : List (Option Tmp)) : List Oper → St → (St → Prop) → Prop
  | [], st, K => K st
  | ⟨d, .convert s t (.tmp x), ty, pos, af, none⟩ :: rest, st, K => match lk st.env x with
    | .sl id 0 len => dOk N d = true ∧ s = t ∧ tbyt P s = true ∧ 0 < len ∧ (match hb st.heap id with
      | some b => b.sz = 1 ∧ bytB b.es = true ∧ len = b.es.length ∧ runC P N ds rest ⟨putE st.env d (.fz b.es), st.heap.set id none⟩ K
      | none => False)
    | _ => False
  | o :: rest, st, K => runA P N ds [o] st fun s => runC P N ds rest s K
theorem convert_frozen {t e : TypeId} {A : Addr} {n l cap : Nat} {el : TypeId} (h1 : P.underlying t = some (.slice e)) (h2 : P.underlying e = some (.int .u8)) (h3 : w.shape? A.block = some (el, n)) :
    (convert t t (.slice (some A) l cap)).run P w = .ok (.slice (some A) l cap) (w.freeze ⟨A.block, n, none⟩ 1) := by
  unfold convert; have e1 : ∀ b : Nat, (Sem.shape b Sem.pure).run P w = .ok (w.shape? b) w := fun _ => rfl
  have e2 : ∀ (A : Addr) (n : Nat), (Sem.freeze A n (Sem.pure ())).run P w = .ok () (w.freeze A n) := fun _ _ => rfl
  simp [run_underlying h1, run_underlying h2, markStringish, shape, freeze, e1, h3, e2]
theorem runC_sound {ops : Array Oper} {Q : Exit → St → Prop} {K : St → Prop} (hK : ∀ st, K st → Q .normal st) :
    ∀ (l : List Oper) {φ : Refs} {Ss : List (List Nat)} {st : St} {a : Act} {w : World}, Rel N w0 B0 φ Ss st a w → runC P N (ops.toList.map (·.dst)) l st K → wpList P ops (QR N w0 B0 Q) l a w
  | [], _, _, _, _, _, h, hr => ⟨_, _, _, hK _ hr, h⟩
  | o :: rest, φ, Ss, st, a, w, h, hr => by
    have ih := fun {φ : Refs} {Ss : List (List Nat)} {st : St} {a : Act} {w : World} => runC_sound (ops := ops) hK rest (φ := φ) (Ss := Ss) (st := st) (a := a) (w := w)
    unfold runC at hr; split at hr
    · rename_i heq; cases heq
    · rename_i d s t x ty pos af rest' heq
      cases heq
      split at hr
      · rename_i id len hx
        obtain ⟨hd, rfl, ht, hpos, hr⟩ := hr; split at hr
        · rename_i b hb'
          obtain ⟨hz, hbb, hl, hr⟩ := hr; have hv := h.env x
          rw [hx] at hv
          generalize hy : a.tmps.getD x Go.undef = y at hv
          cases hv with
          | sl0 _ _ r A hr0 => omega
          | sl _ _ _ cap r hr0 hcap hlim =>
            simp only [Nat.zero_mul, Nat.add_zero] at hy; unfold tbyt at ht; split at ht
            · rename_i e hu
              split at ht
              · rename_i hE
                obtain ⟨S, hS, hB⟩ := h.heap id b (hb_spec hb')
                have hrow : RowAt w r.rb r.lim := by
                  rcases hB with ⟨q1, _, _⟩ | ⟨r', vs, T, q1, q2, q3, _⟩
                  · rw [hr0] at q1; cases q1
                  · rw [hr0] at q1; cases q1; exact q3
                obtain ⟨c, el, hc, hcl⟩ := hrow; have hsh : w.shape? r.rb = some (el, c.size) := by unfold World.shape?; rw [hc]
                obtain ⟨Ss', hR, hv'⟩ := h.frozen (cap := cap) (hb_spec hb') hr0 hbb hl hcap hz c.size
                have hrun : (execOp a.eval ⟨d, .convert s s (.tmp x), ty, pos, af, none⟩).run P w = .ok (.value (.slice (some ⟨r.rb, r.base, none⟩) len cap)) (w.freeze ⟨r.rb, c.size, none⟩ 1) := by
                  unfold execOp; simp only [Act.eval]; rw [hy]; simp only [Sem.run_bind, convert_frozen (A := ⟨r.rb, r.base, none⟩) hu hE hsh, Result.andThen_ok, Sem.run_pure]
                unfold wpList; rw [if_pos (by simp [Region.wanted])]
                left
                unfold Oper.wp; rw [hrun]; exact ih (hR.put hd hv') hr
              · cases ht
            · cases ht
        · exact hr.elim
      · exact hr.elim
    · rename_i heq
      cases heq
      exact stepL_sound (fun st' φ' Ss' a' w' hj hR => ih hR hj) h hr
theorem SW.regionC {id : Nat} {l : List Oper} {Q : Exit → St → Prop} {st : St} (h : runC P N (l.map (·.dst)) l st (Q .normal)) : SW P N (.region id l.toArray false) Q st := fun w0 B0 φ Ss a w hR =>
  wp_region_lit (runC_sound (ops := l.toArray) (K := Q .normal) (fun _ h => h) l hR (by simpa using h))
theorem SW.regionCK {id : Nat} {l : List Oper} {y : Code} {Q : Exit → St → Prop} {st : St} (h : ∀ K : St → Prop, (∀ st, SW P N y Q st → K st) → runC P N (l.map (·.dst)) l st K) : SW P N (.seq (.region id l.toArray false) y) Q st :=
  SW.seq (SW.regionC (Q := Ex.then (SW P N y Q) Q) (h _ fun _ h => h))
end
section
variable {P : Program} {N : Sz} {ds : List (Option Tmp)} {l : List Oper} {K : St → Prop} {d : Option Tmp} {op : Op} {ty : TypeId} {pos : String} {af : Array Edge} {st : St} {g : Option (Nat × Bool)}
@[simp] theorem rc_nil : runC P N ds [] st K = K st := rfl
theorem rc_conv {s t : TypeId} {x : Tmp} : runC P N ds (⟨d, .convert s t (.tmp x), ty, pos, af, none⟩ :: l) st K = (match lk st.env x with
    | .sl id 0 len => dOk N d = true ∧ s = t ∧ tbyt P s = true ∧ 0 < len ∧ (match hb st.heap id with
      | some b => b.sz = 1 ∧ bytB b.es = true ∧ len = b.es.length ∧ runC P N ds l ⟨putE st.env d (.fz b.es), st.heap.set id none⟩ K
      | none => False)
    | _ => False) := by
  rw [runC]
theorem rc_other {o : Oper} (h : ∀ s t x, o.op ≠ .convert s t x) : runC P N ds (o :: l) st K = runA P N ds [o] st (fun s => runC P N ds l s K) := by
  obtain ⟨d, op, ty, pos, af, g⟩ := o; cases op <;> first | rfl | exact absurd rfl (h _ _ _)
@[simp] theorem rc_move {x : Operand} : runC P N ds (⟨d, .move x, ty, pos, af, g⟩ :: l) st K = runA P N ds [⟨d, .move x, ty, pos, af, g⟩] st (fun s => runC P N ds l s K) := rc_other (by intro _ _ _ e; cases e)
@[simp] theorem rc_assign {x : Operand} : runC P N ds (⟨d, .assign x, ty, pos, af, g⟩ :: l) st K = runA P N ds [⟨d, .assign x, ty, pos, af, g⟩] st (fun s => runC P N ds l s K) := rc_other (by intro _ _ _ e; cases e)
@[simp] theorem rc_extract {x : Operand} {i : Nat} : runC P N ds (⟨d, .extract x i, ty, pos, af, g⟩ :: l) st K = runA P N ds [⟨d, .extract x i, ty, pos, af, g⟩] st (fun s => runC P N ds l s K) := rc_other (by intro _ _ _ e; cases e)
@[simp] theorem rc_buildSlice {t : TypeId} {n : Nat} {ps : Array (Nat × Operand)} : runC P N ds (⟨d, .buildSlice t n ps, ty, pos, af, g⟩ :: l) st K = runA P N ds [⟨d, .buildSlice t n ps, ty, pos, af, g⟩] st (fun s => runC P N ds l s K) := rc_other (by intro _ _ _ e; cases e)
@[simp] theorem rc_load {t : TypeId} {x : Operand} : runC P N ds (⟨d, .load t x, ty, pos, af, g⟩ :: l) st K = runA P N ds [⟨d, .load t x, ty, pos, af, g⟩] st (fun s => runC P N ds l s K) := rc_other (by intro _ _ _ e; cases e)
@[simp] theorem rc_fieldAddr {t : TypeId} {x : Operand} {f : Nat} : runC P N ds (⟨d, .fieldAddr t x f, ty, pos, af, g⟩ :: l) st K = runA P N ds [⟨d, .fieldAddr t x f, ty, pos, af, g⟩] st (fun s => runC P N ds l s K) := rc_other (by intro _ _ _ e; cases e)
@[simp] theorem rc_call {c : Call} : runC P N ds (⟨d, .call c, ty, pos, af, g⟩ :: l) st K = runA P N ds [⟨d, .call c, ty, pos, af, g⟩] st (fun s => runC P N ds l s K) := rc_other (by intro _ _ _ e; cases e)
end
section
variable {w : World} {own : Nat → Prop} {φ : Refs} {k : Nat} {r : Option Ref}
theorem CR.setNil (hk : φ k = some r) : ∀ {e : List AV} {vs : List Value} {T : List Nat} {i : Nat}, CR w own φ e vs T → e[i]? = some .nil → CR w own φ (e.set i (.sl k 0 0)) vs T
  | [], _, _, i, _, hi => by simp at hi
  | c :: cs, _, _, i, h, hi => by
    obtain ⟨v, us, S1, S2, rfl, rfl, h1, h2⟩ := h.uncons
    cases i with
    | zero =>
      simp at hi; subst hi; cases h1
      simpa using CR.cons _ _ _ _ _ _ (VR.sl0 k 0 r _ hk) h2
    | succ i => exact .cons _ _ _ _ _ _ h1 (CR.setNil hk h2 (by simpa using hi))
end
theorem Wk.nilAt {N : Sz} {env : Env} {h : Heap} {j i : Nat} (sz : Nat) {b : Blk} {e : List AV} (hj : h[j]? = some (some b)) (he : b.es = [e]) (hi : e[i]? = some .nil) (hN : N.b ≤ h.length) :
    Wk N ⟨env, h⟩ ⟨env, (h ++ [some (⟨sz, []⟩ : Blk)]).set j (some ⟨b.sz, [e.set i (.sl h.length 0 0)]⟩)⟩ := by
  intro w0 B0 φ Ss a w hR; have hjl := (List.getElem?_eq_some_iff.1 hj).1
  have hφ := hR.fresh h.length (Nat.le_refl _)
  have R2 := hR.slot.null (k := h.length) (by simp) hφ (by rw [← hR.len]; simp) sz
  simp only [set_end] at R2; refine ⟨upd φ h.length none, Ss ++ [[]], ?_⟩
  refine Rel.mk R2.env (fun i' b' hi' => ?_) (by simpa using R2.len) (fun i' hi' => R2.fresh i' (by simpa using hi')) R2.nodup R2.bound R2.fr R2.size R2.defers R2.cx R2.keep; by_cases e' : i' = j
  · subst e'
    have hb' : b' = ⟨b.sz, [e.set i (.sl h.length 0 0)]⟩ := by
      rw [List.getElem?_set_self (by simp; omega)] at hi'; simpa using hi'.symm
    subst hb'; obtain ⟨S, q1, q2⟩ := R2.heap i' b (by rw [List.getElem?_append_left hjl]; exact hj); refine ⟨S, q1, ?_⟩; rcases q2 with ⟨_, h1, _⟩ | ⟨r, vs, T, e1, e2, e3, e4, e5, e6, e7, e8⟩
    · rw [he] at h1; cases h1
    · refine .inr ⟨r, vs, T, e1, e2, e3, fun x hx => ?_, by simpa [he] using e5, e6, ?_, e8⟩
      · simp only [List.mem_singleton] at hx
        subst hx; rw [List.length_set]; exact e4 e (by rw [he]; simp)
      · rw [he] at e7
        simp only [List.flatten_cons, List.flatten_nil, List.append_nil] at e7 ⊢; exact CR.setNil (by unfold upd; rw [if_pos rfl]) e7 hi
  · rw [List.getElem?_set_ne (Ne.symm e')] at hi'
    exact R2.heap i' b' hi'
end HK
