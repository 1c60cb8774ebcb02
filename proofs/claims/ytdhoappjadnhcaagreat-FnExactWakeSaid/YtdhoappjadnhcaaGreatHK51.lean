import Derived.Test.YtdhoappjadnhcaaGreatG2d
/-
  My own texts (road H): HK51.
-/
set_option maxHeartbeats 8000000
set_option linter.unusedVariables false
set_option linter.unusedSimpArgs false
set_option linter.unusedSectionVars false
namespace HK
open Go
section
variable {P : Program} {N : Sz} {w0 : World} {B0 : Cx} {φ : Refs} {Ss : List (List Nat)} {st : St} {a : Act} {w : World}
def bytB : List (List AV) → Bool
  | [] => true
  | [.int .u8 _] :: l => bytB l
  | _ => false
theorem bytB_cr {own own' : Nat → Prop} {φ φ' : Refs} {w w' : World} : ∀ {es : List (List AV)} {vs : List Value} {S : List Nat}, bytB es = true → CR w own φ es.flatten vs S → S = [] ∧ CR w' own' φ' es.flatten vs []
  | [], _, _, _, h => by cases h; exact ⟨rfl, .nil⟩
  | e0 :: es, vs, S, hb, h => by
    unfold bytB at hb; split at hb
    · rename_i heq; cases heq
    · rename_i n l heq
      cases heq
      simp only [List.flatten_cons, List.cons_append, List.nil_append] at h ⊢; obtain ⟨v, us, S1, S2, rfl, rfl, h1, h2⟩ := h.uncons; cases h1
      obtain ⟨rfl, h3⟩ := bytB_cr hb h2; exact ⟨rfl, by simpa using CR.cons _ _ _ _ _ _ (.int _ _) h3⟩
    · cases hb
theorem freeze_block {w : World} {A : Addr} {n b : Nat} (h : b ≠ A.block) : (w.freeze A n).heap[b]? = w.heap[b]? := by
  unfold World.freeze; split
  · rfl
  · simp only [Array.getElem?_modify]
    rw [if_neg (fun e => h e.symm)]
theorem freeze_size {w : World} {A : Addr} {n : Nat} : (w.freeze A n).heap.size = w.heap.size := by
  unfold World.freeze; split
  · rfl
  · simp
theorem freeze_cell {w : World} {A B : Addr} {n : Nat} : (w.freeze A n).cell? B = w.cell? B := by
  by_cases h : B.block = A.block
  · unfold World.freeze
    by_cases hn : n = 0
    · rw [if_pos hn]
    · rw [if_neg hn]
      unfold World.cell?; simp only [Array.getElem?_modify, h, if_true]
      cases hx : w.heap[A.block]? with
      | none => rfl
      | some o => cases o <;> rfl
  · exact cell_of (freeze_block h)
theorem Rel.frozen (h : Rel N w0 B0 φ Ss st a w) {id len cap : Nat} {b : Blk} (hb : st.heap[id]? = some (some b)) {r : Ref} (hφ : φ id = some (some r)) (hn : bytB b.es = true) (hl : len = b.es.length) (hc : len ≤ cap) (hz : b.sz = 1) (k : Nat) :
    ∃ Ss', Rel N w0 B0 φ Ss' ⟨st.env, st.heap.set id none⟩ a (w.freeze ⟨r.rb, k, none⟩ 1) ∧ VR (w.freeze ⟨r.rb, k, none⟩ 1) (Own Ss') φ (.fz b.es) (.slice (some ⟨r.rb, r.base, none⟩) len cap) [] := by
  obtain ⟨S, hS, hB⟩ := h.heap id b hb; rcases hB with ⟨h1, _, _⟩ | ⟨r', vs, T, h1, h2, h3, h4, h5, h6, h7, rfl⟩
  · rw [hφ] at h1; cases h1
  rw [hφ] at h1; cases h1; obtain ⟨rfl, h8⟩ := bytB_cr (w' := w.freeze ⟨r.rb, k, none⟩ 1) (own' := Own (Ss.set id [])) (φ' := nof) hn h7; obtain ⟨A, B, e1, e2⟩ := flatten_set hS []
  have hsub : ∀ x, Own (Ss.set id []) x → Own Ss x ∧ x ≠ r.rb := fun x hx => by
    unfold Own at hx ⊢; rw [e2] at hx; have hnd := h.nodup
    rw [e1] at hnd; rw [e1]; simp only [List.nil_append] at hx; refine ⟨by rcases List.mem_append.1 hx with h | h <;> simp [h], fun e => ?_⟩; subst e; rw [List.nodup_append] at hnd; rcases List.mem_append.1 hx with h | h
    · exact hnd.2.2 _ h _ (by simp) rfl
    · have := hnd.2.1
      rw [List.nodup_append] at this; exact this.2.2 _ (by simp) _ h rfl
  have hrb : Own Ss r.rb := by unfold Own; rw [e1]; simp
  have hfz : ∀ b, b < w.heap.size → ¬ Own Ss b → ¬ Own (Ss.set id []) b ∧ (w.freeze ⟨r.rb, k, none⟩ 1).heap[b]? = w.heap[b]? := fun b _ ho => ⟨fun h => ho (hsub b h).1, freeze_block (fun e => ho (by rw [e]; exact hrb))⟩
  have hsz := Nat.le_of_eq (freeze_size (w := w) (A := ⟨r.rb, k, none⟩) (n := 1)).symm
  have hos : (w.freeze ⟨r.rb, k, none⟩ 1).os = w.os ∧ (w.freeze ⟨r.rb, k, none⟩ 1).tape = w.tape ∧ (w.freeze ⟨r.rb, k, none⟩ 1).output = w.output := by
    unfold World.freeze; split <;> exact ⟨rfl, rfl, rfl⟩
  have hlt : r.rb < w.heap.size := (h.bound r.rb hrb).1
  refine ⟨Ss.set id [], ⟨fun t => (h.env t).tr hfz hsz (fun _ _ e => e) (fun _ hb => by cases hb), fun i b' hi => ?_, by simp [h.len], fun i hi => h.fresh i (by simpa using hi), ?_, fun b hb => ?_,
    ⟨hos.1.trans h.fr.os, hos.2.1.trans h.fr.tape, hos.2.2.trans h.fr.output, Nat.le_trans h.fr.size hsz, fun b e1 e2 => ?_⟩, h.size, h.defers, h.cx, h.keep⟩, ?_⟩
  · by_cases e : i = id
    · subst e
      rw [List.getElem?_set] at hi; split at hi
      · split at hi <;> cases hi
      · rename_i hx; exact absurd rfl hx
    · rw [List.getElem?_set_ne (Ne.symm e)] at hi
      obtain ⟨S', q1, q2⟩ := h.heap i b' hi; refine ⟨S', by rw [List.getElem?_set_ne (Ne.symm e)]; exact q1, q2.tr hfz hsz (fun _ _ e => e) fun x hx => freeze_block fun e' => ?_⟩; simp only at e'; rw [e'] at hx
      exact nodup_disj h.nodup hS q1 (Ne.symm e) (List.mem_cons_self ..) hx
  · have := h.nodup
    rw [e1] at this; rw [e2]; exact this.sublist (by simp)
  · have := h.bound b (hsub b hb).1
    exact ⟨by rw [freeze_size]; exact this.1, this.2⟩
  · refine (freeze_block fun e => ?_).trans (h.fr.block b e1 e2)
    simp only at e; subst e; rcases (h.bound _ hrb).2 with h | h
    · exact e2 h
    · omega
  · subst hl
    refine .fz b.es 1 ⟨r.rb, r.base, none⟩ cap vs (by rw [freeze_size]; exact hlt) (fun hx => (hsub _ hx).2 rfl) (fun e he => by rw [← hz]; exact h4 e he) hc (fun n v hv => ?_) h8; rw [freeze_cell]; exact h6 n v hv
def tslc (P : Program) (t : TypeId) : Bool := tbyt P t
def runC (P : Program) (N : Sz) (ds : List (Option Tmp)) : List Oper → St → (St → Prop) → Prop
  | [], st, K => K st
  | ⟨d, .convert s t (.tmp x), ty, pos, af, none⟩ :: rest, st, K => match lk st.env x with
    | .sl id 0 len => dOk N d = true ∧ s = t ∧ tbyt P s = true ∧ 0 < len ∧ (match hb st.heap id with
      | some b => b.sz = 1 ∧ bytB b.es = true ∧ len = b.es.length ∧ runC P N ds rest ⟨putE st.env d (.fz b.es), st.heap.set id none⟩ K
      | none => False)
    | _ => False
  | o :: rest, st, K => runA P N ds [o] st fun s => runC P N ds rest s K
end
section
variable {P : Program} {N : Sz} {ds : List (Option Tmp)} {l : List Oper} {K : St → Prop} {d : Option Tmp} {op : Op} {ty : TypeId} {pos : String} {af : Array Edge} {st : St} {g : Option (Nat × Bool)}
@[simp] theorem rc_nil : runC P N ds [] st K = K st := rfl
theorem rc_other {o : Oper} (h : ∀ s t x, o.op ≠ .convert s t x) : runC P N ds (o :: l) st K = runA P N ds [o] st (fun s => runC P N ds l s K) := by
  obtain ⟨d, op, ty, pos, af, g⟩ := o; cases op <;> first | rfl | exact absurd rfl (h _ _ _)
@[simp] theorem rc_move {x : Operand} : runC P N ds (⟨d, .move x, ty, pos, af, g⟩ :: l) st K = runA P N ds [⟨d, .move x, ty, pos, af, g⟩] st (fun s => runC P N ds l s K) := rc_other (by intro _ _ _ e; cases e)
@[simp] theorem rc_assign {x : Operand} : runC P N ds (⟨d, .assign x, ty, pos, af, g⟩ :: l) st K = runA P N ds [⟨d, .assign x, ty, pos, af, g⟩] st (fun s => runC P N ds l s K) := rc_other (by intro _ _ _ e; cases e)
@[simp] theorem rc_extract {x : Operand} {i : Nat} : runC P N ds (⟨d, .extract x i, ty, pos, af, g⟩ :: l) st K = runA P N ds [⟨d, .extract x i, ty, pos, af, g⟩] st (fun s => runC P N ds l s K) := rc_other (by intro _ _ _ e; cases e)
@[simp] theorem rc_buildSlice {t : TypeId} {n : Nat} {ps : Array (Nat × Operand)} : runC P N ds (⟨d, .buildSlice t n ps, ty, pos, af, g⟩ :: l) st K = runA P N ds [⟨d, .buildSlice t n ps, ty, pos, af, g⟩] st (fun s => runC P N ds l s K) := rc_other (by intro _ _ _ e; cases e)
@[simp] theorem rc_load {t : TypeId} {x : Operand} : runC P N ds (⟨d, .load t x, ty, pos, af, g⟩ :: l) st K = runA P N ds [⟨d, .load t x, ty, pos, af, g⟩] st (fun s => runC P N ds l s K) := rc_other (by intro _ _ _ e; cases e)
@[simp] theorem rc_fieldAddr {t : TypeId} {x : Operand} {f : Nat} : runC P N ds (⟨d, .fieldAddr t x f, ty, pos, af, g⟩ :: l) st K = runA P N ds [⟨d, .fieldAddr t x f, ty, pos, af, g⟩] st (fun s => runC P N ds l s K) := rc_other (by intro _ _ _ e; cases e)
@[simp] theorem rc_call {c : Call} : runC P N ds (⟨d, .call c, ty, pos, af, g⟩ :: l) st K = runA P N ds [⟨d, .call c, ty, pos, af, g⟩] st (fun s => runC P N ds l s K) := rc_other (by intro _ _ _ e; cases e)
end
section
variable {w : World} {own : Nat → Prop} {φ : Refs} {k : Nat} {r : Option Ref}
theorem CR.setNil (hk : φ k = some r) : ∀ {e : List AV} {vs : List Value} {T : List Nat} {i : Nat}, CR w own φ e vs T → e[i]? = some .nil → CR w own φ (e.set i (.sl k 0 0)) vs T
  | [], _, _, i, _, hi => by simp at hi
  | c :: cs, _, _, i, h, hi => by
    obtain ⟨v, us, S1, S2, rfl, rfl, h1, h2⟩ := h.uncons
    cases i with
    | zero =>
      simp at hi; subst hi; cases h1
      simpa using CR.cons _ _ _ _ _ _ (VR.sl0 k 0 r _ hk) h2
    | succ i => exact .cons _ _ _ _ _ _ h1 (CR.setNil hk h2 (by simpa using hi))
end
theorem Wk.nilAt {N : Sz} {env : Env} {h : Heap} {j i : Nat} (sz : Nat) {b : Blk} {e : List AV} (hj : h[j]? = some (some b)) (he : b.es = [e]) (hi : e[i]? = some .nil) (hN : N.b ≤ h.length) :
    Wk N ⟨env, h⟩ ⟨env, (h ++ [some (⟨sz, []⟩ : Blk)]).set j (some ⟨b.sz, [e.set i (.sl h.length 0 0)]⟩)⟩ := by
  intro w0 B0 φ Ss a w hR; have hjl := (List.getElem?_eq_some_iff.1 hj).1
  have hφ := hR.fresh h.length (Nat.le_refl _)
  have R2 := hR.slot.null (k := h.length) (by simp) hφ (by rw [← hR.len]; simp) sz
  simp only [set_end] at R2; refine ⟨upd φ h.length none, Ss ++ [[]], ?_⟩
  refine Rel.mk R2.env (fun i' b' hi' => ?_) (by simpa using R2.len) (fun i' hi' => R2.fresh i' (by simpa using hi')) R2.nodup R2.bound R2.fr R2.size R2.defers R2.cx R2.keep; by_cases e' : i' = j
  · subst e'
    have hb' : b' = ⟨b.sz, [e.set i (.sl h.length 0 0)]⟩ := by
      rw [List.getElem?_set_self (by simp; omega)] at hi'; simpa using hi'.symm
    subst hb'; obtain ⟨S, q1, q2⟩ := R2.heap i' b (by rw [List.getElem?_append_left hjl]; exact hj); refine ⟨S, q1, ?_⟩; rcases q2 with ⟨_, h1, _⟩ | ⟨r, vs, T, e1, e2, e3, e4, e5, e6, e7, e8⟩
    · rw [he] at h1; cases h1
    · refine .inr ⟨r, vs, T, e1, e2, e3, fun x hx => ?_, by simpa [he] using e5, e6, ?_, e8⟩
      · simp only [List.mem_singleton] at hx
        subst hx; rw [List.length_set]; exact e4 e (by rw [he]; simp)
      · rw [he] at e7
        simp only [List.flatten_cons, List.flatten_nil, List.append_nil] at e7 ⊢; exact CR.setNil (by unfold upd; rw [if_pos rfl]) e7 hi
  · rw [List.getElem?_set_ne (Ne.symm e')] at hi'
    exact R2.heap i' b' hi'
end HK
