/-
  My own text (road H): HK30.
-/
import Derived.Test.YtflanhfpjgcfbaaHK29
set_option linter.unusedSimpArgs false
set_option linter.unusedVariables false
namespace HK
open Go
section
variable (ids : List Nat) (d : Nat)
@[simp] theorem renN_int (k : IntKind) (n : Int) : renN ids (d + 1) (.int k n) = .int k n := rfl
@[simp] theorem renN_bool (b : Bool) : renN ids (d + 1) (.bool b) = .bool b := rfl
@[simp] theorem renN_str (b : ByteArray) : renN ids (d + 1) (.str b) = .str b := rfl
@[simp] theorem renN_nil : renN ids (d + 1) .nil = .nil := rfl
@[simp] theorem renN_fz (es : List (List AV)) : renN ids (d + 1) (.fz es) = .fz es := rfl
@[simp] theorem renN_own (sz : Nat) (es : List (List AV)) : renN ids (d + 1) (.own sz es) = .own sz es := rfl
@[simp] theorem renN_sl (i o l : Nat) : renN ids (d + 1) (.sl i o l) = .sl (ids.getD i 0) o l := rfl
@[simp] theorem renN_agg (cs : List AV) : renN ids (d + 1) (.agg cs) = .agg (cs.map (renN ids d)) := rfl
@[simp] theorem renN_tup (cs : List AV) : renN ids (d + 1) (.tup cs) = .tup (cs.map (renN ids d)) := rfl
end
/-- No name from n on in these elements. -/
def lowEs (n : Nat) (es : List (List AV)) : Bool := es.all fun e => e.all (lowN 2 n)
@[simp] theorem lowB_none (n : Nat) : lowB n none = true := rfl
@[simp] theorem lowB_some (n sz : Nat) (es : List (List AV)) : lowB n (some ⟨sz, es⟩) = lowEs n es := rfl
@[simp] theorem lowEs_nil (n : Nat) : lowEs n [] = true := rfl
@[simp] theorem lowEs_cons (n : Nat) (e : List AV) (es : List (List AV)) : lowEs n (e :: es) = (e.all (lowN 2 n) && lowEs n es) := rfl
@[simp] theorem lowEs_app (n : Nat) (a b : List (List AV)) : lowEs n (a ++ b) = (lowEs n a && lowEs n b) := by simp [lowEs]
theorem lowEs_take {n : Nat} {es : List (List AV)} (h : lowEs n es = true) (k : Nat) : lowEs n (es.take k) = true := by
  unfold lowEs at h ⊢
  rw [List.all_eq_true] at h ⊢
  exact fun x hx => h x (List.mem_of_mem_take hx)
theorem lowEs_drop {n : Nat} {es : List (List AV)} (h : lowEs n es = true) (k : Nat) : lowEs n (es.drop k) = true := by
  unfold lowEs at h ⊢
  rw [List.all_eq_true] at h ⊢
  exact fun x hx => h x (List.mem_of_mem_drop hx)
theorem lowEs_rep {n : Nat} {e : List AV} (h : e.all (lowN 2 n) = true) : ∀ k, lowEs n (List.replicate k e) = true
  | 0 => rfl
  | k + 1 => by rw [List.replicate_succ, lowEs_cons, h, lowEs_rep h k]; rfl
theorem lowEs_of {n : Nat} {es : List (List AV)} (h : ∀ x ∈ es, ∀ y ∈ x, lowN 2 n y = true) : lowEs n es = true := by
  unfold lowEs
  rw [List.all_eq_true]
  intro x hx
  rw [List.all_eq_true]
  exact h x hx
theorem strEs_of {d : Nat} {es : List (List AV)} (h : ∀ x ∈ es, ∀ y ∈ x, strN d y = true) : (es.all fun e => e.all (strN d)) = true := by
  rw [List.all_eq_true]
  intro x hx
  rw [List.all_eq_true]
  exact h x hx
@[simp] theorem lowN_int (d n : Nat) (k : IntKind) (m : Int) : lowN (d + 1) n (.int k m) = true := rfl
@[simp] theorem lowN_bool (d n : Nat) (b : Bool) : lowN (d + 1) n (.bool b) = true := rfl
@[simp] theorem lowN_str (d n : Nat) (b : ByteArray) : lowN (d + 1) n (.str b) = true := rfl
@[simp] theorem lowN_fz (d n : Nat) (es : List (List AV)) : lowN (d + 1) n (.fz es) = true := rfl
@[simp] theorem lowN_nil (d n : Nat) : lowN (d + 1) n .nil = true := rfl
@[simp] theorem lowN_own (d n sz : Nat) (es : List (List AV)) : lowN (d + 1) n (.own sz es) = true := rfl
@[simp] theorem lowN_sl (d n i o l : Nat) : lowN (d + 1) n (.sl i o l) = decide (i < n) := rfl
theorem fn_soft {P : Program} {f : FuncId} {xs ys : List AV} {out : AV} (h : Fn P f ys out) (hs : ∀ (w : World) vs, CR w (fun _ => False) nof xs vs [] → CR w (fun _ => False) nof ys vs []) : Fn P f xs out := ⟨h.1, fun w vs hc => h.2 w vs (hs w vs hc)⟩
theorem cr_nil {w : World} {own : Nat → Prop} {φ : Refs} : ∀ {xs ys : List AV} {vs : List Value} {S : List Nat}, CR w own φ xs vs S → S = [] → (xs.length = ys.length ∧ ∀ (k : Nat) u v, xs[k]? = some u → ys[k]? = some v → softV u v) → CR w own φ ys vs []
  | [], [], _, _, h, e, _ => by cases h; exact .nil
  | a :: xs, b :: ys, _, _, h, e, hs => by
    obtain ⟨v, us, S1, S2, rfl, rfl, k1, k2⟩ := h.uncons
    have e1 : S1 = [] := by simp at e; exact e.1
    have e2 : S2 = [] := by simp at e; exact e.2
    subst e1; subst e2
    have q := CR.cons _ _ _ _ _ _ (softV_spec (hs.2 0 a b rfl rfl) k1) (cr_nil (ys := ys) k2 rfl ⟨by simpa using hs.1, fun k u v h1 h2 => hs.2 (k + 1) u v (by simpa using h1) (by simpa using h2)⟩)
    simpa using q
  | [], _ :: _, _, _, _, _, hs => by simp at hs
  | _ :: _, [], _, _, _, _, hs => by simp at hs
theorem softV_refl (u : AV) : softV u u := by cases u <;> simp [softV]
/-- nil for an empty slice that is read only. -/
theorem Fn.nil1 {P : Program} {f : FuncId} {xs : List AV} {out : AV} (h : Fn P f (.fz [] :: xs) out) : Fn P f (.nil :: xs) out :=
  fn_soft h fun _ _ hc => cr_nil hc rfl ⟨rfl, fun k u v h1 h2 => by
    cases k with
    | zero => simp at h1 h2; subst h1; subst h2; trivial
    | succ k => simp at h1 h2; rw [h1] at h2; cases h2; exact softV_refl _⟩
theorem Fn.nil2 {P : Program} {f : FuncId} {xs : List AV} {out : AV} (h : Fn P f (.fz [] :: .fz [] :: xs) out) : Fn P f (.nil :: .nil :: xs) out :=
  fn_soft h fun _ _ hc => cr_nil hc rfl ⟨rfl, fun k u v h1 h2 => by
    match k with
    | 0 => simp at h1 h2; subst h1; subst h2; trivial
    | 1 => simp at h1 h2; subst h1; subst h2; trivial
    | k + 2 => simp at h1 h2; rw [h1] at h2; cases h2; exact softV_refl _⟩
section
variable {P : Program} {N : Sz} {ds : List (Option Tmp)} {rest : List Oper} {l : List (Bool × Oper)} {K : St → Prop} {d : Option Tmp} {env : Env} {h : Heap}
theorem CallG.fzE {fid : FuncId} {xs ys : List AV} {out : AV} {g : Bool} {gks : Prop} (hg : g = true → gks) (hf : g = true → Fn P fid ys out) (he : xs.map (viewN h 6) = ys) (k : runA P N ds rest ⟨putE env d (.cond g (viewN [] 6 out)), h⟩ K) : CallG P N ds rest d env h K fid g gks xs := CallG.fz hg (fun e => by rw [he]; exact hf e) k
theorem CallQG.fzE {fid : FuncId} {xs ys : List AV} {out : AV} {g : Bool} {gks : Prop} (hg : g = true → gks) (hf : g = true → Fn P fid ys out) (he : xs.map (viewN h 6) = ys) (k : runQ P N ds l ⟨putE env d (.cond g (viewN [] 6 out)), h⟩ K) : CallQG P N ds l d env h K fid g gks xs := CallQG.fz hg (fun e => by rw [he]; exact hf e) k
end
section
variable {P : Program} {N : Sz} {ds : List (Option Tmp)} {rest : List Oper} {l : List (Bool × Oper)} {K : St → Prop} {d : Option Tmp} {env : Env} {h : Heap} {ty : TypeId} {pos : String} {af : Array Edge}
@[simp] theorem rq_empty {t : TypeId} : runQ P N ds ((false, ⟨d, .buildSlice t 0 #[], ty, pos, af, none⟩) :: l) ⟨env, h⟩ K = (dOk N d = true ∧ (tel P t).isSome = true ∧ runQ P N ds l ⟨putE env d .nil, h⟩ K) := by
  simp [runQ, Q1, gval, cls]
@[simp] theorem rq_app {s x : Operand} {t xt : TypeId} : runQ P N ds ((true, ⟨d, .call ⟨.builtin .append, #[s, x], #[t, xt]⟩, ty, pos, af, none⟩) :: l) ⟨env, h⟩ K =
    (dOk N d = true ∧ st1 (ev env s) = .nil ∧ (evApp P h t xt (ev env s) (ev env x)).1 ∧ runQ P N ds l ⟨putE env d (evApp P h t xt (ev env s) (ev env x)).2.2, h ++ [some (appBlk P h t (ev env x))]⟩ K) := rfl
@[simp] theorem run_clear {x : Operand} {t : TypeId} : runA P N ds (⟨d, .call ⟨.builtin .clear, #[x], #[t]⟩, ty, pos, af, none⟩ :: rest) ⟨env, h⟩ K =
    (dOk N d = true ∧ (evClr P h t (ev env x)).1 ∧ runA P N ds rest ⟨putE env d .undef, (evClr P h t (ev env x)).2⟩ K) := rfl
/-- A call of a function value. -/
def CallV (P : Program) (N : Sz) (ds : List (Option Tmp)) (rest : List Oper) (d : Option Tmp) (env : Env) (h : Heap) (K : St → Prop) (f : AV) (xs : List AV) : Prop := match f with
  | .fn (.func fid) first cap => CallK P N ds rest d env h K fid (first ++ xs ++ cap)
  | _ => False
@[simp] theorem CallV_fn {fid : FuncId} {first cap xs : List AV} : CallV P N ds rest d env h K (.fn (.func fid) first cap) xs = CallK P N ds rest d env h K fid (first ++ xs ++ cap) := rfl
@[simp] theorem run_callV {v : Tmp} {args : Array Operand} {ats : Array TypeId} : runA P N ds (⟨d, .call ⟨.value (.tmp v), args, ats⟩, ty, pos, af, none⟩ :: rest) ⟨env, h⟩ K =
    (dOk N d = true ∧ (gk (lk env v) ∧ allGk (ev env) args.toList) ∧ CallV P N ds rest d env h K (st1 (lk env v)) (args.toList.map fun x => st1 (ev env x))) := by
  simp only [runA, gval, cls, clsC, calleeOf, calleeGk, ev]
  cases hv : st1 (lk env v) with
  | fn f first cap =>
    cases f with
    | func fid => rfl
    | _ => simp [CallV]
  | _ => simp [CallV]
end
attribute [simp] cvH partE elemV evClr appBlk
theorem set_hb {h : Heap} {id : Nat} {b : Blk} (e : hb h id = some b) : h.set id (some b) = h := by
  refine List.ext_getElem? fun i => ?_
  rw [List.getElem?_set]
  split
  · rename_i hi
    subst hi
    have := hb_spec e
    split
    · exact this.symm
    · rw [List.getElem?_eq_none (by omega)]
  · rfl
end HK
