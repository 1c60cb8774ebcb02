/-
  My own text (road H): HK28.
-/
import Derived.Test.YtflanhfpjgcfbaaHK27
namespace HK
open Go
/-- The new names in the old ones. -/
def renN (ids : List Nat) : Nat → AV → AV
  | 0, v => v
  | d + 1, v => match v with
    | .sl id o l => .sl (ids.getD id 0) o l
    | .ptr id i j => .ptr (ids.getD id 0) i j
    | .agg cs => .agg (cs.map (renN ids d))
    | .tup cs => .tup (cs.map (renN ids d))
    | .fn f a b => .fn f (a.map (renN ids d)) (b.map (renN ids d))
    | .cond g v => .cond g (renN ids d v)
    | v => v
def renE (ids : List Nat) (env : Env) : Env → Prop
  | [] => True
  | (k, v) :: e => lk env k = renN ids 4 v ∧ renE ids env e
def renH (ids : List Nat) (h : Heap) : List Nat → Heap → Prop
  | [], [] => True
  | i :: is, y :: ys => (match y with | none => True | some b => h[i]? = some (some ⟨b.sz, b.es.map (List.map (renN ids 2))⟩)) ∧ renH ids h is ys
  | _, _ => False
theorem renE_lk {ids : List Nat} {env : Env} : ∀ {e : Env}, renE ids env e → ∀ t, lk env t = renN ids 4 (lk e t) ∨ lk e t = .undef
  | [], _, _ => .inr rfl
  | (k, v) :: e, h, t => by
    simp only [lk]
    split
    · rename_i hk; subst hk; exact .inl h.1
    · exact renE_lk h.2 t
theorem renH_get {ids : List Nat} {h : Heap} : ∀ {is : List Nat} {h' : Heap}, renH ids h is h' → h'.length = is.length ∧ ∀ (j : Nat) (b : Blk), h'[j]? = some (some b) → ∃ i, is[j]? = some i ∧ h[i]? = some (some ⟨b.sz, b.es.map (List.map (renN ids 2))⟩)
  | [], [], _ => ⟨rfl, fun j b hb => by simp at hb⟩
  | i :: is, y :: ys, hr => by
    obtain ⟨h1, h2⟩ := renH_get hr.2
    refine ⟨by simp [h1], fun j b hb => ?_⟩
    cases j with
    | zero =>
      simp at hb
      subst hb
      exact ⟨i, by simp, hr.1⟩
    | succ j => simpa using h2 j b (by simpa using hb)
  | [], _ :: _, hr => hr.elim
  | _ :: _, [], hr => hr.elim
section
variable {w : World} {own : Nat → Prop} {n : Nat} {ids : List Nat}
theorem cr_ren {φ φ' : Refs} {f : AV → AV} {p : AV → Bool} (hf : ∀ v x S, VR w own φ (f v) x S → p v = true → VR w own φ' v x S) : ∀ {cs : List AV} {vs : List Value} {S : List Nat}, CR w own φ (cs.map f) vs S → cs.all p = true → CR w own φ' cs vs S
  | [], _, _, k, _ => by cases k; exact .nil
  | c :: cs, _, _, k, h => by
    rw [List.map_cons] at k
    obtain ⟨v, us, S1, S2, rfl, rfl, k1, k2⟩ := k.uncons
    simp only [List.all_cons, Bool.and_eq_true] at h
    exact .cons _ _ _ _ _ _ (hf _ _ _ k1 h.1) (cr_ren hf k2 h.2)
theorem VR.ren : ∀ (d : Nat) {φ φ' : Refs} {v : AV} {x : Value} {S : List Nat}, (∀ j, j < n → φ' j = φ (ids.getD j 0)) → VR w own φ (renN ids d v) x S → lowN d n v = true → VR w own φ' v x S
  | 0, _, _, _, _, _, _, _, hl => by simp [lowN] at hl
  | d + 1, φ, φ', v, x, S, hφ, k, hl => by
    cases v with
    | sl id o l =>
      simp only [lowN, decide_eq_true_eq] at hl
      simp only [renN] at k
      cases k with
      | sl0 _ _ r A hr => exact .sl0 id o r A ((hφ id hl).trans hr)
      | sl _ _ _ cap r hr hcap hlim => exact .sl id o l cap r ((hφ id hl).trans hr) hcap hlim
    | ptr id i j =>
      simp only [lowN, decide_eq_true_eq] at hl
      simp only [renN] at k
      cases k with
      | ptr _ _ _ r hr => exact .ptr id i j r ((hφ id hl).trans hr)
    | agg cs =>
      simp only [lowN] at hl
      simp only [renN] at k
      cases k with
      | agg _ vs _ hc => exact .agg _ _ _ (cr_ren (fun v x S k h => VR.ren d hφ k h) hc hl)
    | tup cs =>
      simp only [lowN] at hl
      simp only [renN] at k
      cases k with
      | tup _ vs _ hc => exact .tup _ _ _ (cr_ren (fun v x S k h => VR.ren d hφ k h) hc hl)
    | fn f a b =>
      simp only [lowN, Bool.and_eq_true] at hl
      simp only [renN] at k
      cases k with
      | fn _ _ _ fs cs hc hc' => exact .fn _ _ _ _ _ (cr_ren (fun v x S k h => VR.ren d hφ k h) hc hl.1) (cr_ren (fun v x S k h => VR.ren d hφ k h) hc' hl.2)
    | cond g v =>
      simp only [lowN] at hl
      simp only [renN] at k
      cases k with
      | condT _ _ _ hv => exact .condT _ _ _ (VR.ren d hφ hv hl)
      | condF _ => exact .condF _
    | undef => cases k; exact .undef _
    | nil => cases k; exact .nil _
    | bool b => cases k; exact .bool _
    | int k' n' => simp only [renN] at k; cases k; exact .int _ _
    | str s => cases k; exact .str _
    | con v => cases k; exact .con _
    | fz es =>
      simp only [renN] at k
      cases k with
      | fz0 A cap => exact .fz0 A cap
      | fz _ sz A cap vs hlt ho hu hcap hs hc => exact .fz es sz A cap vs hlt ho hu hcap hs hc
    | own sz es =>
      simp only [renN] at k
      cases k with
      | own0 _ A => exact .own0 sz A
      | own _ _ rb o cap lim vs S hr hu hcap hlim hs hc => exact .own es sz rb o cap lim vs S hr hu hcap hlim hs hc
    | fptr es i j =>
      simp only [renN] at k
      cases k with
      | fptr _ sz A vs _ _ hlt ho hu hs hc => exact .fptr es sz A vs i j hlt ho hu hs hc
end
variable {N : Sz} {st : St}
/-- The heap with these blocks only, under new names; the values likewise. -/
theorem Wk.ren (ids : List Nat) {env' : Env} {h' : Heap} (h0 : N.b ≤ h'.length) (hfix : ∀ j, j < N.b → ids.getD j 0 = j) (hnd : ids.Nodup) (hlt : ∀ i ∈ ids, i < st.heap.length) (h1 : renE ids st.env env') (h2 : renH ids st.heap ids h')
    (h3 : lowE h'.length env' = true) (h4 : ∀ x ∈ h', lowB h'.length x = true) : Wk N st ⟨env', h'⟩ := by
  intro w0 B0 φ Ss a w hR
  obtain ⟨hl, hg⟩ := renH_get h2
  let φ' : Refs := fun j => if j < h'.length then φ (ids.getD j 0) else none
  have hφ : ∀ j, j < h'.length → φ' j = φ (ids.getD j 0) := fun j hj => by simp only [φ']; rw [if_pos hj]
  let Ss' : List (List Nat) := ids.map fun i => Ss.getD i []
  have hmem : ∀ b, b ∈ Ss'.flatten → b ∈ Ss.flatten := fun b hb => by
    obtain ⟨S, hS, hbS⟩ := List.mem_flatten.1 hb
    obtain ⟨i, hi, rfl⟩ := List.mem_map.1 hS
    have hil : i < Ss.length := by rw [hR.len]; exact hlt i hi
    rw [List.getD_eq_getElem?_getD, List.getElem?_eq_getElem hil] at hbS
    exact List.mem_flatten.2 ⟨_, List.getElem_mem hil, hbS⟩
  have hfz : ∀ b, b < w.heap.size → ¬ Own Ss b → ¬ Own Ss' b ∧ w.heap[b]? = w.heap[b]? := fun b _ ho => ⟨fun hb => ho (hmem b hb), rfl⟩
  have hdis := List.pairwise_flatten.1 hR.nodup
  have hnd' : Ss'.flatten.Nodup := by
    unfold List.Nodup
    rw [List.pairwise_flatten]
    refine ⟨fun S hS => ?_, ?_⟩
    · obtain ⟨i, hi, rfl⟩ := List.mem_map.1 hS
      have hil : i < Ss.length := by rw [hR.len]; exact hlt i hi
      rw [List.getD_eq_getElem?_getD, List.getElem?_eq_getElem hil]
      exact hdis.1 _ (List.getElem_mem hil)
    · rw [List.pairwise_map]
      refine List.Pairwise.imp_of_mem ?_ hnd
      intro i j hi hj hij x hx y hy
      have hil : i < Ss.length := by rw [hR.len]; exact hlt i hi
      have hjl : j < Ss.length := by rw [hR.len]; exact hlt j hj
      rw [List.getD_eq_getElem?_getD, List.getElem?_eq_getElem hil] at hx
      rw [List.getD_eq_getElem?_getD, List.getElem?_eq_getElem hjl] at hy
      rcases Nat.lt_or_gt_of_ne hij with h | h
      · exact (List.pairwise_iff_getElem.1 hdis.2 i j hil hjl h) x hx y hy
      · exact fun e => (List.pairwise_iff_getElem.1 hdis.2 j i hjl hil h) y hy x hx e.symm
  refine ⟨φ', Ss', fun t => ?_, fun j b hb => ?_, by simp [Ss', hl], fun j hj => if_neg (Nat.not_lt.2 hj), hnd', fun b hb => hR.bound b (hmem b hb), hR.fr, hR.size, hR.defers, hR.cx, fun i r e => ?_⟩
  · have hv : VR w (Own Ss) φ' (lk env' t) (a.tmps.getD t Go.undef) [] := by
      rcases renE_lk h1 t with e | e
      · exact VR.ren 4 hφ (by rw [← e]; exact hR.env t) (lowE_lk h3 t)
      · rw [e]; exact .undef _
    exact hv.tr hfz (Nat.le_refl _) (fun _ _ e => e) (fun _ _ => rfl)
  · obtain ⟨i, k1, k2⟩ := hg j b hb
    have hjl : j < h'.length := (List.getElem?_eq_some_iff.1 hb).1
    obtain ⟨S, q1, q2⟩ := hR.heap i _ k2
    have hgj : ids.getD j 0 = i := by rw [List.getD_eq_getElem?_getD, k1]; rfl
    refine ⟨S, by simp [Ss', k1, q1], ?_⟩
    have hlow : (b.es.all fun e => e.all (lowN 2 h'.length)) = true := h4 _ (List.mem_of_getElem? hb)
    have hφj : φ' j = φ i := (hφ j hjl).trans (by rw [hgj])
    have q3 : BR w (Own Ss) φ' j b S := by
      rcases q2 with ⟨e1, e2, e3⟩ | ⟨r, vs, T, e1, e2, e3, e4, e5, e6, e7, e8⟩
      · exact .inl ⟨hφj.trans e1, by simpa using e2, e3⟩
      · refine .inr ⟨r, vs, T, hφj.trans e1, e2, e3, fun e he => ?_, by simpa using e5, e6, ?_, e8⟩
        · have := e4 _ (List.mem_map.2 ⟨e, he, rfl⟩)
          simpa using this
        · have e7' : CR w (Own Ss) φ (b.es.flatten.map (renN ids 2)) vs T := by
            rw [List.map_flatten]; exact e7
          refine cr_ren (fun v x S k h => VR.ren 2 hφ k h) e7' ?_
          rw [List.all_eq_true] at hlow ⊢
          intro v hv
          obtain ⟨e, he, hve⟩ := List.mem_flatten.1 hv
          exact List.all_eq_true.1 (hlow e he) v hve
    exact q3.tr hfz (Nat.le_refl _) (fun _ _ e => e) (fun _ _ => rfl)
  · have hi : i < N.b := by
      rcases Nat.lt_or_ge i N.b with hlt | hge
      · exact hlt
      · rw [hR.cx i hge] at e; cases e
    have : φ' i = φ i := (hφ i (by omega)).trans (by rw [hfix i hi])
    exact this.trans (hR.keep i r e)
section
variable {P : Program} {N : Sz} {ds : List (Option Tmp)} {rest : List Oper} {l : List (Bool × Oper)} {K : St → Prop} {d : Option Tmp} {env : Env} {h : Heap}
/-- The same, where what is seen of the arguments is to be reckoned. -/
theorem CallK.fzE {fid : FuncId} {as as' : List AV} {out : AV} (hf : Fn P fid as' out) (he : as.map (viewN h 6) = as') (k : runA P N ds rest ⟨putE env d (viewN [] 6 out), h⟩ K) : CallK P N ds rest d env h K fid as := CallK.fz (by rw [he]; exact hf) k
theorem CallK.imE {fid : FuncId} {as as' : List AV} {out : AV} (hf : Fn P fid as' out) (he : as.map (viewN h 6) = as') (hok : okI out = true) (k : runA P N ds rest ⟨putE env d (imp h.length out).1, h ++ (imp h.length out).2.map some⟩ K) : CallK P N ds rest d env h K fid as :=
  CallK.im (by rw [he]; exact hf) hok k
theorem CallQ.fzE {fid : FuncId} {as as' : List AV} {out : AV} (hf : Fn P fid as' out) (he : as.map (viewN h 6) = as') (k : runQ P N ds l ⟨putE env d (viewN [] 6 out), h⟩ K) : CallQ P N ds l d env h K fid as := CallQ.fz (by rw [he]; exact hf) k
end
end HK
