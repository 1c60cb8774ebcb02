/-
  My own text (road H): HK24.
-/
import Derived.Test.YtflanhfpjgcfbaaHK23
namespace HK
open Go
/-- An operation and what it gave. -/
structure It where
  o : Oper
  v : AV
  bl : List Blk
def It.app (it : It) (st : St) : St := ⟨putE st.env it.o.dst it.v, st.heap ++ it.bl.map some⟩
/-- Some of the operations are done. -/
def stM : List It → (Nat → Bool) → St → St
  | [], _, st => st
  | it :: its, fs, st => stM its (fun k => fs (k + 1)) (if fs 0 then it.app st else st)
def blM : List It → (Nat → Bool) → Heap
  | [], _ => []
  | it :: its, fs => (if fs 0 then it.bl.map some else []) ++ blM its (fun k => fs (k + 1))
def pre (k : Nat) : Nat → Bool := fun j => decide (j < k)
def setF (fs : Nat → Bool) (k : Nat) : Nat → Bool := fun j => if j = k then true else fs j

theorem stM_heap : ∀ (its : List It) (fs : Nat → Bool) (st : St), (stM its fs st).heap = st.heap ++ blM its fs
  | [], _, st => by simp [stM, blM]
  | it :: its, fs, st => by
    simp only [stM, blM]
    rw [stM_heap]
    split <;> simp [It.app]
theorem stM_congr : ∀ (its : List It) (fs fs' : Nat → Bool) (st : St), (∀ k, k < its.length → fs k = fs' k) → stM its fs st = stM its fs' st
  | [], _, _, _, _ => rfl
  | it :: its, fs, fs', st, h => by
    simp only [stM]
    rw [h 0 (by simp)]
    exact stM_congr its _ _ _ fun k hk => h (k + 1) (by simp; omega)
theorem stM_lk {t : Nat} : ∀ (its : List It) (fs fs' : Nat → Bool) (st st' : St), (∀ k it, its[k]? = some it → it.o.dst = some t → fs k = fs' k) → lk st.env t = lk st'.env t →
    lk (stM its fs st).env t = lk (stM its fs' st').env t
  | [], _, _, _, _, _, h => h
  | it :: its, fs, fs', st, st', h, he => by
    simp only [stM]
    refine stM_lk its _ _ _ _ (fun k x hk => h (k + 1) x (by simpa using hk)) ?_
    by_cases hd : it.o.dst = some t
    · rw [h 0 it (by simp) hd]
      split
      · simp [It.app, hd, putE, lk]
      · exact he
    · have hn : ∀ s : St, lk (it.app s).env t = lk s.env t := fun s => by
        cases hx : it.o.dst with
        | none => simp [It.app, hx, putE]
        | some d =>
          have : t ≠ d := fun e => hd (by rw [hx, e])
          simp [It.app, hx, putE, lk, this]
      split <;> split <;> simp only [hn, he]
theorem stM_put {t : Nat} {k : Nat} {it : It} : ∀ (its : List It) (fs : Nat → Bool) (st : St), its[k]? = some it → fs k = false → (∀ k' it', its[k']? = some it' → k' ≠ k → ∀ d, it.o.dst = some d → it'.o.dst ≠ some d) →
    lk (putE (stM its fs st).env it.o.dst it.v) t = lk (stM its (setF fs k) st).env t
  | its, fs, st, hk, hf, hd => by
    cases hx : it.o.dst with
    | none =>
      simp only [putE]
      refine stM_lk its _ _ st st (fun j x hj hxd => ?_) rfl
      unfold setF
      split
      · rename_i e; subst e; rw [hk] at hj; cases hj; rw [hx] at hxd; cases hxd
      · rfl
    | some d =>
      by_cases htd : t = d
      · subst htd
        simp only [putE, lk, if_true]
        clear hf
        induction its generalizing k fs st with
        | nil => simp at hk
        | cons x its ih =>
          simp only [stM]
          cases k with
          | zero =>
            simp at hk; subst hk
            have h1 : lk (stM its (fun k => setF fs 0 (k + 1)) (x.app st)).env t = lk (stM its (fun _ => false) (x.app st)).env t := stM_lk its _ _ _ _ (fun j y hj hy => by
              exact absurd hy (hd (j + 1) y (by simpa using hj) (by omega) t hx)) rfl
            have h2 : ∀ (l : List It) (s : St), stM l (fun _ => false) s = s := fun l => by
              induction l with
              | nil => intro s; rfl
              | cons y l ih => intro s; simp only [stM]; exact ih s
            have h3 : setF fs 0 0 = true := by simp [setF]
            rw [h3]
            simp only [if_true]
            rw [h1, h2]
            simp [It.app, hx, putE, lk]
          | succ k =>
            have := ih (fun j => fs (j + 1)) (if fs 0 then x.app st else st) (k := k) (by simpa using hk) (fun k' it' h1 h2 => hd (k' + 1) it' (by simpa using h1) (by omega))
            have e1 : setF fs (k + 1) 0 = fs 0 := by simp [setF]
            have e2 : (fun j => setF fs (k + 1) (j + 1)) = setF (fun j => fs (j + 1)) k := by funext j; simp [setF]
            rw [e1, e2]
            exact this
      · simp only [putE, lk, if_neg htd]
        refine stM_lk its _ _ st st (fun j x hj hxd => ?_) rfl
        unfold setF
        split
        · rename_i e; subst e; rw [hk] at hj; cases hj; rw [hx] at hxd; exact absurd (Option.some.inj hxd).symm htd
        · rfl
theorem blM_set {k : Nat} {it : It} : ∀ (its : List It) (fs : Nat → Bool), its[k]? = some it → fs k = false → (it.bl = [] ∨ ∀ k' it', its[k']? = some it' → k < k' → fs k' = true → it'.bl = []) →
    blM its (setF fs k) = blM its fs ++ it.bl.map some
  | [], _, hk, _, _ => by simp at hk
  | x :: its, fs, hk, hf, hb => by
    cases k with
    | zero =>
      simp at hk; subst hk
      have e2 : (fun j => setF fs 0 (j + 1)) = fun j => fs (j + 1) := by funext j; simp [setF]
      have e1 : setF fs 0 0 = true := by simp [setF]
      simp only [blM, e1, e2, hf, if_true, Bool.false_eq_true, if_false, List.nil_append]
      rcases hb with hb | hb
      · simp [hb]
      · have : ∀ (l : List It) (g : Nat → Bool), (∀ k' it', l[k']? = some it' → g k' = true → it'.bl = []) → blM l g = [] := fun l => by
          induction l with
          | nil => intro g _; rfl
          | cons y l ih =>
            intro g hg
            simp only [blM]
            rw [ih _ fun k' it' h1 h2 => hg (k' + 1) it' (by simpa using h1) h2]
            split
            · rename_i h0; rw [hg 0 y (by simp) h0]; rfl
            · rfl
        rw [this its _ fun k' it' h1 h2 => hb (k' + 1) it' (by simpa using h1) (by omega) h2]
        simp
    | succ k =>
      have e1 : setF fs (k + 1) 0 = fs 0 := by simp [setF]
      have e2 : (fun j => setF fs (k + 1) (j + 1)) = setF (fun j => fs (j + 1)) k := by funext j; simp [setF]
      simp only [blM, e1, e2]
      rw [blM_set its (fun j => fs (j + 1)) (by simpa using hk) hf (hb.imp id fun hb k' it' h1 h2 h3 => hb (k' + 1) it' (by simpa using h1) (by omega) h3)]
      simp
/-- All makers ahead of k are done: the heap is what it was at k's turn, and more. -/
theorem blM_pre {k : Nat} : ∀ (its : List It) (fs : Nat → Bool), (∀ k' it', its[k']? = some it' → k' < k → it'.bl = [] ∨ fs k' = true) → ∃ l, blM its fs = blM its (pre k) ++ l
  | [], _, _ => ⟨[], rfl⟩
  | x :: its, fs, h => by
    cases k with
    | zero =>
      refine ⟨blM (x :: its) fs, ?_⟩
      have : ∀ (l : List It) (g : Nat → Bool), (∀ j, g j = false) → blM l g = [] := fun l => by
        induction l with
        | nil => intro g _; rfl
        | cons y l ih => intro g hg; simp only [blM]; rw [ih _ fun j => hg (j + 1), hg 0]; rfl
      rw [this _ (pre 0) fun j => by simp [pre]]
      rfl
    | succ k =>
      obtain ⟨l, hl⟩ := blM_pre (k := k) its (fun j => fs (j + 1)) (fun k' it' h1 h2 => h (k' + 1) it' (by simpa using h1) (by omega))
      have e1 : (fun j => pre (k + 1) (j + 1)) = pre k := by funext j; simp [pre]
      have e2 : pre (k + 1) 0 = true := by simp [pre]
      refine ⟨l, ?_⟩
      simp only [blM, e1, e2, hl, if_true]
      rcases h 0 x (by simp) (by omega) with h0 | h0
      · simp [h0]
      · simp [h0]

/-- The operations in this order. -/
def runQ (P : Program) (N : Sz) (ds : List (Option Tmp)) : List (Bool × Oper) → St → (St → Prop) → Prop
  | [], st, K => K st
  | (c, o) :: l, st, K => Q1 P N ds c o st.env st.heap (fun v bl => runQ P N ds l ⟨putE st.env o.dst v, st.heap ++ bl.map some⟩ K)
variable {P : Program} {N : Sz} {ds : List (Option Tmp)}
theorem Q1.ex {c : Bool} {o : Oper} {env : Env} {h : Heap} {J : AV → List Blk → Prop} (hq : Q1 P N ds c o env h J) : ∃ v bl, Q1 P N ds c o env h (fun v' bl' => v' = v ∧ bl' = bl) ∧ J v bl ∧ (c = false → bl = []) := by
  unfold Q1 at hq ⊢
  obtain ⟨hd, hq⟩ := hq
  split at hq
  · rename_i hg
    split at hq
    · rename_i hc; exact ⟨_, _, ⟨hd, hq.1, hq.2.1, rfl, rfl⟩, hq.2.2, fun _ => rfl⟩
    · rename_i hc
      cases c with
      | true => exact ⟨_, _, ⟨hd, hq.1, rfl, rfl⟩, hq.2, fun e => by cases e⟩
      | false =>
        simp only at hq
        split at hq
        · exact ⟨_, _, ⟨hd, hq.1, hq.2.1, hq.2.2.1, rfl, rfl⟩, hq.2.2.2, fun _ => rfl⟩
        · exact hq.elim
    · rename_i hc
      split at hq
      · split at hq
        · exact ⟨_, _, ⟨hd, hq.1, hq.2.1, rfl, rfl⟩, hq.2.2, fun e => by cases e⟩
        · exact hq.elim
      · exact hq.elim
    · rename_i hc
      split at hq
      · split at hq
        · obtain ⟨hgk, out, hf, hq⟩ := hq
          cases c with
          | false => exact ⟨_, _, ⟨hd, hgk, out, hf, rfl, rfl⟩, hq, fun _ => rfl⟩
          | true => exact ⟨_, _, ⟨hd, hgk, out, hf, hq.1, rfl, rfl⟩, hq.2, fun e => by cases e⟩
        · exact hq.elim
      · exact hq.elim
    · exact hq.elim
  · obtain ⟨hcf, hq⟩ := hq
    split at hq
    · exact ⟨_, _, ⟨hd, hcf, hq.1, rfl, rfl⟩, hq.2, fun _ => rfl⟩
    · split at hq
      · split at hq
        · obtain ⟨out, h1, h2⟩ := hq
          exact ⟨_, _, ⟨hd, hcf, out, h1, rfl, rfl⟩, h2, fun _ => rfl⟩
        · exact hq.elim
      · exact hq.elim
    · exact hq.elim
  · exact hq.elim
theorem runQ_its {K : St → Prop} : ∀ {l : List (Bool × Oper)} {st : St}, runQ P N ds l st K → ∃ its : List It, its.length = l.length ∧ K (stM its (fun _ => true) st) ∧
    ∀ k c o, l[k]? = some (c, o) → ∃ it, its[k]? = some it ∧ it.o = o ∧ (c = false → it.bl = []) ∧ Q1 P N ds c o (stM its (pre k) st).env (stM its (pre k) st).heap (fun v bl => v = it.v ∧ bl = it.bl)
  | [], st, h => ⟨[], rfl, h, fun k c o hk => by simp at hk⟩
  | (c, o) :: l, st, h => by
    obtain ⟨v, bl, h1, h2, h3⟩ := Q1.ex h
    obtain ⟨its, e1, e2, e3⟩ := runQ_its h2
    refine ⟨⟨o, v, bl⟩ :: its, by simp [e1], by simpa [stM, It.app] using e2, fun k c' o' hk => ?_⟩
    cases k with
    | zero =>
      simp at hk
      obtain ⟨rfl, rfl⟩ := hk
      have : ∀ (l : List It) (g : Nat → Bool) (s : St), (∀ j, g j = false) → stM l g s = s := fun l => by
        induction l with
        | nil => intro g s _; rfl
        | cons y l ih => intro g s hg; simp only [stM]; rw [hg 0]; exact ih _ s fun j => hg (j + 1)
      refine ⟨_, by simp; rfl, rfl, h3, ?_⟩
      rw [this _ (pre 0) _ fun j => by simp [pre]]
      exact h1
    | succ k =>
      obtain ⟨it, k1, k2, k3, k4⟩ := e3 k c' o' (by simpa using hk)
      refine ⟨it, by simpa using k1, k2, k3, ?_⟩
      have e1 : (fun j => pre (k + 1) (j + 1)) = pre k := by funext j; simp [pre]
      have e2 : pre (k + 1) 0 = true := by simp [pre]
      simp only [stM, e1, e2, if_true]
      exact k4
end HK
