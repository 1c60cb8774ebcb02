import Derived.Test.YtokcpmbgipblpaaGreatBHXY5
import Derived.Test.YtokcpmbgipblpaaGreatBHXTD
/-
  My own texts (road H): HXY8.
-/
set_option linter.unusedSimpArgs false
set_option linter.unusedVariables false
namespace HT
open Go Go.Proofs HK
theorem codeI_at {p : Prog} {g : Gor} (hp : progOk p = true) (ha : atOk p g) : ∃ n : Int, codeI p n (atI p g) = true := by
  obtain ⟨_, _, x, hx, hD⟩ := ha; obtain ⟨i, hi⟩ : ∃ i, x.code[g.pc.toNat]? = some i := ⟨_, List.getElem?_eq_getElem (by omega)⟩
  have hat : atI p g = i := by simp [atI, hx, hi]
  simp only [progOk, Bool.and_eq_true, List.all_eq_true] at hp; have hc := hp.2 x (List.mem_of_getElem? hx)
  simp only [codeOk, Bool.and_eq_true, decide_eq_true_eq, List.all_eq_true] at hc; exact ⟨x.code.length, by rw [hat]; exact hc.1.2 i (List.mem_of_getElem? hi)⟩
theorem at_mu {p : Prog} {g : Gor} (hp : progOk p = true) (ha : atOk p g) (h : (atI p g).op = 12) : 0 ≤ (atI p g).a ∧ (atI p g).a < p.mus := by
  obtain ⟨n, hn⟩ := codeI_at hp ha; simp only [codeI, Bool.and_eq_true] at hn; have hk := hn.1
  simp [instrOk, kindOk, h, inR] at hk; omega
theorem engOk_prog {p : Prog} {e : Eng} (h : engOk p e = true) : progOk p = true := by
  simp only [engOk, Bool.and_eq_true] at h; exact h.1.1.1.1.1
theorem engOk_gor {p : Prog} {e : Eng} (h : engOk p e = true) {g : Gor} (hg : g ∈ e.gs) : gorOk p g = true := by
  have hp := engOk_prog h
  simp only [engOk, Bool.and_eq_true, List.all_eq_true] at h; have := h.1.2 g hg
  simp only [gFit, Bool.and_eq_true] at this; simp [gorOk, hp, this.1]
theorem engOk_mus {p : Prog} {e : Eng} (h : engOk p e = true) : (e.mus.length : Int) = p.mus := by
  simp only [engOk, engObj, Bool.and_eq_true, decide_eq_true_eq] at h; exact h.1.1.2.1.1.2
def stFrom (s : Int) : Nat → List Gor → List Int
  | _, [] => []
  | k, g :: r => (if g.state = s then [(k : Int)] else []) ++ stFrom s (k + 1) r
theorem IntS_snoc1 (l : List Int) (n : Int) : IntS (l ++ [n]) = IntS l ++ [[.int .i64 n]] := by simp [IntS]
theorem IntS_strN2 (l : List Int) : ∀ x ∈ IntS l, ∀ y ∈ x, strN 4 y = true := fun x hx y hy => by
  obtain ⟨d, _, rfl⟩ := List.mem_map.1 hx; simp at hy; subst hy; rfl
def status (p : Prog) (e : Eng) : Int := if engOk p e then (if 0 < (stFrom 1 0 e.gs).length then 1 else if 0 < (stFrom 2 0 e.gs).length then 3 else 2) else 0
def asked (p : Prog) (e : Eng) (n : Int) : Bool := engOk p e && decide (0 ≤ n) && decide (n < (e.gs.length : Int)) && (match e.gs[n.toNat]? with | some g => decide (g.state = 1) | none => false)
theorem asked_ex {p : Prog} {e : Eng} {n : Int} (h : asked p e n = true) : ∃ (k : Nat) (g : Gor), n = k ∧ e.gs[k]? = some g ∧ g.state = 1 ∧ engOk p e = true ∧ gorOk p g = true := by
  unfold asked at h; simp only [Bool.and_eq_true, decide_eq_true_eq] at h; obtain ⟨⟨⟨h1, h2⟩, h3⟩, h4⟩ := h
  cases hg : e.gs[n.toNat]? with
  | none => rw [hg] at h4; cases h4
  | some g =>
    rw [hg] at h4; simp at h4; exact ⟨n.toNat, g, by omega, hg, h4, h1, engOk_gor h1 (List.mem_of_getElem? hg)⟩
def rdy (e : Eng) : Nat → List Case → List Int
  | _, [] => []
  | k, x :: r => (if caseR e x then [(k : Int)] else []) ++ rdy e (k + 1) r
theorem rdy_snoc (e : Eng) : ∀ (l : List Case) (k : Nat) (g : Case), rdy e k (l ++ [g]) = rdy e k l ++ (if caseR e g then [((k + l.length : Nat) : Int)] else [])
  | [], k, g => by simp [rdy]
  | x :: r, k, g => by simp [rdy, rdy_snoc e r (k + 1) g]; rw [show ((k : Int) + 1 + (r.length : Int)) = (k : Int) + ((r.length : Int) + 1) by omega]
theorem rdy_step {e : Eng} {l : List Case} {k : Nat} {g : Case} (h : l[k]? = some g) : rdy e 0 (l.take (k + 1)) = rdy e 0 (l.take k) ++ (if caseR e g then [(k : Int)] else []) := by
  have hlt := (List.getElem?_eq_some_iff.1 h).1
  rw [List.take_add_one, h]; simp only [Option.toList_some, rdy_snoc, List.length_take, Nat.zero_add]; rw [Nat.min_eq_left (by omega)]
theorem rdy_len (e : Eng) : ∀ (l : List Case) (k : Nat), (rdy e k l).length ≤ l.length
  | [], _ => by simp [rdy]
  | g :: r, k => by
    have := rdy_len e r (k + 1)
    simp only [rdy, List.length_append, List.length_cons]; split <;> simp <;> omega
set_option maxHeartbeats 1000000 in
theorem askeda_s (p : Prog) (e : Eng) (n : Int) (h : p.ok) (he : e.ok) (k : Nat) (g : Gor) (hn : n = k) (hg : e.gs[k]? = some g) : Fn Tryz.prog 63 [.agg p.fr, .agg e.fr, .int .i64 n] (.bool (asked p e n)) := by
  refine Fn.intro Tryz.func63 (by decide) rfl (rs := [.tmp 6]) rfl Tryz.ntmps63 (by simp) ?_; subst hn; have hlt := (List.getElem?_eq_some_iff.1 hg).1
  have hgE : ∀ q, e.gs[k]'q = g := fun q => (List.getElem?_eq_some_iff.1 hg).2
  have hr : asked p e k = (engOk p e && decide (g.state = 1)) := by unfold asked; rw [Int.toNat_natCast, hg]; simp [hlt]
  refine SW.rg fun K hK => ?_; simp -implicitDefEqProofs; repeat (refine And.intro (by clear hK; first | omega | (intros; simp_all; done) | (intros; grind)) ?_)
  refine hK _ ?_; clear hK K; refine SW.rg fun K hK => ?_; simp -implicitDefEqProofs [hg, hgE, hlt]; repeat (refine And.intro (by clear hK; first | omega | (intros; simp_all; done) | (intros; grind)) ?_)
  first
    | refine CallQ.fzE (engOk_s p e h he) (by simp) ?_
    | refine CallK.fzE (engOk_s p e h he) (by simp) ?_
  simp -implicitDefEqProofs [hg, hgE, hlt]; repeat (refine And.intro (by clear hK; first | omega | (intros; simp_all; done) | (intros; grind)) ?_)
  refine hK _ ?_; clear hK K; refine SW.ret ?_; simp [Ex.then, Ex.ib]
  all_goals first
    | (rw [hr]; done)
    | (rw [hr]; simp; done)
    | (rw [hr, Bool.eq_iff_iff]; simp; done)
    | (rw [hr, Bool.eq_iff_iff]; simp; omega)
    | fail
set_option maxHeartbeats 1000000 in
theorem askedb_s (p : Prog) (e : Eng) (n : Int) (h : p.ok) (he : e.ok) (hn : n < 0) (hg : e.gs[n.toNat]? = none) : Fn Tryz.prog 63 [.agg p.fr, .agg e.fr, .int .i64 n] (.bool (asked p e n)) := by
  refine Fn.intro Tryz.func63 (by decide) rfl (rs := [.tmp 6]) rfl Tryz.ntmps63 (by simp) ?_; have hr : asked p e n = false := by unfold asked; simp; omega
  have h0 : ¬ 0 ≤ n := by omega
  refine SW.rg fun K hK => ?_; simp -implicitDefEqProofs; repeat (refine And.intro (by clear hK; first | omega | (intros; simp_all; done) | (intros; grind)) ?_)
  refine hK _ ?_; clear hK K; refine SW.rg fun K hK => ?_; simp -implicitDefEqProofs [hg, h0]; repeat (refine And.intro (by clear hK; first | omega | (intros; simp_all; done) | (intros; grind)) ?_)
  first
    | refine CallQ.fzE (engOk_s p e h he) (by simp) ?_
    | refine CallK.fzE (engOk_s p e h he) (by simp) ?_
  simp -implicitDefEqProofs [hg, h0]; repeat (refine And.intro (by clear hK; first | omega | (intros; simp_all; done) | (intros; grind)) ?_)
  refine hK _ ?_; clear hK K; refine SW.ret ?_; simp [Ex.then, Ex.ib]
  all_goals first
    | (rw [hr]; done)
    | (rw [hr]; simp; done)
    | (rw [hr, Bool.eq_iff_iff]; simp; done)
    | (rw [hr, Bool.eq_iff_iff]; simp; omega)
    | fail
set_option maxHeartbeats 1000000 in
theorem askedc_s (p : Prog) (e : Eng) (n : Int) (h : p.ok) (he : e.ok) (hn : n < 0) (g : Gor) (hg : e.gs[n.toNat]? = some g) : Fn Tryz.prog 63 [.agg p.fr, .agg e.fr, .int .i64 n] (.bool (asked p e n)) := by
  refine Fn.intro Tryz.func63 (by decide) rfl (rs := [.tmp 6]) rfl Tryz.ntmps63 (by simp) ?_; have hr : asked p e n = false := by unfold asked; simp; omega
  have h0 : ¬ 0 ≤ n := by omega
  refine SW.rg fun K hK => ?_; simp -implicitDefEqProofs; repeat (refine And.intro (by clear hK; first | omega | (intros; simp_all; done) | (intros; grind)) ?_)
  refine hK _ ?_; clear hK K; refine SW.rg fun K hK => ?_; simp -implicitDefEqProofs [hg, h0]; repeat (refine And.intro (by clear hK; first | omega | (intros; simp_all; done) | (intros; grind)) ?_)
  first
    | refine CallQ.fzE (engOk_s p e h he) (by simp) ?_
    | refine CallK.fzE (engOk_s p e h he) (by simp) ?_
  simp -implicitDefEqProofs [hg, h0]; repeat (refine And.intro (by clear hK; first | omega | (intros; simp_all; done) | (intros; grind)) ?_)
  refine hK _ ?_; clear hK K; refine SW.ret ?_; simp [Ex.then, Ex.ib]
  all_goals first
    | (rw [hr]; done)
    | (rw [hr]; simp; done)
    | (rw [hr, Bool.eq_iff_iff]; simp; done)
    | (rw [hr, Bool.eq_iff_iff]; simp; omega)
    | fail
set_option maxHeartbeats 1000000 in
theorem askedd_s (p : Prog) (e : Eng) (n : Int) (h : p.ok) (he : e.ok) (hn : (e.gs.length : Int) ≤ n) (hg : e.gs[n.toNat]? = none) : Fn Tryz.prog 63 [.agg p.fr, .agg e.fr, .int .i64 n] (.bool (asked p e n)) := by
  refine Fn.intro Tryz.func63 (by decide) rfl (rs := [.tmp 6]) rfl Tryz.ntmps63 (by simp) ?_; have hr : asked p e n = false := by unfold asked; simp; omega
  have h0 : ¬ n < (e.gs.length : Int) := by omega
  refine SW.rg fun K hK => ?_; simp -implicitDefEqProofs; repeat (refine And.intro (by clear hK; first | omega | (intros; simp_all; done) | (intros; grind)) ?_)
  refine hK _ ?_; clear hK K; refine SW.rg fun K hK => ?_; simp -implicitDefEqProofs [hg, h0]; repeat (refine And.intro (by clear hK; first | omega | (intros; simp_all; done) | (intros; grind)) ?_)
  first
    | refine CallQ.fzE (engOk_s p e h he) (by simp) ?_
    | refine CallK.fzE (engOk_s p e h he) (by simp) ?_
  simp -implicitDefEqProofs [hg, h0]; repeat (refine And.intro (by clear hK; first | omega | (intros; simp_all; done) | (intros; grind)) ?_)
  refine hK _ ?_; clear hK K; refine SW.ret ?_; simp [Ex.then, Ex.ib]
  all_goals first
    | (rw [hr]; done)
    | (rw [hr]; simp; done)
    | (rw [hr, Bool.eq_iff_iff]; simp; done)
    | (rw [hr, Bool.eq_iff_iff]; simp; omega)
    | fail
theorem asked_s (p : Prog) (e : Eng) (n : Int) (h : p.ok) (he : e.ok) : Fn Tryz.prog 63 [.agg p.fr, .agg e.fr, .int .i64 n] (.bool (asked p e n)) := by
  rcases Int.lt_or_le n 0 with h0 | h0
  · cases hg : e.gs[n.toNat]? with
    | none => exact askedb_s p e n h he h0 hg
    | some g => exact askedc_s p e n h he h0 g hg
  · cases hg : e.gs[n.toNat]? with
    | none => exact askedd_s p e n h he (by have := List.getElem?_eq_none_iff.1 hg; omega) hg
    | some g => exact askeda_s p e n h he n.toNat g (by omega) hg
set_option maxHeartbeats 1000000 in
theorem askeda_i (p : Prog) (e : Eng) (n : Int) (h : p.ok) (he : e.ok) (k : Nat) (g : Gor) (hn : n = k) (hg : e.gs[k]? = some g) : Fn Tryz.prog 64 [.agg p.fr, .agg e.fr, .int .i64 n] (.bool (asked p e n)) := by
  refine Fn.intro Tryz.func64 (by decide) rfl (rs := [.tmp 6]) rfl Tryz.ntmps64 (by simp) ?_; subst hn; have hlt := (List.getElem?_eq_some_iff.1 hg).1
  have hgE : ∀ q, e.gs[k]'q = g := fun q => (List.getElem?_eq_some_iff.1 hg).2
  have hr : asked p e k = (engOk p e && decide (g.state = 1)) := by unfold asked; rw [Int.toNat_natCast, hg]; simp [hlt]
  refine SW.rg fun K hK => ?_; simp -implicitDefEqProofs; repeat (refine And.intro (by clear hK; first | omega | (intros; simp_all; done) | (intros; grind)) ?_)
  refine hK _ ?_; clear hK K; refine SW.rg fun K hK => ?_; simp -implicitDefEqProofs [hg, hgE, hlt]; repeat (refine And.intro (by clear hK; first | omega | (intros; simp_all; done) | (intros; grind)) ?_)
  first
    | refine CallQ.fzE (engOk_i p e h he) (by simp) ?_
    | refine CallK.fzE (engOk_i p e h he) (by simp) ?_
  simp -implicitDefEqProofs [hg, hgE, hlt]; repeat (refine And.intro (by clear hK; first | omega | (intros; simp_all; done) | (intros; grind)) ?_)
  refine CallG.fzE (by simp) (fun _ => within_ok k 0 e.gs.length) (by simp) ?_; simp -implicitDefEqProofs [hg, hgE, hlt]; repeat (refine And.intro (by clear hK; first | omega | (intros; simp_all; done) | (intros; grind)) ?_)
  refine hK _ ?_; clear hK K; refine SW.ret ?_; simp [Ex.then, Ex.ib]
  all_goals first
    | (rw [hr]; done)
    | (rw [hr]; simp; done)
    | (rw [hr, Bool.eq_iff_iff]; simp; done)
    | (rw [hr, Bool.eq_iff_iff]; simp; omega)
    | fail
set_option maxHeartbeats 1000000 in
theorem askedb_i (p : Prog) (e : Eng) (n : Int) (h : p.ok) (he : e.ok) (hn : n < 0) (hg : e.gs[n.toNat]? = none) : Fn Tryz.prog 64 [.agg p.fr, .agg e.fr, .int .i64 n] (.bool (asked p e n)) := by
  refine Fn.intro Tryz.func64 (by decide) rfl (rs := [.tmp 6]) rfl Tryz.ntmps64 (by simp) ?_; have hr : asked p e n = false := by unfold asked; simp; omega
  have h0 : ¬ 0 ≤ n := by omega
  refine SW.rg fun K hK => ?_; simp -implicitDefEqProofs; repeat (refine And.intro (by clear hK; first | omega | (intros; simp_all; done) | (intros; grind)) ?_)
  refine hK _ ?_; clear hK K; refine SW.rg fun K hK => ?_; simp -implicitDefEqProofs [hg, h0]; repeat (refine And.intro (by clear hK; first | omega | (intros; simp_all; done) | (intros; grind)) ?_)
  first
    | refine CallQ.fzE (engOk_i p e h he) (by simp) ?_
    | refine CallK.fzE (engOk_i p e h he) (by simp) ?_
  simp -implicitDefEqProofs [hg, h0]; repeat (refine And.intro (by clear hK; first | omega | (intros; simp_all; done) | (intros; grind)) ?_)
  refine CallG.fzE (by simp) (fun _ => within_ok n 0 e.gs.length) (by simp) ?_; simp -implicitDefEqProofs [hg, h0]; repeat (refine And.intro (by clear hK; first | omega | (intros; simp_all; done) | (intros; grind)) ?_)
  refine hK _ ?_; clear hK K; refine SW.ret ?_; simp [Ex.then, Ex.ib]
  all_goals first
    | (rw [hr]; done)
    | (rw [hr]; simp; done)
    | (rw [hr, Bool.eq_iff_iff]; simp; done)
    | (rw [hr, Bool.eq_iff_iff]; simp; omega)
    | fail
set_option maxHeartbeats 1000000 in
theorem askedc_i (p : Prog) (e : Eng) (n : Int) (h : p.ok) (he : e.ok) (hn : n < 0) (g : Gor) (hg : e.gs[n.toNat]? = some g) : Fn Tryz.prog 64 [.agg p.fr, .agg e.fr, .int .i64 n] (.bool (asked p e n)) := by
  refine Fn.intro Tryz.func64 (by decide) rfl (rs := [.tmp 6]) rfl Tryz.ntmps64 (by simp) ?_; have hr : asked p e n = false := by unfold asked; simp; omega
  have h0 : ¬ 0 ≤ n := by omega
  refine SW.rg fun K hK => ?_; simp -implicitDefEqProofs; repeat (refine And.intro (by clear hK; first | omega | (intros; simp_all; done) | (intros; grind)) ?_)
  refine hK _ ?_; clear hK K; refine SW.rg fun K hK => ?_; simp -implicitDefEqProofs [hg, h0]; repeat (refine And.intro (by clear hK; first | omega | (intros; simp_all; done) | (intros; grind)) ?_)
  first
    | refine CallQ.fzE (engOk_i p e h he) (by simp) ?_
    | refine CallK.fzE (engOk_i p e h he) (by simp) ?_
  simp -implicitDefEqProofs [hg, h0]; repeat (refine And.intro (by clear hK; first | omega | (intros; simp_all; done) | (intros; grind)) ?_)
  refine CallG.fzE (by simp) (fun _ => within_ok n 0 e.gs.length) (by simp) ?_; simp -implicitDefEqProofs [hg, h0]; repeat (refine And.intro (by clear hK; first | omega | (intros; simp_all; done) | (intros; grind)) ?_)
  refine hK _ ?_; clear hK K; refine SW.ret ?_; simp [Ex.then, Ex.ib]
  all_goals first
    | (rw [hr]; done)
    | (rw [hr]; simp; done)
    | (rw [hr, Bool.eq_iff_iff]; simp; done)
    | (rw [hr, Bool.eq_iff_iff]; simp; omega)
    | fail
set_option maxHeartbeats 1000000 in
theorem askedd_i (p : Prog) (e : Eng) (n : Int) (h : p.ok) (he : e.ok) (hn : (e.gs.length : Int) ≤ n) (hg : e.gs[n.toNat]? = none) : Fn Tryz.prog 64 [.agg p.fr, .agg e.fr, .int .i64 n] (.bool (asked p e n)) := by
  refine Fn.intro Tryz.func64 (by decide) rfl (rs := [.tmp 6]) rfl Tryz.ntmps64 (by simp) ?_; have hr : asked p e n = false := by unfold asked; simp; omega
  have h0 : ¬ n < (e.gs.length : Int) := by omega
  refine SW.rg fun K hK => ?_; simp -implicitDefEqProofs; repeat (refine And.intro (by clear hK; first | omega | (intros; simp_all; done) | (intros; grind)) ?_)
  refine hK _ ?_; clear hK K; refine SW.rg fun K hK => ?_; simp -implicitDefEqProofs [hg, h0]; repeat (refine And.intro (by clear hK; first | omega | (intros; simp_all; done) | (intros; grind)) ?_)
  first
    | refine CallQ.fzE (engOk_i p e h he) (by simp) ?_
    | refine CallK.fzE (engOk_i p e h he) (by simp) ?_
  simp -implicitDefEqProofs [hg, h0]; repeat (refine And.intro (by clear hK; first | omega | (intros; simp_all; done) | (intros; grind)) ?_)
  refine CallG.fzE (by simp) (fun _ => within_ok n 0 e.gs.length) (by simp) ?_; simp -implicitDefEqProofs [hg, h0]; repeat (refine And.intro (by clear hK; first | omega | (intros; simp_all; done) | (intros; grind)) ?_)
  refine hK _ ?_; clear hK K; refine SW.ret ?_; simp [Ex.then, Ex.ib]
  all_goals first
    | (rw [hr]; done)
    | (rw [hr]; simp; done)
    | (rw [hr, Bool.eq_iff_iff]; simp; done)
    | (rw [hr, Bool.eq_iff_iff]; simp; omega)
    | fail
theorem asked_i (p : Prog) (e : Eng) (n : Int) (h : p.ok) (he : e.ok) : Fn Tryz.prog 64 [.agg p.fr, .agg e.fr, .int .i64 n] (.bool (asked p e n)) := by
  rcases Int.lt_or_le n 0 with h0 | h0
  · cases hg : e.gs[n.toNat]? with
    | none => exact askedb_i p e n h he h0 hg
    | some g => exact askedc_i p e n h he h0 g hg
  · cases hg : e.gs[n.toNat]? with
    | none => exact askedd_i p e n h he (by have := List.getElem?_eq_none_iff.1 hg; omega) hg
    | some g => exact askeda_i p e n h he n.toNat g (by omega) hg
end HT
