import Derived.Test.YtjalahhkhcmjaaaGreatHMQ9
import Derived.Test.YtjalahhkhcmjaaaGreatHMY6
import Derived.Test.YtjalahhkhcmjaaaGreatHMY8
/-
  My own texts (road H): HMQA.
-/
set_option linter.unusedSimpArgs false
set_option linter.unusedVariables false
namespace HT
open Go Go.Proofs HK
def whyT (p : Prog) (e : Eng) (n : Int) : ByteArray := if (engOk p e && decide (0 ≤ n)) = true then (match e.gs[n.toNat]? with | some g => if g.state = 2 then insT (atI p g) else noB | none => noB) else noB
set_option maxHeartbeats 1000000 in
theorem whyY_s (p : Prog) (e : Eng) (n : Int) (h : p.ok) (he : e.ok) (k : Nat) (g : Gor) (hn : n = k) (hg : e.gs[k]? = some g) (hE : engOk p e = true) (hst : g.state = 2) (hk : gorOk p g = true) : Fn Tryz.prog 6 [.agg p.fr, .agg e.fr, .int .i64 n] (.str (insT (atI p g))) := by
  refine Fn.intro Tryz.func6 (by decide) rfl (rs := [.tmp 6]) rfl Tryz.ntmps6 (by simp) ?_; subst hn; have hlt := (List.getElem?_eq_some_iff.1 hg).1
  have hgE : ∀ q, e.gs[k]'q = g := fun q => (List.getElem?_eq_some_iff.1 hg).2
  have hI := instr_s p g (gor_at hk)
  generalize hi : atI p g = i at hI
  refine SW.rg fun K hK => ?_; simp -implicitDefEqProofs; repeat (refine And.intro (by clear hK; first | omega | (intros; simp_all; done) | (intros; grind)) ?_)
  refine hK _ ?_; clear hK K; refine SW.seqK fun K1 hK1 => ?_; refine SW.rg fun K hK => ?_; simp -implicitDefEqProofs [hg, hgE, hlt, hst]; repeat (refine And.intro (by clear hK; first | omega | (intros; simp_all; done) | (intros; grind)) ?_)
  first
    | refine CallQ.fzE ((show Fn Tryz.prog 18 [.agg p.fr, .agg e.fr] (.bool true) by have h9 := engOk_s p e h he; rwa [hE] at h9)) (by simp) ?_
    | refine CallK.fzE ((show Fn Tryz.prog 18 [.agg p.fr, .agg e.fr] (.bool true) by have h9 := engOk_s p e h he; rwa [hE] at h9)) (by simp) ?_
  simp -implicitDefEqProofs [hg, hgE, hlt, hst]; repeat (refine And.intro (by clear hK; first | omega | (intros; simp_all; done) | (intros; grind)) ?_)
  refine hK _ ?_; clear hK K; refine SW.cond _ rfl (by simp) ?_ ?_
  case' refine_2 =>
   intro hb1
   first
   | (exfalso; simp at hb1; done)
   | (exfalso; simp at hb1; omega)
   | (
    refine SW.skip ?_; refine hK1 _ ?_; refine SW.seqK fun K2 hK2 => ?_; refine SW.rg fun K hK => ?_; simp -implicitDefEqProofs [hg, hgE, hlt, hst]
    repeat (refine And.intro (by clear hK; first | omega | (intros; simp_all; done) | (intros; grind)) ?_)
    refine hK _ ?_; clear hK K; refine SW.cond _ rfl (by simp) ?_ ?_
    case' refine_2 =>
     intro hb2
     first
     | (exfalso; simp at hb2; done)
     | (exfalso; simp at hb2; omega)
     | (
      refine SW.skip ?_; refine hK2 _ ?_; refine SW.drawK mixed [.q [(0, false), (1, false), (2, false), (3, false), (4, false), (5, false), (6, false), (7, false), (8, false)]] (by kernel_rfl) rfl fun K hK => ?_
      simp -implicitDefEqProofs [hg, hgE, hlt, hst]; repeat (refine And.intro (by clear hK; first | omega | (intros; simp_all; done) | (intros; grind)) ?_)
      first
        | refine CallQ.fzE hI (by simp [hgE, hst]) ?_
        | refine CallK.fzE hI (by simp [hgE, hst]) ?_
      simp -implicitDefEqProofs [hg, hgE, hlt, hst]; repeat (refine And.intro (by clear hK; first | omega | (intros; simp_all; done) | (intros; grind)) ?_)
      first
        | refine CallQ.fzE (insText_s i) (by simp) ?_
        | refine CallK.fzE (insText_s i) (by simp) ?_
      simp -implicitDefEqProofs [hg, hgE, hlt, hst]; repeat (refine And.intro (by clear hK; first | omega | (intros; simp_all; done) | (intros; grind)) ?_)
      refine hK _ ?_; clear hK K; refine SW.ret ?_; simp [Ex.then, Ex.ib]
      all_goals first
        | (simp; done)
        | rfl
        | fail)
    rotate_right
    case' _ =>
     intro hb2
     first
     | (exfalso; simp at hb2; done)
     | (exfalso; simp at hb2; omega)
     | (
      refine SW.rg fun K hK => ?_; simp -implicitDefEqProofs; repeat (refine And.intro (by clear hK; first | omega | (intros; simp_all; done) | (intros; grind)) ?_)
      refine hK _ ?_; clear hK K; refine SW.ret ?_; simp [Ex.then, Ex.ib]
      all_goals first
        | (simp; done)
        | rfl
        | fail))
  rotate_right
  case' _ =>
   intro hb1
   first
   | (exfalso; simp at hb1; done)
   | (exfalso; simp at hb1; omega)
   | (
    refine SW.rg fun K hK => ?_; simp -implicitDefEqProofs; repeat (refine And.intro (by clear hK; first | omega | (intros; simp_all; done) | (intros; grind)) ?_)
    refine hK _ ?_; clear hK K; refine SW.ret ?_; simp [Ex.then, Ex.ib]
    all_goals first
      | (simp; done)
      | rfl
      | fail)
set_option maxHeartbeats 1000000 in
theorem whyE_s (p : Prog) (e : Eng) (n : Int) (h : p.ok) (he : e.ok) (k : Nat) (g : Gor) (hn : n = k) (hg : e.gs[k]? = some g) (hE : engOk p e = false) : Fn Tryz.prog 6 [.agg p.fr, .agg e.fr, .int .i64 n] (.str noB) := by
  refine Fn.intro Tryz.func6 (by decide) rfl (rs := [.tmp 6]) rfl Tryz.ntmps6 (by simp) ?_; subst hn; have hlt := (List.getElem?_eq_some_iff.1 hg).1
  have hgE : ∀ q, e.gs[k]'q = g := fun q => (List.getElem?_eq_some_iff.1 hg).2
  refine SW.rg fun K hK => ?_; simp -implicitDefEqProofs; repeat (refine And.intro (by clear hK; first | omega | (intros; simp_all; done) | (intros; grind)) ?_)
  refine hK _ ?_; clear hK K; refine SW.seqK fun K1 hK1 => ?_; refine SW.rg fun K hK => ?_; simp -implicitDefEqProofs [hg, hgE, hlt]; repeat (refine And.intro (by clear hK; first | omega | (intros; simp_all; done) | (intros; grind)) ?_)
  first
    | refine CallQ.fzE ((show Fn Tryz.prog 18 [.agg p.fr, .agg e.fr] (.bool false) by have h9 := engOk_s p e h he; rwa [hE] at h9)) (by simp) ?_
    | refine CallK.fzE ((show Fn Tryz.prog 18 [.agg p.fr, .agg e.fr] (.bool false) by have h9 := engOk_s p e h he; rwa [hE] at h9)) (by simp) ?_
  simp -implicitDefEqProofs [hg, hgE, hlt]; repeat (refine And.intro (by clear hK; first | omega | (intros; simp_all; done) | (intros; grind)) ?_)
  refine hK _ ?_; clear hK K; refine SW.cond _ rfl (by simp) ?_ ?_
  case' refine_2 =>
   intro hb1
   first
   | (exfalso; simp at hb1; done)
   | (exfalso; simp at hb1; omega)
   | (
    refine SW.skip ?_; refine hK1 _ ?_; refine SW.seqK fun K2 hK2 => ?_; refine SW.rg fun K hK => ?_; simp -implicitDefEqProofs [hg, hgE, hlt]
    repeat (refine And.intro (by clear hK; first | omega | (intros; simp_all; done) | (intros; grind)) ?_)
    refine hK _ ?_; clear hK K; refine SW.cond _ rfl (by simp) ?_ ?_
    case' refine_2 =>
     intro hb2
     first
     | (exfalso; simp at hb2; done)
     | (exfalso; simp at hb2; omega)
     | (
      refine SW.skip ?_; refine hK2 _ ?_; refine SW.drawK mixed [.q [(0, false), (1, false), (2, false), (3, false), (4, false), (5, false), (6, false), (7, false), (8, false)]] (by kernel_rfl) rfl fun K hK => ?_
      simp -implicitDefEqProofs [hg, hgE, hlt]; repeat (refine And.intro (by clear hK; first | omega | (intros; simp_all; done) | (intros; grind)) ?_)
      fail
      simp -implicitDefEqProofs [hg, hgE, hlt]; repeat (refine And.intro (by clear hK; first | omega | (intros; simp_all; done) | (intros; grind)) ?_)
      fail
      simp -implicitDefEqProofs [hg, hgE, hlt]; repeat (refine And.intro (by clear hK; first | omega | (intros; simp_all; done) | (intros; grind)) ?_)
      refine hK _ ?_; clear hK K; refine SW.ret ?_; simp [Ex.then, Ex.ib]
      all_goals first
        | (simp; done)
        | rfl
        | fail)
    rotate_right
    case' _ =>
     intro hb2
     first
     | (exfalso; simp at hb2; done)
     | (exfalso; simp at hb2; omega)
     | (
      refine SW.rg fun K hK => ?_; simp -implicitDefEqProofs; repeat (refine And.intro (by clear hK; first | omega | (intros; simp_all; done) | (intros; grind)) ?_)
      refine hK _ ?_; clear hK K; refine SW.ret ?_; simp [Ex.then, Ex.ib]
      all_goals first
        | (simp; done)
        | rfl
        | fail))
  rotate_right
  case' _ =>
   intro hb1
   first
   | (exfalso; simp at hb1; done)
   | (exfalso; simp at hb1; omega)
   | (
    refine SW.rg fun K hK => ?_; simp -implicitDefEqProofs; repeat (refine And.intro (by clear hK; first | omega | (intros; simp_all; done) | (intros; grind)) ?_)
    refine hK _ ?_; clear hK K; refine SW.ret ?_; simp [Ex.then, Ex.ib]
    all_goals first
      | (simp; done)
      | rfl
      | fail)
set_option maxHeartbeats 1000000 in
theorem whyS_s (p : Prog) (e : Eng) (n : Int) (h : p.ok) (he : e.ok) (k : Nat) (g : Gor) (hn : n = k) (hg : e.gs[k]? = some g) (hst : ¬ g.state = 2) : Fn Tryz.prog 6 [.agg p.fr, .agg e.fr, .int .i64 n] (.str noB) := by
  refine Fn.intro Tryz.func6 (by decide) rfl (rs := [.tmp 6]) rfl Tryz.ntmps6 (by simp) ?_; subst hn; have hlt := (List.getElem?_eq_some_iff.1 hg).1
  have hgE : ∀ q, e.gs[k]'q = g := fun q => (List.getElem?_eq_some_iff.1 hg).2
  have hst2 : (g.state == 2) = false := by simpa using hst
  refine SW.rg fun K hK => ?_; simp -implicitDefEqProofs; repeat (refine And.intro (by clear hK; first | omega | (intros; simp_all; done) | (intros; grind)) ?_)
  refine hK _ ?_; clear hK K; refine SW.seqK fun K1 hK1 => ?_; refine SW.rg fun K hK => ?_; simp -implicitDefEqProofs [hg, hgE, hlt, hst, hst2]
  repeat (refine And.intro (by clear hK; first | omega | (intros; simp_all; done) | (intros; grind)) ?_)
  first
    | refine CallQ.fzE (engOk_s p e h he) (by simp) ?_
    | refine CallK.fzE (engOk_s p e h he) (by simp) ?_
  simp -implicitDefEqProofs [hg, hgE, hlt, hst, hst2]; repeat (refine And.intro (by clear hK; first | omega | (intros; simp_all; done) | (intros; grind)) ?_)
  refine hK _ ?_; clear hK K; refine SW.cond _ rfl (by simp) ?_ ?_
  case' refine_2 =>
   intro hb1
   first
   | (exfalso; simp at hb1; done)
   | (exfalso; simp at hb1; omega)
   | (
    refine SW.skip ?_; refine hK1 _ ?_; refine SW.seqK fun K2 hK2 => ?_; refine SW.rg fun K hK => ?_; simp -implicitDefEqProofs [hg, hgE, hlt, hst, hst2]
    repeat (refine And.intro (by clear hK; first | omega | (intros; simp_all; done) | (intros; grind)) ?_)
    refine hK _ ?_; clear hK K; refine SW.cond _ rfl (by simp) ?_ ?_
    case' refine_2 =>
     intro hb2
     first
     | (exfalso; simp at hb2; done)
     | (exfalso; simp at hb2; omega)
     | (
      refine SW.skip ?_; refine hK2 _ ?_; refine SW.drawK mixed [.q [(0, false), (1, false), (2, false), (3, false), (4, false), (5, false), (6, false), (7, false), (8, false)]] (by kernel_rfl) rfl fun K hK => ?_
      simp -implicitDefEqProofs [hg, hgE, hlt, hst, hst2]; repeat (refine And.intro (by clear hK; first | omega | (intros; simp_all; done) | (intros; grind)) ?_)
      fail
      simp -implicitDefEqProofs [hg, hgE, hlt, hst, hst2]; repeat (refine And.intro (by clear hK; first | omega | (intros; simp_all; done) | (intros; grind)) ?_)
      fail
      simp -implicitDefEqProofs [hg, hgE, hlt, hst, hst2]; repeat (refine And.intro (by clear hK; first | omega | (intros; simp_all; done) | (intros; grind)) ?_)
      refine hK _ ?_; clear hK K; refine SW.ret ?_; simp [Ex.then, Ex.ib]
      all_goals first
        | (simp; done)
        | rfl
        | fail)
    rotate_right
    case' _ =>
     intro hb2
     first
     | (exfalso; simp at hb2; done)
     | (exfalso; simp at hb2; omega)
     | (
      refine SW.rg fun K hK => ?_; simp -implicitDefEqProofs; repeat (refine And.intro (by clear hK; first | omega | (intros; simp_all; done) | (intros; grind)) ?_)
      refine hK _ ?_; clear hK K; refine SW.ret ?_; simp [Ex.then, Ex.ib]
      all_goals first
        | (simp; done)
        | rfl
        | fail))
  rotate_right
  case' _ =>
   intro hb1
   first
   | (exfalso; simp at hb1; done)
   | (exfalso; simp at hb1; omega)
   | (
    refine SW.rg fun K hK => ?_; simp -implicitDefEqProofs; repeat (refine And.intro (by clear hK; first | omega | (intros; simp_all; done) | (intros; grind)) ?_)
    refine hK _ ?_; clear hK K; refine SW.ret ?_; simp [Ex.then, Ex.ib]
    all_goals first
      | (simp; done)
      | rfl
      | fail)
set_option maxHeartbeats 1000000 in
theorem whyb_s (p : Prog) (e : Eng) (n : Int) (h : p.ok) (he : e.ok) (hn : n < 0) (hg : e.gs[n.toNat]? = none) : Fn Tryz.prog 6 [.agg p.fr, .agg e.fr, .int .i64 n] (.str noB) := by
  refine Fn.intro Tryz.func6 (by decide) rfl (rs := [.tmp 6]) rfl Tryz.ntmps6 (by simp) ?_; have h0 : ¬ 0 ≤ n := by omega
  refine SW.rg fun K hK => ?_; simp -implicitDefEqProofs; repeat (refine And.intro (by clear hK; first | omega | (intros; simp_all; done) | (intros; grind)) ?_)
  refine hK _ ?_; clear hK K; refine SW.seqK fun K1 hK1 => ?_; refine SW.rg fun K hK => ?_; simp -implicitDefEqProofs [hg, h0]; repeat (refine And.intro (by clear hK; first | omega | (intros; simp_all; done) | (intros; grind)) ?_)
  first
    | refine CallQ.fzE (engOk_s p e h he) (by simp) ?_
    | refine CallK.fzE (engOk_s p e h he) (by simp) ?_
  simp -implicitDefEqProofs [hg, h0]; repeat (refine And.intro (by clear hK; first | omega | (intros; simp_all; done) | (intros; grind)) ?_)
  refine hK _ ?_; clear hK K; refine SW.cond _ rfl (by simp) ?_ ?_
  case' refine_2 =>
   intro hb1
   first
   | (exfalso; simp at hb1; done)
   | (exfalso; simp at hb1; omega)
   | (
    refine SW.skip ?_; refine hK1 _ ?_; refine SW.seqK fun K2 hK2 => ?_; refine SW.rg fun K hK => ?_; simp -implicitDefEqProofs [hg, h0]; repeat (refine And.intro (by clear hK; first | omega | (intros; simp_all; done) | (intros; grind)) ?_)
    refine hK _ ?_; clear hK K; refine SW.cond _ rfl (by simp) ?_ ?_
    case' refine_2 =>
     intro hb2
     first
     | (exfalso; simp at hb2; done)
     | (exfalso; simp at hb2; omega)
     | (
      refine SW.skip ?_; refine hK2 _ ?_; refine SW.drawK mixed [.q [(0, false), (1, false), (2, false), (3, false), (4, false), (5, false), (6, false), (7, false), (8, false)]] (by kernel_rfl) rfl fun K hK => ?_
      simp -implicitDefEqProofs [hg, h0]; repeat (refine And.intro (by clear hK; first | omega | (intros; simp_all; done) | (intros; grind)) ?_)
      fail
      simp -implicitDefEqProofs [hg, h0]; repeat (refine And.intro (by clear hK; first | omega | (intros; simp_all; done) | (intros; grind)) ?_)
      fail
      simp -implicitDefEqProofs [hg, h0]; repeat (refine And.intro (by clear hK; first | omega | (intros; simp_all; done) | (intros; grind)) ?_)
      refine hK _ ?_; clear hK K; refine SW.ret ?_; simp [Ex.then, Ex.ib]
      all_goals first
        | (simp; done)
        | rfl
        | fail)
    rotate_right
    case' _ =>
     intro hb2
     first
     | (exfalso; simp at hb2; done)
     | (exfalso; simp at hb2; omega)
     | (
      refine SW.rg fun K hK => ?_; simp -implicitDefEqProofs; repeat (refine And.intro (by clear hK; first | omega | (intros; simp_all; done) | (intros; grind)) ?_)
      refine hK _ ?_; clear hK K; refine SW.ret ?_; simp [Ex.then, Ex.ib]
      all_goals first
        | (simp; done)
        | rfl
        | fail))
  rotate_right
  case' _ =>
   intro hb1
   first
   | (exfalso; simp at hb1; done)
   | (exfalso; simp at hb1; omega)
   | (
    refine SW.rg fun K hK => ?_; simp -implicitDefEqProofs; repeat (refine And.intro (by clear hK; first | omega | (intros; simp_all; done) | (intros; grind)) ?_)
    refine hK _ ?_; clear hK K; refine SW.ret ?_; simp [Ex.then, Ex.ib]
    all_goals first
      | (simp; done)
      | rfl
      | fail)
set_option maxHeartbeats 1000000 in
theorem whyc_s (p : Prog) (e : Eng) (n : Int) (h : p.ok) (he : e.ok) (hn : n < 0) (g : Gor) (hg : e.gs[n.toNat]? = some g) : Fn Tryz.prog 6 [.agg p.fr, .agg e.fr, .int .i64 n] (.str noB) := by
  refine Fn.intro Tryz.func6 (by decide) rfl (rs := [.tmp 6]) rfl Tryz.ntmps6 (by simp) ?_; have h0 : ¬ 0 ≤ n := by omega
  refine SW.rg fun K hK => ?_; simp -implicitDefEqProofs; repeat (refine And.intro (by clear hK; first | omega | (intros; simp_all; done) | (intros; grind)) ?_)
  refine hK _ ?_; clear hK K; refine SW.seqK fun K1 hK1 => ?_; refine SW.rg fun K hK => ?_; simp -implicitDefEqProofs [hg, h0]; repeat (refine And.intro (by clear hK; first | omega | (intros; simp_all; done) | (intros; grind)) ?_)
  first
    | refine CallQ.fzE (engOk_s p e h he) (by simp) ?_
    | refine CallK.fzE (engOk_s p e h he) (by simp) ?_
  simp -implicitDefEqProofs [hg, h0]; repeat (refine And.intro (by clear hK; first | omega | (intros; simp_all; done) | (intros; grind)) ?_)
  refine hK _ ?_; clear hK K; refine SW.cond _ rfl (by simp) ?_ ?_
  case' refine_2 =>
   intro hb1
   first
   | (exfalso; simp at hb1; done)
   | (exfalso; simp at hb1; omega)
   | (
    refine SW.skip ?_; refine hK1 _ ?_; refine SW.seqK fun K2 hK2 => ?_; refine SW.rg fun K hK => ?_; simp -implicitDefEqProofs [hg, h0]; repeat (refine And.intro (by clear hK; first | omega | (intros; simp_all; done) | (intros; grind)) ?_)
    refine hK _ ?_; clear hK K; refine SW.cond _ rfl (by simp) ?_ ?_
    case' refine_2 =>
     intro hb2
     first
     | (exfalso; simp at hb2; done)
     | (exfalso; simp at hb2; omega)
     | (
      refine SW.skip ?_; refine hK2 _ ?_; refine SW.drawK mixed [.q [(0, false), (1, false), (2, false), (3, false), (4, false), (5, false), (6, false), (7, false), (8, false)]] (by kernel_rfl) rfl fun K hK => ?_
      simp -implicitDefEqProofs [hg, h0]; repeat (refine And.intro (by clear hK; first | omega | (intros; simp_all; done) | (intros; grind)) ?_)
      fail
      simp -implicitDefEqProofs [hg, h0]; repeat (refine And.intro (by clear hK; first | omega | (intros; simp_all; done) | (intros; grind)) ?_)
      fail
      simp -implicitDefEqProofs [hg, h0]; repeat (refine And.intro (by clear hK; first | omega | (intros; simp_all; done) | (intros; grind)) ?_)
      refine hK _ ?_; clear hK K; refine SW.ret ?_; simp [Ex.then, Ex.ib]
      all_goals first
        | (simp; done)
        | rfl
        | fail)
    rotate_right
    case' _ =>
     intro hb2
     first
     | (exfalso; simp at hb2; done)
     | (exfalso; simp at hb2; omega)
     | (
      refine SW.rg fun K hK => ?_; simp -implicitDefEqProofs; repeat (refine And.intro (by clear hK; first | omega | (intros; simp_all; done) | (intros; grind)) ?_)
      refine hK _ ?_; clear hK K; refine SW.ret ?_; simp [Ex.then, Ex.ib]
      all_goals first
        | (simp; done)
        | rfl
        | fail))
  rotate_right
  case' _ =>
   intro hb1
   first
   | (exfalso; simp at hb1; done)
   | (exfalso; simp at hb1; omega)
   | (
    refine SW.rg fun K hK => ?_; simp -implicitDefEqProofs; repeat (refine And.intro (by clear hK; first | omega | (intros; simp_all; done) | (intros; grind)) ?_)
    refine hK _ ?_; clear hK K; refine SW.ret ?_; simp [Ex.then, Ex.ib]
    all_goals first
      | (simp; done)
      | rfl
      | fail)
set_option maxHeartbeats 1000000 in
theorem whyd_s (p : Prog) (e : Eng) (n : Int) (h : p.ok) (he : e.ok) (hn : (e.gs.length : Int) ≤ n) (hg : e.gs[n.toNat]? = none) : Fn Tryz.prog 6 [.agg p.fr, .agg e.fr, .int .i64 n] (.str noB) := by
  refine Fn.intro Tryz.func6 (by decide) rfl (rs := [.tmp 6]) rfl Tryz.ntmps6 (by simp) ?_; have h0 : ¬ n < (e.gs.length : Int) := by omega
  refine SW.rg fun K hK => ?_; simp -implicitDefEqProofs; repeat (refine And.intro (by clear hK; first | omega | (intros; simp_all; done) | (intros; grind)) ?_)
  refine hK _ ?_; clear hK K; refine SW.seqK fun K1 hK1 => ?_; refine SW.rg fun K hK => ?_; simp -implicitDefEqProofs [hg, h0]; repeat (refine And.intro (by clear hK; first | omega | (intros; simp_all; done) | (intros; grind)) ?_)
  first
    | refine CallQ.fzE (engOk_s p e h he) (by simp) ?_
    | refine CallK.fzE (engOk_s p e h he) (by simp) ?_
  simp -implicitDefEqProofs [hg, h0]; repeat (refine And.intro (by clear hK; first | omega | (intros; simp_all; done) | (intros; grind)) ?_)
  refine hK _ ?_; clear hK K; refine SW.cond _ rfl (by simp) ?_ ?_
  case' refine_2 =>
   intro hb1
   first
   | (exfalso; simp at hb1; done)
   | (exfalso; simp at hb1; omega)
   | (
    refine SW.skip ?_; refine hK1 _ ?_; refine SW.seqK fun K2 hK2 => ?_; refine SW.rg fun K hK => ?_; simp -implicitDefEqProofs [hg, h0]; repeat (refine And.intro (by clear hK; first | omega | (intros; simp_all; done) | (intros; grind)) ?_)
    refine hK _ ?_; clear hK K; refine SW.cond _ rfl (by simp) ?_ ?_
    case' refine_2 =>
     intro hb2
     first
     | (exfalso; simp at hb2; done)
     | (exfalso; simp at hb2; omega)
     | (
      refine SW.skip ?_; refine hK2 _ ?_; refine SW.drawK mixed [.q [(0, false), (1, false), (2, false), (3, false), (4, false), (5, false), (6, false), (7, false), (8, false)]] (by kernel_rfl) rfl fun K hK => ?_
      simp -implicitDefEqProofs [hg, h0]; repeat (refine And.intro (by clear hK; first | omega | (intros; simp_all; done) | (intros; grind)) ?_)
      fail
      simp -implicitDefEqProofs [hg, h0]; repeat (refine And.intro (by clear hK; first | omega | (intros; simp_all; done) | (intros; grind)) ?_)
      fail
      simp -implicitDefEqProofs [hg, h0]; repeat (refine And.intro (by clear hK; first | omega | (intros; simp_all; done) | (intros; grind)) ?_)
      refine hK _ ?_; clear hK K; refine SW.ret ?_; simp [Ex.then, Ex.ib]
      all_goals first
        | (simp; done)
        | rfl
        | fail)
    rotate_right
    case' _ =>
     intro hb2
     first
     | (exfalso; simp at hb2; done)
     | (exfalso; simp at hb2; omega)
     | (
      refine SW.rg fun K hK => ?_; simp -implicitDefEqProofs; repeat (refine And.intro (by clear hK; first | omega | (intros; simp_all; done) | (intros; grind)) ?_)
      refine hK _ ?_; clear hK K; refine SW.ret ?_; simp [Ex.then, Ex.ib]
      all_goals first
        | (simp; done)
        | rfl
        | fail))
  rotate_right
  case' _ =>
   intro hb1
   first
   | (exfalso; simp at hb1; done)
   | (exfalso; simp at hb1; omega)
   | (
    refine SW.rg fun K hK => ?_; simp -implicitDefEqProofs; repeat (refine And.intro (by clear hK; first | omega | (intros; simp_all; done) | (intros; grind)) ?_)
    refine hK _ ?_; clear hK K; refine SW.ret ?_; simp [Ex.then, Ex.ib]
    all_goals first
      | (simp; done)
      | rfl
      | fail)
theorem why_s (p : Prog) (e : Eng) (n : Int) (h : p.ok) (he : e.ok) : Fn Tryz.prog 6 [.agg p.fr, .agg e.fr, .int .i64 n] (.str (whyT p e n)) := by
  rcases Int.lt_or_le n 0 with h0 | h0
  · have hr : whyT p e n = noB := by unfold whyT; rw [if_neg (by simp; omega)]
    rw [hr]
    cases hg : e.gs[n.toNat]? with
    | none => exact whyb_s p e n h he h0 hg
    | some g => exact whyc_s p e n h he h0 g hg
  · cases hg : e.gs[n.toNat]? with
    | none =>
      have hr : whyT p e n = noB := by unfold whyT; rw [hg]; simp
      rw [hr]
      exact whyd_s p e n h he (by have := List.getElem?_eq_none_iff.1 hg; omega) hg
    | some g =>
      have hn : n = (n.toNat : Int) := by omega
      cases hE : engOk p e with
      | false =>
        have hr : whyT p e n = noB := by unfold whyT; rw [hE]; simp
        rw [hr]; exact whyE_s p e n h he n.toNat g hn hg hE
      | true =>
        by_cases hst : g.state = 2
        · have hr : whyT p e n = insT (atI p g) := by unfold whyT; rw [hE, hg]; simp [h0, hst]
          rw [hr]; exact whyY_s p e n h he n.toNat g hn hg hE hst (engOk_gor hE (List.mem_of_getElem? hg))
        · have hr : whyT p e n = noB := by unfold whyT; rw [hg]; simp [hst]
          rw [hr]; exact whyS_s p e n h he n.toNat g hn hg hst
set_option maxHeartbeats 1000000 in
theorem whyY_i (p : Prog) (e : Eng) (n : Int) (h : p.ok) (he : e.ok) (k : Nat) (g : Gor) (hn : n = k) (hg : e.gs[k]? = some g) (hE : engOk p e = true) (hst : g.state = 2) (hk : gorOk p g = true) : Fn Tryz.prog 9 [.agg p.fr, .agg e.fr, .int .i64 n] (.str (insT (atI p g))) := by
  refine Fn.intro Tryz.func9 (by decide) rfl (rs := [.tmp 6]) rfl Tryz.ntmps9 (by simp) ?_; subst hn; have hlt := (List.getElem?_eq_some_iff.1 hg).1
  have hgE : ∀ q, e.gs[k]'q = g := fun q => (List.getElem?_eq_some_iff.1 hg).2
  have hI := instr_i p g (gor_at hk)
  generalize hi : atI p g = i at hI
  refine SW.rg fun K hK => ?_; simp -implicitDefEqProofs; repeat (refine And.intro (by clear hK; first | omega | (intros; simp_all; done) | (intros; grind)) ?_)
  refine hK _ ?_; clear hK K; refine SW.seqK fun K1 hK1 => ?_; refine SW.rg fun K hK => ?_; simp -implicitDefEqProofs [hg, hgE, hlt, hst]; repeat (refine And.intro (by clear hK; first | omega | (intros; simp_all; done) | (intros; grind)) ?_)
  first
    | refine CallQ.fzE ((show Fn Tryz.prog 27 [.agg p.fr, .agg e.fr] (.bool true) by have h9 := engOk_i p e h he; rwa [hE] at h9)) (by simp) ?_
    | refine CallK.fzE ((show Fn Tryz.prog 27 [.agg p.fr, .agg e.fr] (.bool true) by have h9 := engOk_i p e h he; rwa [hE] at h9)) (by simp) ?_
  simp -implicitDefEqProofs [hg, hgE, hlt, hst]; repeat (refine And.intro (by clear hK; first | omega | (intros; simp_all; done) | (intros; grind)) ?_)
  refine CallG.fzE (by simp) (fun _ => within_ok k 0 e.gs.length) (by simp) ?_; simp -implicitDefEqProofs [hg, hgE, hlt, hst]; repeat (refine And.intro (by clear hK; first | omega | (intros; simp_all; done) | (intros; grind)) ?_)
  refine hK _ ?_; clear hK K; refine SW.cond _ rfl (by simp) ?_ ?_
  case' refine_2 =>
   intro hb1
   first
   | (exfalso; simp at hb1; done)
   | (exfalso; simp at hb1; omega)
   | (
    refine SW.skip ?_; refine hK1 _ ?_; refine SW.drawK mixed [.q [(0, false), (1, false), (2, false), (3, false), (4, false), (5, false), (6, false), (7, false), (8, false)]] (by kernel_rfl) rfl fun K hK => ?_
    simp -implicitDefEqProofs [hg, hgE, hlt, hst]; repeat (refine And.intro (by clear hK; first | omega | (intros; simp_all; done) | (intros; grind)) ?_)
    first
      | refine CallQ.fzE hI (by simp [hgE, hst]) ?_
      | refine CallK.fzE hI (by simp [hgE, hst]) ?_
    simp -implicitDefEqProofs [hg, hgE, hlt, hst]; repeat (refine And.intro (by clear hK; first | omega | (intros; simp_all; done) | (intros; grind)) ?_)
    first
      | refine CallQ.fzE (insText_i i) (by simp) ?_
      | refine CallK.fzE (insText_i i) (by simp) ?_
    simp -implicitDefEqProofs [hg, hgE, hlt, hst]; repeat (refine And.intro (by clear hK; first | omega | (intros; simp_all; done) | (intros; grind)) ?_)
    refine hK _ ?_; clear hK K; refine SW.ret ?_; simp [Ex.then, Ex.ib]
    all_goals first
      | (simp; done)
      | rfl
      | fail)
  rotate_right
  case' _ =>
   intro hb1
   first
   | (exfalso; simp at hb1; done)
   | (exfalso; simp at hb1; omega)
   | (
    refine SW.rg fun K hK => ?_; simp -implicitDefEqProofs; repeat (refine And.intro (by clear hK; first | omega | (intros; simp_all; done) | (intros; grind)) ?_)
    refine hK _ ?_; clear hK K; refine SW.ret ?_; simp [Ex.then, Ex.ib]
    all_goals first
      | (simp; done)
      | rfl
      | fail)
set_option maxHeartbeats 1000000 in
theorem whyE_i (p : Prog) (e : Eng) (n : Int) (h : p.ok) (he : e.ok) (k : Nat) (g : Gor) (hn : n = k) (hg : e.gs[k]? = some g) (hE : engOk p e = false) : Fn Tryz.prog 9 [.agg p.fr, .agg e.fr, .int .i64 n] (.str noB) := by
  refine Fn.intro Tryz.func9 (by decide) rfl (rs := [.tmp 6]) rfl Tryz.ntmps9 (by simp) ?_; subst hn; have hlt := (List.getElem?_eq_some_iff.1 hg).1
  have hgE : ∀ q, e.gs[k]'q = g := fun q => (List.getElem?_eq_some_iff.1 hg).2
  refine SW.rg fun K hK => ?_; simp -implicitDefEqProofs; repeat (refine And.intro (by clear hK; first | omega | (intros; simp_all; done) | (intros; grind)) ?_)
  refine hK _ ?_; clear hK K; refine SW.seqK fun K1 hK1 => ?_; refine SW.rg fun K hK => ?_; simp -implicitDefEqProofs [hg, hgE, hlt]; repeat (refine And.intro (by clear hK; first | omega | (intros; simp_all; done) | (intros; grind)) ?_)
  first
    | refine CallQ.fzE ((show Fn Tryz.prog 27 [.agg p.fr, .agg e.fr] (.bool false) by have h9 := engOk_i p e h he; rwa [hE] at h9)) (by simp) ?_
    | refine CallK.fzE ((show Fn Tryz.prog 27 [.agg p.fr, .agg e.fr] (.bool false) by have h9 := engOk_i p e h he; rwa [hE] at h9)) (by simp) ?_
  simp -implicitDefEqProofs [hg, hgE, hlt]; repeat (refine And.intro (by clear hK; first | omega | (intros; simp_all; done) | (intros; grind)) ?_)
  refine CallG.fzE (by simp) (fun _ => within_ok k 0 e.gs.length) (by simp) ?_; simp -implicitDefEqProofs [hg, hgE, hlt]; repeat (refine And.intro (by clear hK; first | omega | (intros; simp_all; done) | (intros; grind)) ?_)
  refine hK _ ?_; clear hK K; refine SW.cond _ rfl (by simp) ?_ ?_
  case' refine_2 =>
   intro hb1
   first
   | (exfalso; simp at hb1; done)
   | (exfalso; simp at hb1; omega)
   | (
    refine SW.skip ?_; refine hK1 _ ?_; refine SW.drawK mixed [.q [(0, false), (1, false), (2, false), (3, false), (4, false), (5, false), (6, false), (7, false), (8, false)]] (by kernel_rfl) rfl fun K hK => ?_
    simp -implicitDefEqProofs [hg, hgE, hlt]; repeat (refine And.intro (by clear hK; first | omega | (intros; simp_all; done) | (intros; grind)) ?_)
    fail
    simp -implicitDefEqProofs [hg, hgE, hlt]; repeat (refine And.intro (by clear hK; first | omega | (intros; simp_all; done) | (intros; grind)) ?_)
    fail
    simp -implicitDefEqProofs [hg, hgE, hlt]; repeat (refine And.intro (by clear hK; first | omega | (intros; simp_all; done) | (intros; grind)) ?_)
    refine hK _ ?_; clear hK K; refine SW.ret ?_; simp [Ex.then, Ex.ib]
    all_goals first
      | (simp; done)
      | rfl
      | fail)
  rotate_right
  case' _ =>
   intro hb1
   first
   | (exfalso; simp at hb1; done)
   | (exfalso; simp at hb1; omega)
   | (
    refine SW.rg fun K hK => ?_; simp -implicitDefEqProofs; repeat (refine And.intro (by clear hK; first | omega | (intros; simp_all; done) | (intros; grind)) ?_)
    refine hK _ ?_; clear hK K; refine SW.ret ?_; simp [Ex.then, Ex.ib]
    all_goals first
      | (simp; done)
      | rfl
      | fail)
set_option maxHeartbeats 1000000 in
theorem whyS_i (p : Prog) (e : Eng) (n : Int) (h : p.ok) (he : e.ok) (k : Nat) (g : Gor) (hn : n = k) (hg : e.gs[k]? = some g) (hst : ¬ g.state = 2) : Fn Tryz.prog 9 [.agg p.fr, .agg e.fr, .int .i64 n] (.str noB) := by
  refine Fn.intro Tryz.func9 (by decide) rfl (rs := [.tmp 6]) rfl Tryz.ntmps9 (by simp) ?_; subst hn; have hlt := (List.getElem?_eq_some_iff.1 hg).1
  have hgE : ∀ q, e.gs[k]'q = g := fun q => (List.getElem?_eq_some_iff.1 hg).2
  have hst2 : (g.state == 2) = false := by simpa using hst
  refine SW.rg fun K hK => ?_; simp -implicitDefEqProofs; repeat (refine And.intro (by clear hK; first | omega | (intros; simp_all; done) | (intros; grind)) ?_)
  refine hK _ ?_; clear hK K; refine SW.seqK fun K1 hK1 => ?_; refine SW.rg fun K hK => ?_; simp -implicitDefEqProofs [hg, hgE, hlt, hst, hst2]
  repeat (refine And.intro (by clear hK; first | omega | (intros; simp_all; done) | (intros; grind)) ?_)
  first
    | refine CallQ.fzE (engOk_i p e h he) (by simp) ?_
    | refine CallK.fzE (engOk_i p e h he) (by simp) ?_
  simp -implicitDefEqProofs [hg, hgE, hlt, hst, hst2]; repeat (refine And.intro (by clear hK; first | omega | (intros; simp_all; done) | (intros; grind)) ?_)
  refine CallG.fzE (by simp) (fun _ => within_ok k 0 e.gs.length) (by simp) ?_; simp -implicitDefEqProofs [hg, hgE, hlt, hst, hst2]; repeat (refine And.intro (by clear hK; first | omega | (intros; simp_all; done) | (intros; grind)) ?_)
  refine hK _ ?_; clear hK K; refine SW.cond _ rfl (by simp) ?_ ?_
  case' refine_2 =>
   intro hb1
   first
   | (exfalso; simp at hb1; done)
   | (exfalso; simp at hb1; omega)
   | (
    refine SW.skip ?_; refine hK1 _ ?_; refine SW.drawK mixed [.q [(0, false), (1, false), (2, false), (3, false), (4, false), (5, false), (6, false), (7, false), (8, false)]] (by kernel_rfl) rfl fun K hK => ?_
    simp -implicitDefEqProofs [hg, hgE, hlt, hst, hst2]; repeat (refine And.intro (by clear hK; first | omega | (intros; simp_all; done) | (intros; grind)) ?_)
    fail
    simp -implicitDefEqProofs [hg, hgE, hlt, hst, hst2]; repeat (refine And.intro (by clear hK; first | omega | (intros; simp_all; done) | (intros; grind)) ?_)
    fail
    simp -implicitDefEqProofs [hg, hgE, hlt, hst, hst2]; repeat (refine And.intro (by clear hK; first | omega | (intros; simp_all; done) | (intros; grind)) ?_)
    refine hK _ ?_; clear hK K; refine SW.ret ?_; simp [Ex.then, Ex.ib]
    all_goals first
      | (simp; done)
      | rfl
      | fail)
  rotate_right
  case' _ =>
   intro hb1
   first
   | (exfalso; simp at hb1; done)
   | (exfalso; simp at hb1; omega)
   | (
    refine SW.rg fun K hK => ?_; simp -implicitDefEqProofs; repeat (refine And.intro (by clear hK; first | omega | (intros; simp_all; done) | (intros; grind)) ?_)
    refine hK _ ?_; clear hK K; refine SW.ret ?_; simp [Ex.then, Ex.ib]
    all_goals first
      | (simp; done)
      | rfl
      | fail)
set_option maxHeartbeats 1000000 in
theorem whyb_i (p : Prog) (e : Eng) (n : Int) (h : p.ok) (he : e.ok) (hn : n < 0) (hg : e.gs[n.toNat]? = none) : Fn Tryz.prog 9 [.agg p.fr, .agg e.fr, .int .i64 n] (.str noB) := by
  refine Fn.intro Tryz.func9 (by decide) rfl (rs := [.tmp 6]) rfl Tryz.ntmps9 (by simp) ?_; have h0 : ¬ 0 ≤ n := by omega
  refine SW.rg fun K hK => ?_; simp -implicitDefEqProofs; repeat (refine And.intro (by clear hK; first | omega | (intros; simp_all; done) | (intros; grind)) ?_)
  refine hK _ ?_; clear hK K; refine SW.seqK fun K1 hK1 => ?_; refine SW.rg fun K hK => ?_; simp -implicitDefEqProofs [hg, h0]; repeat (refine And.intro (by clear hK; first | omega | (intros; simp_all; done) | (intros; grind)) ?_)
  first
    | refine CallQ.fzE (engOk_i p e h he) (by simp) ?_
    | refine CallK.fzE (engOk_i p e h he) (by simp) ?_
  simp -implicitDefEqProofs [hg, h0]; repeat (refine And.intro (by clear hK; first | omega | (intros; simp_all; done) | (intros; grind)) ?_)
  refine CallG.fzE (by simp) (fun _ => within_ok n 0 e.gs.length) (by simp) ?_; simp -implicitDefEqProofs [hg, h0]; repeat (refine And.intro (by clear hK; first | omega | (intros; simp_all; done) | (intros; grind)) ?_)
  refine hK _ ?_; clear hK K; refine SW.cond _ rfl (by simp) ?_ ?_
  case' refine_2 =>
   intro hb1
   first
   | (exfalso; simp at hb1; done)
   | (exfalso; simp at hb1; omega)
   | (
    refine SW.skip ?_; refine hK1 _ ?_; refine SW.drawK mixed [.q [(0, false), (1, false), (2, false), (3, false), (4, false), (5, false), (6, false), (7, false), (8, false)]] (by kernel_rfl) rfl fun K hK => ?_
    simp -implicitDefEqProofs [hg, h0]; repeat (refine And.intro (by clear hK; first | omega | (intros; simp_all; done) | (intros; grind)) ?_)
    fail
    simp -implicitDefEqProofs [hg, h0]; repeat (refine And.intro (by clear hK; first | omega | (intros; simp_all; done) | (intros; grind)) ?_)
    fail
    simp -implicitDefEqProofs [hg, h0]; repeat (refine And.intro (by clear hK; first | omega | (intros; simp_all; done) | (intros; grind)) ?_)
    refine hK _ ?_; clear hK K; refine SW.ret ?_; simp [Ex.then, Ex.ib]
    all_goals first
      | (simp; done)
      | rfl
      | fail)
  rotate_right
  case' _ =>
   intro hb1
   first
   | (exfalso; simp at hb1; done)
   | (exfalso; simp at hb1; omega)
   | (
    refine SW.rg fun K hK => ?_; simp -implicitDefEqProofs; repeat (refine And.intro (by clear hK; first | omega | (intros; simp_all; done) | (intros; grind)) ?_)
    refine hK _ ?_; clear hK K; refine SW.ret ?_; simp [Ex.then, Ex.ib]
    all_goals first
      | (simp; done)
      | rfl
      | fail)
set_option maxHeartbeats 1000000 in
theorem whyc_i (p : Prog) (e : Eng) (n : Int) (h : p.ok) (he : e.ok) (hn : n < 0) (g : Gor) (hg : e.gs[n.toNat]? = some g) : Fn Tryz.prog 9 [.agg p.fr, .agg e.fr, .int .i64 n] (.str noB) := by
  refine Fn.intro Tryz.func9 (by decide) rfl (rs := [.tmp 6]) rfl Tryz.ntmps9 (by simp) ?_; have h0 : ¬ 0 ≤ n := by omega
  refine SW.rg fun K hK => ?_; simp -implicitDefEqProofs; repeat (refine And.intro (by clear hK; first | omega | (intros; simp_all; done) | (intros; grind)) ?_)
  refine hK _ ?_; clear hK K; refine SW.seqK fun K1 hK1 => ?_; refine SW.rg fun K hK => ?_; simp -implicitDefEqProofs [hg, h0]; repeat (refine And.intro (by clear hK; first | omega | (intros; simp_all; done) | (intros; grind)) ?_)
  first
    | refine CallQ.fzE (engOk_i p e h he) (by simp) ?_
    | refine CallK.fzE (engOk_i p e h he) (by simp) ?_
  simp -implicitDefEqProofs [hg, h0]; repeat (refine And.intro (by clear hK; first | omega | (intros; simp_all; done) | (intros; grind)) ?_)
  refine CallG.fzE (by simp) (fun _ => within_ok n 0 e.gs.length) (by simp) ?_; simp -implicitDefEqProofs [hg, h0]; repeat (refine And.intro (by clear hK; first | omega | (intros; simp_all; done) | (intros; grind)) ?_)
  refine hK _ ?_; clear hK K; refine SW.cond _ rfl (by simp) ?_ ?_
  case' refine_2 =>
   intro hb1
   first
   | (exfalso; simp at hb1; done)
   | (exfalso; simp at hb1; omega)
   | (
    refine SW.skip ?_; refine hK1 _ ?_; refine SW.drawK mixed [.q [(0, false), (1, false), (2, false), (3, false), (4, false), (5, false), (6, false), (7, false), (8, false)]] (by kernel_rfl) rfl fun K hK => ?_
    simp -implicitDefEqProofs [hg, h0]; repeat (refine And.intro (by clear hK; first | omega | (intros; simp_all; done) | (intros; grind)) ?_)
    fail
    simp -implicitDefEqProofs [hg, h0]; repeat (refine And.intro (by clear hK; first | omega | (intros; simp_all; done) | (intros; grind)) ?_)
    fail
    simp -implicitDefEqProofs [hg, h0]; repeat (refine And.intro (by clear hK; first | omega | (intros; simp_all; done) | (intros; grind)) ?_)
    refine hK _ ?_; clear hK K; refine SW.ret ?_; simp [Ex.then, Ex.ib]
    all_goals first
      | (simp; done)
      | rfl
      | fail)
  rotate_right
  case' _ =>
   intro hb1
   first
   | (exfalso; simp at hb1; done)
   | (exfalso; simp at hb1; omega)
   | (
    refine SW.rg fun K hK => ?_; simp -implicitDefEqProofs; repeat (refine And.intro (by clear hK; first | omega | (intros; simp_all; done) | (intros; grind)) ?_)
    refine hK _ ?_; clear hK K; refine SW.ret ?_; simp [Ex.then, Ex.ib]
    all_goals first
      | (simp; done)
      | rfl
      | fail)
set_option maxHeartbeats 1000000 in
theorem whyd_i (p : Prog) (e : Eng) (n : Int) (h : p.ok) (he : e.ok) (hn : (e.gs.length : Int) ≤ n) (hg : e.gs[n.toNat]? = none) : Fn Tryz.prog 9 [.agg p.fr, .agg e.fr, .int .i64 n] (.str noB) := by
  refine Fn.intro Tryz.func9 (by decide) rfl (rs := [.tmp 6]) rfl Tryz.ntmps9 (by simp) ?_; have h0 : ¬ n < (e.gs.length : Int) := by omega
  refine SW.rg fun K hK => ?_; simp -implicitDefEqProofs; repeat (refine And.intro (by clear hK; first | omega | (intros; simp_all; done) | (intros; grind)) ?_)
  refine hK _ ?_; clear hK K; refine SW.seqK fun K1 hK1 => ?_; refine SW.rg fun K hK => ?_; simp -implicitDefEqProofs [hg, h0]; repeat (refine And.intro (by clear hK; first | omega | (intros; simp_all; done) | (intros; grind)) ?_)
  first
    | refine CallQ.fzE (engOk_i p e h he) (by simp) ?_
    | refine CallK.fzE (engOk_i p e h he) (by simp) ?_
  simp -implicitDefEqProofs [hg, h0]; repeat (refine And.intro (by clear hK; first | omega | (intros; simp_all; done) | (intros; grind)) ?_)
  refine CallG.fzE (by simp) (fun _ => within_ok n 0 e.gs.length) (by simp) ?_; simp -implicitDefEqProofs [hg, h0]; repeat (refine And.intro (by clear hK; first | omega | (intros; simp_all; done) | (intros; grind)) ?_)
  refine hK _ ?_; clear hK K; refine SW.cond _ rfl (by simp) ?_ ?_
  case' refine_2 =>
   intro hb1
   first
   | (exfalso; simp at hb1; done)
   | (exfalso; simp at hb1; omega)
   | (
    refine SW.skip ?_; refine hK1 _ ?_; refine SW.drawK mixed [.q [(0, false), (1, false), (2, false), (3, false), (4, false), (5, false), (6, false), (7, false), (8, false)]] (by kernel_rfl) rfl fun K hK => ?_
    simp -implicitDefEqProofs [hg, h0]; repeat (refine And.intro (by clear hK; first | omega | (intros; simp_all; done) | (intros; grind)) ?_)
    fail
    simp -implicitDefEqProofs [hg, h0]; repeat (refine And.intro (by clear hK; first | omega | (intros; simp_all; done) | (intros; grind)) ?_)
    fail
    simp -implicitDefEqProofs [hg, h0]; repeat (refine And.intro (by clear hK; first | omega | (intros; simp_all; done) | (intros; grind)) ?_)
    refine hK _ ?_; clear hK K; refine SW.ret ?_; simp [Ex.then, Ex.ib]
    all_goals first
      | (simp; done)
      | rfl
      | fail)
  rotate_right
  case' _ =>
   intro hb1
   first
   | (exfalso; simp at hb1; done)
   | (exfalso; simp at hb1; omega)
   | (
    refine SW.rg fun K hK => ?_; simp -implicitDefEqProofs; repeat (refine And.intro (by clear hK; first | omega | (intros; simp_all; done) | (intros; grind)) ?_)
    refine hK _ ?_; clear hK K; refine SW.ret ?_; simp [Ex.then, Ex.ib]
    all_goals first
      | (simp; done)
      | rfl
      | fail)
theorem why_i (p : Prog) (e : Eng) (n : Int) (h : p.ok) (he : e.ok) : Fn Tryz.prog 9 [.agg p.fr, .agg e.fr, .int .i64 n] (.str (whyT p e n)) := by
  rcases Int.lt_or_le n 0 with h0 | h0
  · have hr : whyT p e n = noB := by unfold whyT; rw [if_neg (by simp; omega)]
    rw [hr]
    cases hg : e.gs[n.toNat]? with
    | none => exact whyb_i p e n h he h0 hg
    | some g => exact whyc_i p e n h he h0 g hg
  · cases hg : e.gs[n.toNat]? with
    | none =>
      have hr : whyT p e n = noB := by unfold whyT; rw [hg]; simp
      rw [hr]
      exact whyd_i p e n h he (by have := List.getElem?_eq_none_iff.1 hg; omega) hg
    | some g =>
      have hn : n = (n.toNat : Int) := by omega
      cases hE : engOk p e with
      | false =>
        have hr : whyT p e n = noB := by unfold whyT; rw [hE]; simp
        rw [hr]; exact whyE_i p e n h he n.toNat g hn hg hE
      | true =>
        by_cases hst : g.state = 2
        · have hr : whyT p e n = insT (atI p g) := by unfold whyT; rw [hE, hg]; simp [h0, hst]
          rw [hr]; exact whyY_i p e n h he n.toNat g hn hg hE hst (engOk_gor hE (List.mem_of_getElem? hg))
        · have hr : whyT p e n = noB := by unfold whyT; rw [hg]; simp [hst]
          rw [hr]; exact whyS_i p e n h he n.toNat g hn hg hst
set_option maxHeartbeats 1000000 in
theorem law_why (a : Prog) (b : Eng) (n : Int) (fa : a.fit) (fb : b.fit) : Fn Tryz.prog 3 [.agg a.fr, .agg b.fr, .int .i64 n] (.bool true) := by
  refine Fn.intro Tryz.func3 (by decide) rfl (rs := [.tmp 6]) rfl Tryz.ntmps3 (by simp) ?_; have q1 := szR_cases a.sz 1048576
  have q2 := szR_cases b.sz (szR a.sz 1048576)
  have qt := Prog.tw_le a
  refine SW.rg fun K hK => ?_; simp -implicitDefEqProofs; repeat refine ⟨by omega, ?_⟩
  refine hK _ ?_; clear hK K; refine SW.rg fun K hK => ?_; simp -implicitDefEqProofs; repeat refine ⟨by omega, ?_⟩
  refine hK _ ?_; clear hK K; refine SW.rg fun K hK => ?_; simp -implicitDefEqProofs; iterate 2 (try refine ⟨by omega, ?_⟩)
  refine CallK.fzE (szProg_ok a 1048576 fa (by omega) (by omega)) (by simp) ?_; simp -implicitDefEqProofs; repeat refine ⟨by omega, ?_⟩
  refine hK _ ?_; clear hK K; refine SW.seqK fun K1 hK1 => ?_; refine SW.rg fun K hK => ?_; simp -implicitDefEqProofs; repeat refine ⟨by omega, ?_⟩
  refine hK _ ?_; clear hK K; refine SW.cond _ rfl (by simp) ?_ ?_
  case' refine_2 =>
   intro hb1
   first
   | (exfalso; simp at hb1; done)
   | (exfalso; simp at hb1; omega)
   | (
    have n1 : 0 ≤ szR a.sz 1048576 := by simp at hb1; omega
    have ha : a.ok := Prog.sz_ok (by omega)
    have hW : a.tw ≤ 2 ^ 30 := by omega
    have hl0 : a.caps.length ≤ 2 ^ 30 := by have := ha.1; omega
    have hl1 : a.sels.length ≤ 2 ^ 30 := by have := ha.2.1; omega
    have hl2 : a.procs.length ≤ 2 ^ 30 := by have := ha.2.2.2.1; omega
    refine SW.skip ?_; refine hK1 _ ?_; refine SW.rg fun K hK => ?_; simp -implicitDefEqProofs; iterate 2 (try refine ⟨by omega, ?_⟩)
    refine CallK.fzE (szEng_ok b (szR a.sz 1048576) fb (by omega) (by omega)) (by simp) ?_; simp -implicitDefEqProofs; repeat refine ⟨by omega, ?_⟩
    refine hK _ ?_; clear hK K; refine SW.seqK fun K2 hK2 => ?_; refine SW.rg fun K hK => ?_; simp -implicitDefEqProofs; repeat refine ⟨by omega, ?_⟩
    refine hK _ ?_; clear hK K; refine SW.cond _ rfl (by simp) ?_ ?_
    case' refine_2 =>
     intro hb2
     first
     | (exfalso; simp at hb2; done)
     | (exfalso; simp at hb2; omega)
     | (
      have n2 : 0 ≤ szR b.sz (szR a.sz 1048576) := by simp at hb2; omega
      have hb : b.ok := Eng.sz_ok (by omega)
      refine SW.skip ?_; refine hK2 _ ?_; refine SW.drawK mixed [.q [(0, false), (1, false), (2, false), (3, false), (4, false), (5, false), (6, false)]] (by kernel_rfl) rfl fun K hK => ?_; simp -implicitDefEqProofs
      iterate 2 (try refine ⟨by omega, ?_⟩)
      first
        | refine CallQ.fzE (toProg_ok a ha) (by simp) ?_
        | refine CallK.fzE (toProg_ok a ha) (by simp) ?_
      simp -implicitDefEqProofs; iterate 2 (try refine ⟨by omega, ?_⟩)
      first
        | refine CallQ.fzE (toEng_ok b hb) (by simp) ?_
        | refine CallK.fzE (toEng_ok b hb) (by simp) ?_
      simp -implicitDefEqProofs; iterate 2 (try refine ⟨by omega, ?_⟩)
      first
        | refine CallQ.fzE (why_s a b n ha hb) (by simp) ?_
        | refine CallK.fzE (why_s a b n ha hb) (by simp) ?_
      simp -implicitDefEqProofs; repeat refine ⟨by omega, ?_⟩
      refine hK _ ?_; clear hK K; refine SW.rg fun K hK => ?_; simp -implicitDefEqProofs; iterate 2 (try refine ⟨by omega, ?_⟩)
      refine CallK.imE (toProg_ok a ha) (by simp) (Prog_oI a) ?_; simp -implicitDefEqProofs; repeat refine ⟨by omega, ?_⟩
      refine hK _ ?_; clear hK K; refine SW.rg fun K hK => ?_; simp -implicitDefEqProofs; iterate 2 (try refine ⟨by omega, ?_⟩)
      refine CallK.imE (toEng_ok b hb) (by simp) (Eng_oI b) ?_; simp -implicitDefEqProofs; repeat refine ⟨by omega, ?_⟩
      refine hK _ ?_; clear hK K; refine SW.rg fun K hK => ?_; simp -implicitDefEqProofs; iterate 2 (try refine ⟨by omega, ?_⟩)
      first
        | refine CallQ.fzE (why_i a b n ha hb) (by simp) ?_
        | refine CallK.fzE (why_i a b n ha hb) (by simp) ?_
      simp -implicitDefEqProofs; repeat refine ⟨by omega, ?_⟩
      refine hK _ ?_; clear hK K; refine SW.seqK fun K3 hK3 => ?_; refine SW.rg fun K hK => ?_; simp -implicitDefEqProofs; repeat refine ⟨by omega, ?_⟩
      refine hK _ ?_; clear hK K; refine SW.cond _ rfl (by simp) ?_ ?_
      case' refine_2 =>
       intro hb3
       first
       | (exfalso; simp at hb3; done)
       | (exfalso; simp at hb3; omega)
       | (
        refine SW.skip ?_; refine hK3 _ ?_; refine SW.seqK fun K4 hK4 => ?_; refine SW.drawK mixed [.q [(0, false), (1, false), (2, false), (3, false), (4, false)]] (by kernel_rfl) rfl fun K hK => ?_; simp -implicitDefEqProofs
        iterate 2 (try refine ⟨by omega, ?_⟩)
        first
          | refine CallQ.fzE (toProg_ok a ha) (by simp) ?_
          | refine CallK.fzE (toProg_ok a ha) (by simp) ?_
        simp -implicitDefEqProofs; iterate 2 (try refine ⟨by omega, ?_⟩)
        refine CallQ.fzE (eqProg_ok a ha) (by simp) ?_; simp -implicitDefEqProofs; repeat refine ⟨by omega, ?_⟩
        refine hK _ ?_; clear hK K; refine SW.cond _ rfl (by simp) ?_ ?_
        case' refine_2 =>
         intro hb4
         first
         | (exfalso; simp at hb4; done)
         | (exfalso; simp at hb4; omega)
         | (
          refine SW.skip ?_; refine hK4 _ ?_; refine SW.seqK fun K5 hK5 => ?_; refine SW.drawK mixed [.q [(0, false), (1, false), (2, false), (3, false), (4, false)]] (by kernel_rfl) rfl fun K hK => ?_; simp -implicitDefEqProofs
          iterate 2 (try refine ⟨by omega, ?_⟩)
          first
            | refine CallQ.fzE (toEng_ok b hb) (by simp) ?_
            | refine CallK.fzE (toEng_ok b hb) (by simp) ?_
          simp -implicitDefEqProofs; iterate 2 (try refine ⟨by omega, ?_⟩)
          refine CallQ.fzE (eqEng_ok b hb) (by simp) ?_; simp -implicitDefEqProofs; repeat refine ⟨by omega, ?_⟩
          refine hK _ ?_; clear hK K; refine SW.cond _ rfl (by simp) ?_ ?_
          case' refine_2 =>
           intro hb5
           first
           | (exfalso; simp at hb5; done)
           | (exfalso; simp at hb5; omega)
           | (
            refine SW.skip ?_; refine hK5 _ ?_; refine SW.rg fun K hK => ?_; simp -implicitDefEqProofs; repeat refine ⟨by omega, ?_⟩
            refine hK _ ?_; clear hK K; refine SW.ret ?_
            simp [Ex.then, Ex.ib])
          rotate_right
          case' _ =>
           intro hb5
           first
           | (exfalso; simp at hb5; done)
           | (exfalso; simp at hb5; omega)
           | (
            refine SW.rg fun K hK => ?_; simp -implicitDefEqProofs; repeat refine ⟨by omega, ?_⟩
            refine hK _ ?_; clear hK K; refine SW.ret ?_
            simp [Ex.then, Ex.ib]))
        rotate_right
        case' _ =>
         intro hb4
         first
         | (exfalso; simp at hb4; done)
         | (exfalso; simp at hb4; omega)
         | (
          refine SW.rg fun K hK => ?_; simp -implicitDefEqProofs; repeat refine ⟨by omega, ?_⟩
          refine hK _ ?_; clear hK K; refine SW.ret ?_
          simp [Ex.then, Ex.ib]))
      rotate_right
      case' _ =>
       intro hb3
       first
       | (exfalso; simp at hb3; done)
       | (exfalso; simp at hb3; omega)
       | (
        refine SW.rg fun K hK => ?_; simp -implicitDefEqProofs; repeat refine ⟨by omega, ?_⟩
        refine hK _ ?_; clear hK K; refine SW.ret ?_
        simp [Ex.then, Ex.ib]))
    rotate_right
    case' _ =>
     intro hb2
     first
     | (exfalso; simp at hb2; done)
     | (exfalso; simp at hb2; omega)
     | (
      refine SW.rg fun K hK => ?_; simp -implicitDefEqProofs; repeat refine ⟨by omega, ?_⟩
      refine hK _ ?_; clear hK K; refine SW.ret ?_
      simp [Ex.then, Ex.ib]))
  rotate_right
  case' _ =>
   intro hb1
   first
   | (exfalso; simp at hb1; done)
   | (exfalso; simp at hb1; omega)
   | (
    refine SW.rg fun K hK => ?_; simp -implicitDefEqProofs; repeat refine ⟨by omega, ?_⟩
    refine hK _ ?_; clear hK K; refine SW.ret ?_
    simp [Ex.then, Ex.ib])
end HT
