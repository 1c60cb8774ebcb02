import Derived.Test.YtdhoappjadnhcaaGreatHCU2
import Derived.Test.YtdhoappjadnhcaaGreatG5
/-
  My own texts (road H): HCU3.
-/
set_option maxHeartbeats 8000000
set_option linter.unusedSimpArgs false
set_option linter.unusedVariables false
namespace HT
open Go Go.Proofs HK
def plsOk (p : Prog) (g : Gor) (n : Int) : Bool := gorOk p g && (g.state == 2) && decide (0 ≤ n)
theorem pls_len {p : Prog} {g : Gor} {n : Int} (h : p.ok) : (pls p g n).length ≤ 1048576 := by
  unfold pls; repeat' split
  all_goals first | (simp; done) | (rename_i s hs; exact Nat.le_trans (plCs_len g n 0 s.cases) (h.2.2.1 s (List.mem_of_getElem? hs)))
theorem placesY_s (p : Prog) (g : Gor) (n : Int) (h : p.ok) (hg : g.ok) (hc : plsOk p g n = true) : Fn Tryz.prog 46 [.agg p.fr, .agg g.fr, .int .i64 n] (.own 6 (PlaceS (pls p g n))) := by
  refine Fn.intro Tryz.func46 (by decide) rfl (rs := [.tmp 6]) rfl Tryz.ntmps46 (by simp) ?_; have g1 := hg.1
  have g2 := hg.2
  simp [plsOk] at hc; obtain ⟨⟨hk, hs2⟩, hn0⟩ := hc; have hpo : progOk p = true := by simp only [gorOk, Bool.and_eq_true] at hk; exact hk.1
  have hk6 : g.regs.length = 6 := by
    simp only [gorOk, gorIn, gorHead, Bool.and_eq_true, decide_eq_true_eq] at hk; omega
  have hn9 : ¬ n < 0 := by omega
  refine SW.rb ?_; refine SW.seqK fun K1 hK1 => ?_; refine SW.rg fun K hK => ?_; simp -implicitDefEqProofs [hk, hs2, hn9]; repeat (refine And.intro (by clear hK; first | omega | (intros; simp_all; done) | (intros; grind)) ?_)
  refine CallK.fzE (gorOk_s p g h hg) (by simp [hs2]) ?_; simp -implicitDefEqProofs [hk, hs2, hn9]; repeat (refine And.intro (by clear hK; first | omega | (intros; simp_all; done) | (intros; grind)) ?_)
  refine hK _ ?_; clear hK K; refine SW.cond _ rfl (by simp) ?_ ?_
  case' refine_1 =>
   intro hb1; exfalso; simp at hb1
  intro hb1; refine SW.skip ?_; refine hK1 _ ?_; refine SW.rg fun K hK => ?_; simp -implicitDefEqProofs; repeat (refine And.intro (by clear hK; first | omega | (intros; simp_all; done) | (intros; grind)) ?_)
  refine CallK.imE (places_s p g n h hpo (gor_at hk) hk6) (by simp [hs2]) (PlaceS_okI _) ?_; simp -implicitDefEqProofs; repeat (refine And.intro (by clear hK; first | omega | (intros; simp_all; done) | (intros; grind)) ?_)
  refine hK _ ?_; clear hK K; refine SW.ret ?_; simp [Ex.then, Ex.ib, -strN]
  all_goals (simp [-strN])
  all_goals (try exact PlaceS_strM _)
theorem placesN_s (p : Prog) (g : Gor) (n : Int) (h : p.ok) (hg : g.ok) (hc : plsOk p g n = false) : Fn Tryz.prog 46 [.agg p.fr, .agg g.fr, .int .i64 n] (.nil) := by
  refine Fn.intro Tryz.func46 (by decide) rfl (rs := [.tmp 6]) rfl Tryz.ntmps46 (by simp) ?_; have g1 := hg.1
  have g2 := hg.2
  refine SW.rb ?_; refine SW.seqK fun K1 hK1 => ?_; refine SW.rg fun K hK => ?_; simp -implicitDefEqProofs; repeat (refine And.intro (by clear hK; first | omega | (intros; simp_all; done) | (intros; grind)) ?_)
  first
    | refine CallQ.fzE (gorOk_s p g h hg) (by simp) ?_
    | refine CallK.fzE (gorOk_s p g h hg) (by simp) ?_
  simp -implicitDefEqProofs; repeat (refine And.intro (by clear hK; first | omega | (intros; simp_all; done) | (intros; grind)) ?_)
  refine hK _ ?_; clear hK K; refine SW.cond _ rfl (by simp) ?_ ?_
  case' refine_2 =>
   intro hb1
   have hno : (0 : Int) = 1 := by
     simp [plsOk] at hc; simp at hb1; grind
   exfalso; simp at hb1; omega
  rotate_right
  case' _ =>
   intro hb1; refine SW.rb ?_; refine SW.ret ?_; simp [Ex.then, Ex.ib]
   all_goals (try simp)
theorem placesY_i (p : Prog) (g : Gor) (n : Int) (h : p.ok) (hg : g.ok) (hc : plsOk p g n = true) : Fn Tryz.prog 59 [.agg p.fr, .agg g.fr, .int .i64 n] (.own 6 (PlaceS (pls p g n))) := by
  refine Fn.intro Tryz.func59 (by decide) rfl (rs := [.tmp 6]) rfl Tryz.ntmps59 (by simp) ?_; have g1 := hg.1
  have g2 := hg.2
  simp [plsOk] at hc; obtain ⟨⟨hk, hs2⟩, hn0⟩ := hc; have hpo : progOk p = true := by simp only [gorOk, Bool.and_eq_true] at hk; exact hk.1
  have hk6 : g.regs.length = 6 := by
    simp only [gorOk, gorIn, gorHead, Bool.and_eq_true, decide_eq_true_eq] at hk; omega
  have hn9 : ¬ n < 0 := by omega
  refine SW.rb ?_; refine SW.seqK fun K1 hK1 => ?_; refine SW.rg fun K hK => ?_; simp -implicitDefEqProofs [hk, hs2, hn9]; repeat (refine And.intro (by clear hK; first | omega | (intros; simp_all; done) | (intros; grind)) ?_)
  refine CallK.fzE (gorOk_i p g h hg) (by simp [hs2]) ?_; simp -implicitDefEqProofs [hk, hs2, hn9]; repeat (refine And.intro (by clear hK; first | omega | (intros; simp_all; done) | (intros; grind)) ?_)
  refine hK _ ?_; clear hK K; refine SW.cond _ rfl (by simp) ?_ ?_
  case' refine_1 =>
   intro hb1; exfalso; simp at hb1
  intro hb1; refine SW.skip ?_; refine hK1 _ ?_; refine SW.rg fun K hK => ?_; simp -implicitDefEqProofs; repeat (refine And.intro (by clear hK; first | omega | (intros; simp_all; done) | (intros; grind)) ?_)
  refine CallK.imE (places_i p g n h hpo (gor_at hk) hk6) (by simp [hs2]) (PlaceS_okI _) ?_; simp -implicitDefEqProofs; repeat (refine And.intro (by clear hK; first | omega | (intros; simp_all; done) | (intros; grind)) ?_)
  refine hK _ ?_; clear hK K; refine SW.ret ?_; simp [Ex.then, Ex.ib, -strN]
  all_goals (simp [-strN])
  all_goals (try exact PlaceS_strM _)
theorem placesN_i (p : Prog) (g : Gor) (n : Int) (h : p.ok) (hg : g.ok) (hc : plsOk p g n = false) : Fn Tryz.prog 59 [.agg p.fr, .agg g.fr, .int .i64 n] (.nil) := by
  refine Fn.intro Tryz.func59 (by decide) rfl (rs := [.tmp 6]) rfl Tryz.ntmps59 (by simp) ?_; have g1 := hg.1
  have g2 := hg.2
  refine SW.rb ?_; refine SW.seqK fun K1 hK1 => ?_; refine SW.rg fun K hK => ?_; simp -implicitDefEqProofs; repeat (refine And.intro (by clear hK; first | omega | (intros; simp_all; done) | (intros; grind)) ?_)
  first
    | refine CallQ.fzE (gorOk_i p g h hg) (by simp) ?_
    | refine CallK.fzE (gorOk_i p g h hg) (by simp) ?_
  simp -implicitDefEqProofs; repeat (refine And.intro (by clear hK; first | omega | (intros; simp_all; done) | (intros; grind)) ?_)
  refine hK _ ?_; clear hK K; refine SW.cond _ rfl (by simp) ?_ ?_
  case' refine_2 =>
   intro hb1
   have hno : (0 : Int) = 1 := by
     simp [plsOk] at hc; simp at hb1; grind
   exfalso; simp at hb1; omega
  rotate_right
  case' _ =>
   intro hb1; refine SW.rb ?_; refine SW.ret ?_; simp [Ex.then, Ex.ib]
   all_goals (try simp)
end HT
