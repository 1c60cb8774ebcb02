import Derived.Test.YtdhoappjadnhcaaGreatG11
import Derived.Test.YtdhoappjadnhcaaGreatG5
/-
  My own texts (road H): HCTM HCTN.
-/
set_option maxHeartbeats 8000000
set_option linter.unusedSimpArgs false
set_option linter.unusedVariables false
namespace HT
open Go Go.Proofs HK
theorem gorOk_i (p : Prog) (g : Gor) (h : p.ok) (hg : g.ok) : Fn Tryz.prog 122 [.agg p.fr, .agg g.fr] (.bool (gorOk p g)) := by
  refine Fn.intro Tryz.func122 (by decide) rfl (rs := [.tmp 4]) rfl Tryz.ntmps122 (by simp) ?_; have h3 := h.2.2.2.1
  have g1 := hg.1
  have g2 := hg.2
  refine SW.rb ?_; refine SW.seqK fun K1 hK1 => ?_
  refine SW.drawK mixed [.q [(0, false), (1, false), (2, false), (3, false), (4, false), (5, false), (6, false), (7, false), (8, false), (9, false), (10, false), (11, false), (12, false), (13, false), (14, false), (15, false), (16, false), (17, false), (18, false), (19, false), (20, false), (21, false), (22, false), (23, false), (24, false), (25, false), (26, false), (27, false), (28, false)]] (by kernel_rfl) rfl fun K hK => ?_
  simp -implicitDefEqProofs; repeat (refine And.intro (by clear hK; first | omega | (intros; simp_all; done) | (intros; grind)) ?_)
  first
    | refine CallQ.fzE (progOk_i p h) (by simp) ?_
    | refine CallK.fzE (progOk_i p h) (by simp) ?_
  simp -implicitDefEqProofs; repeat (refine And.intro (by clear hK; first | omega | (intros; simp_all; done) | (intros; grind)) ?_)
  first
    | refine CallQG.fzE (by simp) (fun _ => instrs_i p g.proc h) (by simp) ?_
    | refine CallG.fzE (by simp) (fun _ => instrs_i p g.proc h) (by simp) ?_
    | refine CallQ.fzE (instrs_i p g.proc h) (by simp) ?_
    | refine CallK.fzE (instrs_i p g.proc h) (by simp) ?_
  simp -implicitDefEqProofs; repeat (refine And.intro (by clear hK; first | omega | (intros; simp_all; done) | (intros; grind)) ?_)
  first
    | refine CallQG.fzE (by simp) (fun _ => within_ok g.pc 0 (instrs p g.proc)) (by simp) ?_
    | refine CallG.fzE (by simp) (fun _ => within_ok g.pc 0 (instrs p g.proc)) (by simp) ?_
    | refine CallQ.fzE (within_ok g.pc 0 (instrs p g.proc)) (by simp) ?_
    | refine CallK.fzE (within_ok g.pc 0 (instrs p g.proc)) (by simp) ?_
  simp -implicitDefEqProofs; repeat (refine And.intro (by clear hK; first | omega | (intros; simp_all; done) | (intros; grind)) ?_)
  refine hK _ ?_; clear hK K; refine SW.cond _ rfl (by simp) ?_ ?_
  case' refine_1 =>
   intro hb1
   have hr : gorOk p g = false := by
     cases h9 : gorOk p g with
     | false => rfl
     | true =>
       exfalso; simp only [gorOk, gorIn, gorHead, Bool.and_eq_true, decide_eq_true_eq] at h9; simp at hb1; grind
   refine SW.rb ?_; refine SW.ret ?_; simp [Ex.then, Ex.ib]
   first
     | (rw [hr]; done)
     | (rw [hr, traceOk, hits, Bool.true_and]; done)
     | fail
  intro hb1
  have hh : progOk p = true ∧ gorHead p g = true := by
    simp at hb1; simp only [gorHead, Bool.and_eq_true, decide_eq_true_eq]; grind
  refine SW.skip ?_; refine hK1 _ ?_; refine SW.seqK fun K2 hK2 => ?_; refine SW.rg fun K hK => ?_; simp -implicitDefEqProofs; repeat (refine And.intro (by clear hK; first | omega | (intros; simp_all; done) | (intros; grind)) ?_)
  first
    | refine CallQ.fzE (contG_ok g.regs (by omega)) (by simp) ?_
    | refine CallK.fzE (contG_ok g.regs (by omega)) (by simp) ?_
  simp -implicitDefEqProofs; repeat (refine And.intro (by clear hK; first | omega | (intros; simp_all; done) | (intros; grind)) ?_)
  refine hK _ ?_; clear hK K; refine SW.cond _ rfl (by simp) ?_ ?_
  case' refine_1 =>
   intro hb2; have hv : g.regs.all valOk = false := by simpa using hb2
   have hr : gorOk p g = false := by simp only [gorOk, gorIn, hv, Bool.and_false, Bool.false_and]
   refine SW.rb ?_; refine SW.ret ?_; simp [Ex.then, Ex.ib]
   first
     | (rw [hr]; done)
     | (rw [hr, traceOk, hits, Bool.true_and]; done)
     | fail
  intro hb2; have hv : g.regs.all valOk = true := by simpa using hb2
  refine SW.skip ?_; refine hK2 _ ?_; refine SW.rb ?_; refine SW.seqK fun K3 hK3 => ?_; refine SW.rb ?_; refine SW.block ?_
  refine SW.loop (α := Nat) (fun k => ⟨[(43, .int .i64 k), (42, .int .i64 g.trace.length), (41, .fz (ItemS g.trace)), (5, .int .i64 (lastK (g.trace.take k))), (2, .ptr 0 0 0), (3, .ptr 1 0 0)], [some ⟨4, [p.fr]⟩, some ⟨5, [g.fr]⟩]⟩) (fun k => k ≤ g.trace.length ∧ itsOk (g.trace.drop k) = itsOk g.trace) (fun k => g.trace.length - k) (0) ?_ ?_ (fun k hx => ?_)
  case' refine_1 =>
   simp
  case' refine_2 =>
   exact Wk.cut (by simp) (by simp [subE, lastK_nil]) (by simp [cutH]) (by simp [lowE, lowN]) (by simp)
  case' refine_3 =>
   skip
   refine SW.rb ?_; refine SW.seqK fun K4 hK4 => ?_; refine SW.cond _ rfl (by simp) ?_ ?_
   case' refine_1 =>
    intro hb3; have hlt : k < g.trace.length := by simp at hb3; omega
    obtain ⟨x, hxk⟩ : ∃ x, g.trace[k]? = some x := ⟨_, List.getElem?_eq_getElem hlt⟩
    have hst := itsOk_step hxk
    have hw := wrapI ((g.trace.length : Int) - 1) (by omega) (by omega)
    have hlk := lastK_step hxk
    refine SW.skip ?_; refine hK4 _ ?_; refine SW.seqK fun K5 hK5 => ?_; refine SW.block ?_; refine SW.rg fun K hK => ?_; simp -implicitDefEqProofs [hxk]
    repeat (refine And.intro (by clear hK; first | omega | (intros; simp_all; done) | (intros; grind)) ?_)
    refine hK _ ?_; clear hK K; refine SW.seqK fun K6 hK6 => ?_; refine SW.rg fun K hK => ?_; simp -implicitDefEqProofs [hxk, hw]; repeat (refine And.intro (by clear hK; first | omega | (intros; simp_all; done) | (intros; grind)) ?_)
    first
      | refine CallQ.fzE (itemOk_i x) (by simp) ?_
      | refine CallK.fzE (itemOk_i x) (by simp) ?_
    simp -implicitDefEqProofs [hxk, hw]; repeat (refine And.intro (by clear hK; first | omega | (intros; simp_all; done) | (intros; grind)) ?_)
    refine hK _ ?_; clear hK K; refine SW.cond _ rfl (by simp) ?_ ?_
    case' refine_1 =>
     intro hb4
     have hbad : itsOk g.trace = false := by
       rw [← hx.2, hst]
       cases h8 : itemOk x with
       | false => rfl
       | true =>
         simp [h8] at hb4; have h7 : ends x = true ∧ ¬ g.trace.length ≤ k + 1 := ⟨by simp [ends]; grind, by omega⟩
         simp [h7.1, h7.2]
     have hr : gorOk p g = false := by simp only [gorOk, gorIn, traceOk, hbad, Bool.and_false, Bool.false_and]
     refine SW.rb ?_; refine SW.ret ?_; simp [Ex.then, Ex.ib]
     first
       | (rw [hr]; done)
       | (rw [hr, traceOk, hits, Bool.true_and]; done)
       | fail
    intro hb4
    have hnx : itsOk (g.trace.drop (k + 1)) = itsOk g.trace := by
      rw [← hx.2, hst]; simp at hb4; have h6 : itemOk x = true := by grind
      have h7 : (!ends x || decide (g.trace.length ≤ k + 1)) = true := by
        simp [ends]; grind
      rw [h6, h7]; rfl
    refine SW.skip ?_; refine hK6 _ ?_; refine SW.eb ?_; refine hK5 _ ?_; refine SW.eb ?_; refine ⟨k + 1, ⟨by omega, hnx⟩, by omega, ?_⟩
    exact Wk.cut (by simp) (by simp [subE, hlk, wrap1 k (by omega)]) (by simp [cutH]) (by simp [lowE, lowN]) (by simp)
   intro hb3; have hk : k = g.trace.length := by simp at hb3; omega
   subst hk; have hits : itsOk g.trace = true := by rw [← hx.2, List.drop_length]; rfl
   have hr : gorOk p g = traceOk g.trace g.state := by simp only [gorOk, gorIn, hh.1, hh.2, hv, Bool.true_and]
   refine SW.exit ?_; simp only [Ex.then, Ex.ib]; try simp only [if_true, if_false, reduceIte]
   refine hK3 _ ?_; refine SW.rb ?_; refine SW.ret ?_; simp [Ex.then, Ex.ib]
   first
     | (rw [hr]; done)
     | (rw [hr, traceOk, hits, Bool.true_and]; done)
     | fail
theorem trace_s (g : Gor) (hg : g.ok) : Fn Tryz.prog 187 [.agg g.fr] (.bool (traceOk g.trace g.state)) := by
  refine Fn.intro Tryz.func187 (by decide) rfl (rs := [.tmp 2]) rfl Tryz.ntmps187 (by simp) ?_; have g1 := hg.1
  have g2 := hg.2
  refine SW.rb ?_; refine SW.seqK fun K1 hK1 => ?_; refine SW.rb ?_; refine SW.block ?_
  refine SW.loop (α := Nat) (fun k => ⟨[(10, .int .i64 k), (9, .int .i64 g.trace.length), (8, .fz (ItemS g.trace)), (1, .ptr 0 0 0)], [some ⟨5, [g.fr]⟩]⟩) (fun k => k ≤ g.trace.length ∧ itsOk (g.trace.drop k) = itsOk g.trace) (fun k => g.trace.length - k) (0) ?_ ?_ (fun k hx => ?_)
  case' refine_1 =>
   simp
  case' refine_2 =>
   exact Wk.cut (by simp) (by simp [subE]) (by simp [cutH]) (by simp [lowE, lowN]) (by simp)
  case' refine_3 =>
   skip
   refine SW.rb ?_; refine SW.seqK fun K2 hK2 => ?_; refine SW.cond _ rfl (by simp) ?_ ?_
   case' refine_1 =>
    intro hb1; have hlt : k < g.trace.length := by simp at hb1; omega
    obtain ⟨x, hxk⟩ : ∃ x, g.trace[k]? = some x := ⟨_, List.getElem?_eq_getElem hlt⟩
    have hst := itsOk_step hxk
    have hw := wrapI ((g.trace.length : Int) - 1) (by omega) (by omega)
    have hlk := lastK_step hxk
    refine SW.skip ?_; refine hK2 _ ?_; refine SW.seqK fun K4 hK4 => ?_; refine SW.block ?_; refine SW.rg fun K hK => ?_; simp -implicitDefEqProofs [hxk]
    repeat (refine And.intro (by clear hK; first | omega | (intros; simp_all; done) | (intros; grind)) ?_)
    refine hK _ ?_; clear hK K; refine SW.rb ?_; refine SW.rg fun K hK => ?_; simp -implicitDefEqProofs [hxk, hw]; repeat (refine And.intro (by clear hK; first | omega | (intros; simp_all; done) | (intros; grind)) ?_)
    first
      | refine CallQ.fzE (itemOk_s x) (by simp) ?_
      | refine CallK.fzE (itemOk_s x) (by simp) ?_
    simp -implicitDefEqProofs [hxk, hw]; repeat (refine And.intro (by clear hK; first | omega | (intros; simp_all; done) | (intros; grind)) ?_)
    refine hK _ ?_; clear hK K; refine SW.cond _ rfl (by simp) ?_ ?_
    case' refine_1 =>
     intro hb3
     have hbad : itsOk g.trace = false := by
       rw [← hx.2, hst]
       cases h8 : itemOk x with
       | false => rfl
       | true =>
         simp [h8] at hb3; have h7 : ends x = true ∧ ¬ g.trace.length ≤ k + 1 := ⟨by simp [ends]; grind, by omega⟩
         simp [h7.1, h7.2]
     have hr : traceOk g.trace g.state = false := by simp only [traceOk, hbad, Bool.false_and]
     refine SW.rb ?_; refine SW.ret ?_; simp [Ex.then, Ex.ib]
     first
       | (rw [hr]; done)
       | (rw [traceOk, hits, hlk, Bool.true_and]; done)
       | (rw [traceOk, hits, hlk]; simp; done)
       | fail
    intro hb3
    have hnx : itsOk (g.trace.drop (k + 1)) = itsOk g.trace := by
      rw [← hx.2, hst]; simp at hb3; have h6 : itemOk x = true := by grind
      have h7 : (!ends x || decide (g.trace.length ≤ k + 1)) = true := by
        simp [ends]; grind
      rw [h6, h7]; rfl
    refine SW.skip ?_; refine hK4 _ ?_; refine SW.eb ?_; refine ⟨k + 1, ⟨by omega, hnx⟩, by omega, ?_⟩; exact Wk.cut (by simp) (by simp [subE, wrap1 k (by omega)]) (by simp [cutH]) (by simp [lowE, lowN]) (by simp)
   intro hb1; have hk : k = g.trace.length := by simp at hb1; omega
   subst hk; have hits : itsOk g.trace = true := by rw [← hx.2, List.drop_length]; rfl
   refine SW.exit ?_; simp only [Ex.then, Ex.ib]; try simp only [if_true, if_false, reduceIte]
   refine hK1 _ ?_; refine SW.rb ?_; refine SW.seqK fun K3 hK3 => ?_; refine SW.rb ?_; refine SW.cond _ rfl (by simp) ?_ ?_
   case' refine_2 =>
    intro hb2
    have hlk : lastK g.trace = 0 := by
      have h0 : g.trace = [] := by simpa using hb2
      rw [h0]; rfl
    refine SW.skip ?_
   rotate_right
   case' _ =>
    intro hb2; have hlp : 0 < g.trace.length := by simpa using hb2
    have hw := wrapI ((g.trace.length : Int) - 1) (by omega) (by omega)
    obtain ⟨y, hsn, hlk⟩ := lastK_last hlp; have hN : ((g.trace.length : Int) - 1).toNat = g.trace.length - 1 := by omega
    have hsnE : ∀ h, g.trace[g.trace.length - 1]'h = y := fun h => (List.getElem?_eq_some_iff.1 hsn).2
    have hp0 : 0 ≤ (g.trace.length : Int) - 1 := by omega
    have hp1 : (g.trace.length : Int) - 1 < g.trace.length := by omega
    refine SW.regionE fun K hK => ?_; simp -implicitDefEqProofs [hw, hN, hsn, hsnE, hp0, hp1]; repeat (refine And.intro (by clear hK; first | omega | (intros; simp_all; done) | (intros; grind)) ?_)
    refine hK _ ?_; clear hK K
   all_goals (
    refine hK3 _ ?_; refine SW.rb ?_; refine SW.ret ?_; simp [Ex.then, Ex.ib]
    first
      | (rw [hr]; done)
      | (rw [traceOk, hits, hlk, Bool.true_and]; done)
      | (rw [traceOk, hits, hlk]; simp; done)
      | fail)
theorem gorIn_s (p : Prog) (g : Gor) (h : p.ok) (hg : g.ok) : Fn Tryz.prog 103 [.agg p.fr, .agg g.fr] (.bool (gorIn p g)) := by
  refine Fn.intro Tryz.func103 (by decide) rfl (rs := [.tmp 4]) rfl Tryz.ntmps103 (by simp) ?_; have h3 := h.2.2.2.1
  have g1 := hg.1
  have g2 := hg.2
  refine SW.rb ?_; refine SW.rg fun K hK => ?_; simp -implicitDefEqProofs; repeat (refine And.intro (by clear hK; first | omega | (intros; simp_all; done) | (intros; grind)) ?_)
  first
    | refine CallQ.fzE (instrs_s p g.proc h) (by simp) ?_
    | refine CallK.fzE (instrs_s p g.proc h) (by simp) ?_
  simp -implicitDefEqProofs; repeat (refine And.intro (by clear hK; first | omega | (intros; simp_all; done) | (intros; grind)) ?_)
  refine hK _ ?_; clear hK K; refine SW.seqK fun K1 hK1 => ?_; refine SW.rb ?_; refine SW.cond _ rfl (by simp) ?_ ?_
  case' refine_1 =>
   intro hb1
   have hh : gorHead p g = false := by
     cases h9 : gorHead p g with
     | false => rfl
     | true =>
       exfalso; simp only [gorHead, Bool.and_eq_true, decide_eq_true_eq] at h9; simp at hb1; grind
   have hr : gorIn p g = false := by simp only [gorIn, hh, Bool.false_and]
   refine SW.rb ?_; refine SW.ret ?_; simp [Ex.then, Ex.ib]
   first
     | (rw [hr]; done)
     | fail
  intro hb1
  have hh : gorHead p g = true := by
    simp at hb1; simp only [gorHead, Bool.and_eq_true, decide_eq_true_eq]; grind
  refine SW.skip ?_; refine hK1 _ ?_; refine SW.seqK fun K2 hK2 => ?_; refine SW.rb ?_; refine SW.block ?_
  refine SW.loop (α := Nat) (fun k => ⟨[(40, .int .i64 k), (39, .int .i64 g.regs.length), (38, .fz (IntS g.regs)), (2, .ptr 0 0 0), (3, .ptr 1 0 0)], [some ⟨4, [p.fr]⟩, some ⟨5, [g.fr]⟩]⟩) (fun k => k ≤ g.regs.length ∧ (g.regs.take k).all valOk = true) (fun k => g.regs.length - k) (0) ?_ ?_ (fun k hx => ?_)
  case' refine_1 =>
   simp
  case' refine_2 =>
   exact Wk.cut (by simp) (by simp [subE]) (by simp [cutH]) (by simp [lowE, lowN]) (by simp)
  case' refine_3 =>
   skip
   refine SW.rb ?_; refine SW.seqK fun K3 hK3 => ?_; refine SW.cond _ rfl (by simp) ?_ ?_
   case' refine_1 =>
    intro hb2; have hlt : k < g.regs.length := by simp at hb2; omega
    obtain ⟨x, hxk⟩ : ∃ x, g.regs[k]? = some x := ⟨_, List.getElem?_eq_getElem hlt⟩
    refine SW.skip ?_; refine hK3 _ ?_; refine SW.seqK fun K4 hK4 => ?_; refine SW.block ?_; refine SW.rg fun K hK => ?_; simp -implicitDefEqProofs [hxk]
    repeat (refine And.intro (by clear hK; first | omega | (intros; simp_all; done) | (intros; grind)) ?_)
    refine hK _ ?_; clear hK K; refine SW.rg fun K hK => ?_; simp -implicitDefEqProofs; repeat (refine And.intro (by clear hK; first | omega | (intros; simp_all; done) | (intros; grind)) ?_)
    refine CallK.fz (val_s _) ?_; simp -implicitDefEqProofs; repeat (refine And.intro (by clear hK; first | omega | (intros; simp_all; done) | (intros; grind)) ?_)
    refine hK _ ?_; clear hK K; refine SW.cond _ rfl (by simp) ?_ ?_
    case' refine_1 =>
     intro hb3; have hf : g.regs.all valOk = false := all_false hxk (by simpa using hb3)
     have hr : gorIn p g = false := by simp only [gorIn, hf, Bool.and_false, Bool.false_and]
     refine SW.rb ?_; refine SW.ret ?_; simp [Ex.then, Ex.ib]
     first
       | (rw [hr]; done)
       | fail
    intro hb3; have hf : valOk x = true := by simpa using hb3
    refine SW.skip ?_; refine hK4 _ ?_; refine SW.eb ?_; refine ⟨k + 1, ⟨by omega, all_next hxk hx.2 hf⟩, by omega, ?_⟩; exact Wk.cut (by simp) (by simp [subE, wrap1 k (by omega)]) (by simp [cutH]) (by simp [lowE, lowN]) (by simp)
   intro hb2; have hk : k = g.regs.length := by simp at hb2; omega
   subst hk; have hal := all_take hx.2
   have hr : gorIn p g = traceOk g.trace g.state := by simp only [gorIn, hh, hal, Bool.true_and]
   refine SW.exit ?_; simp only [Ex.then, Ex.ib]; try simp only [if_true, if_false, reduceIte]
   refine hK2 _ ?_; refine SW.rg fun K hK => ?_; simp -implicitDefEqProofs; repeat (refine And.intro (by clear hK; first | omega | (intros; simp_all; done) | (intros; grind)) ?_)
   first
     | refine CallQ.fzE (trace_s g hg) (by simp) ?_
     | refine CallK.fzE (trace_s g hg) (by simp) ?_
   simp -implicitDefEqProofs; repeat (refine And.intro (by clear hK; first | omega | (intros; simp_all; done) | (intros; grind)) ?_)
   refine hK _ ?_; clear hK K; refine SW.ret ?_; simp [Ex.then, Ex.ib]
   first
     | (rw [hr]; done)
     | fail
theorem gorOk_s (p : Prog) (g : Gor) (h : p.ok) (hg : g.ok) : Fn Tryz.prog 108 [.agg p.fr, .agg g.fr] (.bool (gorOk p g)) := by
  refine Fn.intro Tryz.func108 (by decide) rfl (rs := [.tmp 4]) rfl Tryz.ntmps108 (by simp) ?_; refine SW.rb ?_; refine SW.rg fun K hK => ?_; simp -implicitDefEqProofs
  repeat (refine And.intro (by clear hK; first | omega | (intros; simp_all; done) | (intros; grind)) ?_)
  first
    | refine CallQ.fzE (progOk_s p h) (by simp) ?_
    | refine CallK.fzE (progOk_s p h) (by simp) ?_
  simp -implicitDefEqProofs; repeat (refine And.intro (by clear hK; first | omega | (intros; simp_all; done) | (intros; grind)) ?_)
  first
    | refine CallQG.fzE (by simp) (fun _ => gorIn_s p g h hg) (by simp) ?_
    | refine CallG.fzE (by simp) (fun _ => gorIn_s p g h hg) (by simp) ?_
    | refine CallQ.fzE (gorIn_s p g h hg) (by simp) ?_
    | refine CallK.fzE (gorIn_s p g h hg) (by simp) ?_
  simp -implicitDefEqProofs; repeat (refine And.intro (by clear hK; first | omega | (intros; simp_all; done) | (intros; grind)) ?_)
  refine hK _ ?_; clear hK K; refine SW.ret ?_; simp [Ex.then, Ex.ib]
  all_goals simp [gorOk]
end HT
namespace HT
open Go Go.Proofs HK
def isLoc (p : Prog) (g : Gor) : Bool := (g.state == 1) && !isShared (atI p g).op
end HT
