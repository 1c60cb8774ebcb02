import Derived.Test.YtokcpmbgipblpaaGreatBHXY8
/-
  My own texts (road H): HXY9.
-/
set_option linter.unusedSimpArgs false
set_option linter.unusedVariables false
namespace HT
open Go Go.Proofs HK
theorem asked_sel {p : Prog} {e : Eng} {k : Nat} {g : Gor} (h : p.ok) (hk : gorOk p g = true) (ho : (atI p g).op = 11) : ∃ (m : Nat) (s : Select), (atI p g).a = m ∧ p.sels[m]? = some s ∧ s.cases.length ≤ 1048576 := by
  have hp : progOk p = true := by simp only [gorOk, Bool.and_eq_true] at hk; exact hk.1
  obtain ⟨x0, i, _, _, hat, _, h11⟩ := at_facts hp (gor_at hk); rw [hat] at ho ⊢; obtain ⟨hA, hB, s, hs, _⟩ := h11 ho; exact ⟨i.a.toNat, s, by omega, hs, h.2.2.1 s (List.mem_of_getElem? hs)⟩
set_option maxHeartbeats 1000000 in
theorem ready11_s (p : Prog) (e : Eng) (m : Nat) (s : Select) (he : e.ok) (hs : p.sels[m]? = some s) (hl : s.cases.length ≤ 1048576) : Fn Tryz.prog 67 [.agg p.fr, .agg e.fr, .int .i64 m] (.own 1 (IntS (rdy e 0 s.cases))) := by
  refine Fn.intro Tryz.func67 (by decide) rfl (rs := [.tmp 6]) rfl Tryz.ntmps67 (by simp) ?_; have hlt := (List.getElem?_eq_some_iff.1 hs).1
  have hsE : ∀ q, p.sels[m]'q = s := fun q => (List.getElem?_eq_some_iff.1 hs).2
  refine SW.rg fun K hK => ?_; simp -implicitDefEqProofs; repeat (refine And.intro (by clear hK; first | omega | (intros; simp_all; done) | (intros; grind)) ?_)
  refine hK _ ?_; clear hK K; refine SW.rg fun K hK => ?_; simp -implicitDefEqProofs; repeat (refine And.intro (by clear hK; first | omega | (intros; simp_all; done) | (intros; grind)) ?_)
  refine hK _ ?_; clear hK K; refine SW.seqK fun K1 hK1 => ?_; refine SW.rg fun K hK => ?_; simp -implicitDefEqProofs [hs, hsE, hlt]; repeat (refine And.intro (by clear hK; first | omega | (intros; simp_all; done) | (intros; grind)) ?_)
  refine hK _ ?_; clear hK K; refine SW.block ?_
  refine SW.loop (α := Nat) (fun k => ⟨[(18, .int .i64 k), (17, .int .i64 s.cases.length), (16, .fz (CaseS s.cases)), (7, .sl 2 0 (rdy e 0 (List.take k s.cases)).length), (4, .ptr 1 0 0)], [some ⟨4, [p.fr]⟩, some ⟨3, [e.fr]⟩, some ⟨1, IntS (rdy e 0 (List.take k s.cases))⟩]⟩) (fun k => k ≤ s.cases.length) (fun k => s.cases.length - k) (0) ?_ ?_ (fun k hx => ?_)
  case' refine_1 =>
   simp
  case' refine_2 =>
   exact Wk.cut (by simp) (by simp [subE, rdy]) (by simp [cutH, rdy]) (by simp [lowE, lowN]) (by simp)
  case' refine_3 =>
   skip
   refine SW.rg fun K hK => ?_; simp -implicitDefEqProofs; repeat (refine And.intro (by clear hK; first | omega | (intros; simp_all; done) | (intros; grind)) ?_)
   refine hK _ ?_; clear hK K; refine SW.seqK fun K2 hK2 => ?_; refine SW.cond _ rfl (by simp) ?_ ?_
   case' refine_2 =>
    intro hb1
    first
    | (exfalso; simp at hb1; done)
    | (exfalso; simp at hb1; omega)
    | (
     have hk1 : k = s.cases.length := by simp at hb1; omega
     subst hk1; refine SW.exit ?_; simp only [Ex.then, Ex.ib]; try simp only [if_true, if_false, reduceIte]
     refine hK1 _ ?_; refine SW.rg fun K hK => ?_; simp -implicitDefEqProofs; repeat (refine And.intro (by clear hK; first | omega | (intros; simp_all; done) | (intros; grind)) ?_)
     refine hK _ ?_; clear hK K; refine SW.ret ?_; simp [Ex.then, Ex.ib, -strN]
     all_goals first
       | (simp; done)
       | (exact ⟨by simpa using IntS_strN2 _, by simp⟩)
       | fail)
   rotate_right
   case' _ =>
    intro hb1
    first
    | (exfalso; simp at hb1; done)
    | (exfalso; simp at hb1; omega)
    | (
     have hltc : k < s.cases.length := by first | omega | (simp at hb1; omega)
     obtain ⟨c, hck⟩ : ∃ q, s.cases[k]? = some q := ⟨_, List.getElem?_eq_getElem hltc⟩
     have hst := rdy_step (e := e) hck
     have hfl := rdy_len e (s.cases.take k) 0
     rw [List.length_take] at hfl; refine SW.skip ?_; refine hK2 _ ?_; refine SW.seqK fun K3 hK3 => ?_; refine SW.block ?_; refine SW.rg fun K hK => ?_; simp -implicitDefEqProofs [hck]
     repeat (refine And.intro (by clear hK; first | omega | (intros; simp_all; done) | (intros; grind)) ?_)
     refine hK _ ?_; clear hK K; refine SW.rg fun K hK => ?_; simp -implicitDefEqProofs; repeat (refine And.intro (by clear hK; first | omega | (intros; simp_all; done) | (intros; grind)) ?_)
     first
       | refine CallQ.fzE (caseReady_s e c he) (by simp) ?_
       | refine CallK.fzE (caseReady_s e c he) (by simp) ?_
     simp -implicitDefEqProofs; repeat (refine And.intro (by clear hK; first | omega | (intros; simp_all; done) | (intros; grind)) ?_)
     refine hK _ ?_; clear hK K; refine SW.cond _ rfl (by simp) ?_ ?_
     case' refine_2 =>
      intro hb2
      first
      | (exfalso; simp at hb2; done)
      | (exfalso; simp at hb2; omega)
      | (
       have hh : caseR e c = false := by simpa using hb2
       rw [if_neg (by rw [hh]; simp), List.append_nil] at hst
       refine SW.skip ?_)
     rotate_right
     case' _ =>
      intro hb2
      first
      | (exfalso; simp at hb2; done)
      | (exfalso; simp at hb2; omega)
      | (
       have hh : caseR e c = true := by simpa using hb2
       rw [if_pos hh] at hst; refine SW.regionE fun K hK => ?_; simp -implicitDefEqProofs; repeat (refine And.intro (by clear hK; first | omega | (intros; simp_all; done) | (intros; grind)) ?_)
       refine hK _ ?_
       clear hK K)
     all_goals (
      refine hK3 _ ?_; refine SW.regionE fun K hK => ?_; simp -implicitDefEqProofs; repeat (refine And.intro (by clear hK; first | omega | (intros; simp_all; done) | (intros; grind)) ?_)
      refine hK _ ?_; clear hK K; refine ⟨k + 1, by omega, by omega, ?_⟩
      first
        | (have q : caseR e c = true := hh; exact Wk.ren [0, 1, 5] (by simp) (by simp) (by simp) (by simp) (by simp [renE, renN, wrap1 k (by omega), hst]) (by simp [renH, hst, IntS_snoc1]) (by simp [lowE, lowN]) (by simp))
        | exact Wk.cut (by simp) (by simp [subE, wrap1 k (by omega), hst]) (by simp [cutH, hst]) (by simp [lowE, lowN]) (by simp)
        | fail))
set_option maxHeartbeats 1000000 in
theorem ready11_i (e : Eng) (s : Select) (he : e.ok) (hl : s.cases.length ≤ 1048576) : Fn Tryz.prog 70 [.agg e.fr, .agg s.fr] (.own 1 (IntS (rdy e 0 s.cases))) := by
  refine Fn.intro Tryz.func70 (by decide) rfl (rs := [.tmp 4]) rfl Tryz.ntmps70 (by simp) ?_; refine SW.rg fun K hK => ?_; simp -implicitDefEqProofs
  repeat (refine And.intro (by clear hK; first | omega | (intros; simp_all; done) | (intros; grind)) ?_)
  refine hK _ ?_; clear hK K; refine SW.rg fun K hK => ?_; simp -implicitDefEqProofs; repeat (refine And.intro (by clear hK; first | omega | (intros; simp_all; done) | (intros; grind)) ?_)
  refine hK _ ?_; clear hK K; refine SW.seqK fun K1 hK1 => ?_; refine SW.rg fun K hK => ?_; simp -implicitDefEqProofs; repeat (refine And.intro (by clear hK; first | omega | (intros; simp_all; done) | (intros; grind)) ?_)
  refine hK _ ?_; clear hK K; refine SW.block ?_
  refine SW.loop (α := Nat) (fun k => ⟨[(12, .int .i64 k), (11, .int .i64 s.cases.length), (10, .fz (CaseS s.cases)), (5, .sl 2 0 (rdy e 0 (List.take k s.cases)).length), (2, .ptr 0 0 0)], [some ⟨3, [e.fr]⟩, some ⟨2, [s.fr]⟩, some ⟨1, IntS (rdy e 0 (List.take k s.cases))⟩]⟩) (fun k => k ≤ s.cases.length) (fun k => s.cases.length - k) (0) ?_ ?_ (fun k hx => ?_)
  case' refine_1 =>
   simp
  case' refine_2 =>
   exact Wk.cut (by simp) (by simp [subE, rdy]) (by simp [cutH, rdy]) (by simp [lowE, lowN]) (by simp)
  case' refine_3 =>
   skip
   refine SW.rg fun K hK => ?_; simp -implicitDefEqProofs; repeat (refine And.intro (by clear hK; first | omega | (intros; simp_all; done) | (intros; grind)) ?_)
   refine hK _ ?_; clear hK K; refine SW.seqK fun K2 hK2 => ?_; refine SW.cond _ rfl (by simp) ?_ ?_
   case' refine_2 =>
    intro hb1
    first
    | (exfalso; simp at hb1; done)
    | (exfalso; simp at hb1; omega)
    | (
     have hk1 : k = s.cases.length := by simp at hb1; omega
     subst hk1; refine SW.exit ?_; simp only [Ex.then, Ex.ib]; try simp only [if_true, if_false, reduceIte]
     refine hK1 _ ?_; refine SW.rg fun K hK => ?_; simp -implicitDefEqProofs; repeat (refine And.intro (by clear hK; first | omega | (intros; simp_all; done) | (intros; grind)) ?_)
     refine hK _ ?_; clear hK K; refine SW.ret ?_; simp [Ex.then, Ex.ib, -strN]
     all_goals first
       | (simp; done)
       | (exact ⟨by simpa using IntS_strN2 _, by simp⟩)
       | fail)
   rotate_right
   case' _ =>
    intro hb1
    first
    | (exfalso; simp at hb1; done)
    | (exfalso; simp at hb1; omega)
    | (
     have hltc : k < s.cases.length := by first | omega | (simp at hb1; omega)
     obtain ⟨c, hck⟩ : ∃ q, s.cases[k]? = some q := ⟨_, List.getElem?_eq_getElem hltc⟩
     have hst := rdy_step (e := e) hck
     have hfl := rdy_len e (s.cases.take k) 0
     rw [List.length_take] at hfl; refine SW.skip ?_; refine hK2 _ ?_; refine SW.seqK fun K3 hK3 => ?_; refine SW.block ?_; refine SW.rg fun K hK => ?_; simp -implicitDefEqProofs [hck]
     repeat (refine And.intro (by clear hK; first | omega | (intros; simp_all; done) | (intros; grind)) ?_)
     refine hK _ ?_; clear hK K; refine SW.rg fun K hK => ?_; simp -implicitDefEqProofs; repeat (refine And.intro (by clear hK; first | omega | (intros; simp_all; done) | (intros; grind)) ?_)
     first
       | refine CallQ.fzE (caseReady_i e c he) (by simp) ?_
       | refine CallK.fzE (caseReady_i e c he) (by simp) ?_
     simp -implicitDefEqProofs; repeat (refine And.intro (by clear hK; first | omega | (intros; simp_all; done) | (intros; grind)) ?_)
     refine hK _ ?_; clear hK K; refine SW.cond _ rfl (by simp) ?_ ?_
     case' refine_2 =>
      intro hb2
      first
      | (exfalso; simp at hb2; done)
      | (exfalso; simp at hb2; omega)
      | (
       have hh : caseR e c = false := by simpa using hb2
       rw [if_neg (by rw [hh]; simp), List.append_nil] at hst
       refine SW.skip ?_)
     rotate_right
     case' _ =>
      intro hb2
      first
      | (exfalso; simp at hb2; done)
      | (exfalso; simp at hb2; omega)
      | (
       have hh : caseR e c = true := by simpa using hb2
       rw [if_pos hh] at hst; refine SW.regionE fun K hK => ?_; simp -implicitDefEqProofs; repeat (refine And.intro (by clear hK; first | omega | (intros; simp_all; done) | (intros; grind)) ?_)
       refine hK _ ?_
       clear hK K)
     all_goals (
      refine hK3 _ ?_; refine SW.regionE fun K hK => ?_; simp -implicitDefEqProofs; repeat (refine And.intro (by clear hK; first | omega | (intros; simp_all; done) | (intros; grind)) ?_)
      refine hK _ ?_; clear hK K; refine ⟨k + 1, by omega, by omega, ?_⟩
      first
        | (have q : caseR e c = true := hh; exact Wk.ren [0, 1, 5] (by simp) (by simp) (by simp) (by simp) (by simp [renE, renN, wrap1 k (by omega), hst]) (by simp [renH, hst, IntS_snoc1]) (by simp [lowE, lowN]) (by simp))
        | exact Wk.cut (by simp) (by simp [subE, wrap1 k (by omega), hst]) (by simp [cutH, hst]) (by simp [lowE, lowN]) (by simp)
        | fail))
set_option maxHeartbeats 1000000 in
theorem rcY_s (p : Prog) (e : Eng) (h : p.ok) (he : e.ok) (k : Nat) (g : Gor) (hg : e.gs[k]? = some g) (hA : asked p e k = true) (hk : gorOk p g = true) (ho : (atI p g).op = 11) (m : Nat) (s : Select) (hm : (atI p g).a = m) (hs : p.sels[m]? = some s) (hl : s.cases.length ≤ 1048576) : Fn Tryz.prog 22 [.agg p.fr, .agg e.fr, .int .i64 k] (.own 1 (IntS (rdy e 0 s.cases))) := by
  refine Fn.intro Tryz.func22 (by decide) rfl (rs := [.tmp 6]) rfl Tryz.ntmps22 (by simp) ?_; have hlt := (List.getElem?_eq_some_iff.1 hg).1
  have hgE : ∀ q, e.gs[k]'q = g := fun q => (List.getElem?_eq_some_iff.1 hg).2
  have hat := gor_at hk
  have hI := instr_s p g hat
  generalize hi : atI p g = i at hI ho hm
  obtain ⟨op, a, b, c⟩ := i; simp only [] at ho hm; subst ho; subst hm; have hslt := (List.getElem?_eq_some_iff.1 hs).1
  have hsE : ∀ q, p.sels[m]'q = s := fun q => (List.getElem?_eq_some_iff.1 hs).2
  refine SW.rg fun K hK => ?_; simp -implicitDefEqProofs; repeat (refine And.intro (by clear hK; first | omega | (intros; simp_all; done) | (intros; grind)) ?_)
  refine hK _ ?_; clear hK K; refine SW.seqK fun K1 hK1 => ?_; refine SW.rg fun K hK => ?_; simp -implicitDefEqProofs [hg, hgE, hlt, hA, hs, hsE, hslt]
  repeat (refine And.intro (by clear hK; first | omega | (intros; simp_all; done) | (intros; grind)) ?_)
  first
    | refine CallQ.fzE (asked_s p e k h he) (by simp) ?_
    | refine CallK.fzE (asked_s p e k h he) (by simp) ?_
  simp -implicitDefEqProofs [hg, hgE, hlt, hA, hs, hsE, hslt]; repeat (refine And.intro (by clear hK; first | omega | (intros; simp_all; done) | (intros; grind)) ?_)
  refine hK _ ?_; clear hK K; refine SW.cond _ rfl (by simp) ?_ ?_
  case' refine_2 =>
   intro hb1
   first
   | (exfalso; simp at hb1; done)
   | (exfalso; simp at hb1; omega)
   | (
    refine SW.skip ?_; refine hK1 _ ?_; refine SW.drawK mixed [.q [(0, false), (1, false), (2, false), (3, false), (4, false), (5, false), (6, false), (7, true)], .b 8] (by kernel_rfl) rfl fun K hK => ?_
    simp -implicitDefEqProofs [hg, hgE, hlt, hA, hs, hsE, hslt]; repeat (refine And.intro (by clear hK; first | omega | (intros; simp_all; done) | (intros; grind)) ?_)
    first
      | refine CallQ.fzE hI (by simp [hgE]) ?_
      | refine CallQG.fzE (by simp) (fun _ => hI) (by simp [hgE]) ?_
      | refine CallK.fzE hI (by simp [hgE]) ?_
    simp -implicitDefEqProofs [hg, hgE, hlt, hA, hs, hsE, hslt]; repeat (refine And.intro (by clear hK; first | omega | (intros; simp_all; done) | (intros; grind)) ?_)
    refine hK _ ?_; clear hK K; refine SW.seqK fun K2 hK2 => ?_; refine SW.rg fun K hK => ?_; simp -implicitDefEqProofs; repeat (refine And.intro (by clear hK; first | omega | (intros; simp_all; done) | (intros; grind)) ?_)
    refine hK _ ?_; clear hK K; refine SW.cond _ rfl (by simp) ?_ ?_
    case' refine_2 =>
     intro hb2
     first
     | (exfalso; simp at hb2; done)
     | (exfalso; simp at hb2; omega)
     | (
      refine SW.skip ?_; refine hK2 _ ?_; refine SW.rg fun K hK => ?_; simp -implicitDefEqProofs [hg, hgE, hlt, hA, hs, hsE, hslt]; repeat (refine And.intro (by clear hK; first | omega | (intros; simp_all; done) | (intros; grind)) ?_)
      first
        | refine imQ (ready11_s p e m s he hs hl) (by simp [hsE]) (by simp [okI]) ?_
        | refine CallK.imE (ready11_s p e m s he hs hl) (by simp [hsE]) (by simp [okI]) ?_
      simp -implicitDefEqProofs [hg, hgE, hlt, hA, hs, hsE, hslt]; repeat (refine And.intro (by clear hK; first | omega | (intros; simp_all; done) | (intros; grind)) ?_)
      refine hK _ ?_; clear hK K; refine SW.ret ?_; simp [Ex.then, Ex.ib, -strN]
      all_goals first
        | (simp; done)
        | (exact ⟨by simpa using IntS_strN2 _, by simp⟩)
        | fail)
    rotate_right
    case' _ =>
     intro hb2
     first
     | (exfalso; simp at hb2; done)
     | (exfalso; simp at hb2; omega)
     | (
      refine SW.rg fun K hK => ?_; simp -implicitDefEqProofs; repeat (refine And.intro (by clear hK; first | omega | (intros; simp_all; done) | (intros; grind)) ?_)
      refine hK _ ?_; clear hK K; refine SW.ret ?_; simp [Ex.then, Ex.ib, -strN]
      all_goals first
        | (simp; done)
        | (exact ⟨by simpa using IntS_strN2 _, by simp⟩)
        | fail))
  rotate_right
  case' _ =>
   intro hb1
   first
   | (exfalso; simp at hb1; done)
   | (exfalso; simp at hb1; omega)
   | (
    refine SW.rg fun K hK => ?_; simp -implicitDefEqProofs; repeat (refine And.intro (by clear hK; first | omega | (intros; simp_all; done) | (intros; grind)) ?_)
    refine hK _ ?_; clear hK K; refine SW.ret ?_; simp [Ex.then, Ex.ib, -strN]
    all_goals first
      | (simp; done)
      | (exact ⟨by simpa using IntS_strN2 _, by simp⟩)
      | fail)
set_option maxHeartbeats 1000000 in
theorem rcM_s (p : Prog) (e : Eng) (h : p.ok) (he : e.ok) (k : Nat) (g : Gor) (hg : e.gs[k]? = some g) (hA : asked p e k = true) (hk : gorOk p g = true) (ho : ¬ (atI p g).op = 11) : Fn Tryz.prog 22 [.agg p.fr, .agg e.fr, .int .i64 k] (.nil) := by
  refine Fn.intro Tryz.func22 (by decide) rfl (rs := [.tmp 6]) rfl Tryz.ntmps22 (by simp) ?_; have hlt := (List.getElem?_eq_some_iff.1 hg).1
  have hgE : ∀ q, e.gs[k]'q = g := fun q => (List.getElem?_eq_some_iff.1 hg).2
  have hat := gor_at hk
  have hI := instr_s p g hat
  generalize hi : atI p g = i at hI ho
  obtain ⟨op, a, b, c⟩ := i; simp only [] at ho; have ho2 : (op == 11) = false := by simpa using ho
  refine SW.rg fun K hK => ?_; simp -implicitDefEqProofs; repeat (refine And.intro (by clear hK; first | omega | (intros; simp_all; done) | (intros; grind)) ?_)
  refine hK _ ?_; clear hK K; refine SW.seqK fun K1 hK1 => ?_; refine SW.rg fun K hK => ?_; simp -implicitDefEqProofs [hg, hgE, hlt, hA, ho, ho2]
  repeat (refine And.intro (by clear hK; first | omega | (intros; simp_all; done) | (intros; grind)) ?_)
  first
    | refine CallQ.fzE (asked_s p e k h he) (by simp) ?_
    | refine CallK.fzE (asked_s p e k h he) (by simp) ?_
  simp -implicitDefEqProofs [hg, hgE, hlt, hA, ho, ho2]; repeat (refine And.intro (by clear hK; first | omega | (intros; simp_all; done) | (intros; grind)) ?_)
  refine hK _ ?_; clear hK K; refine SW.cond _ rfl (by simp) ?_ ?_
  case' refine_2 =>
   intro hb1
   first
   | (exfalso; simp at hb1; done)
   | (exfalso; simp at hb1; omega)
   | (
    refine SW.skip ?_; refine hK1 _ ?_; refine SW.drawK mixed [.q [(0, false), (1, false), (2, false), (3, false), (4, false), (5, false), (6, false), (7, true)], .b 8] (by kernel_rfl) rfl fun K hK => ?_
    simp -implicitDefEqProofs [hg, hgE, hlt, hA, ho, ho2]; repeat (refine And.intro (by clear hK; first | omega | (intros; simp_all; done) | (intros; grind)) ?_)
    first
      | refine CallQ.fzE hI (by simp [hgE]) ?_
      | refine CallQG.fzE (by simp) (fun _ => hI) (by simp [hgE]) ?_
      | refine CallK.fzE hI (by simp [hgE]) ?_
    simp -implicitDefEqProofs [hg, hgE, hlt, hA, ho, ho2]; repeat (refine And.intro (by clear hK; first | omega | (intros; simp_all; done) | (intros; grind)) ?_)
    refine hK _ ?_; clear hK K; refine SW.seqK fun K2 hK2 => ?_; refine SW.rg fun K hK => ?_; simp -implicitDefEqProofs; repeat (refine And.intro (by clear hK; first | omega | (intros; simp_all; done) | (intros; grind)) ?_)
    refine hK _ ?_; clear hK K; refine SW.cond _ rfl (by simp) ?_ ?_
    case' refine_2 =>
     intro hb2
     first
     | (exfalso; simp at hb2; done)
     | (exfalso; simp at hb2; omega)
     | (
      refine SW.skip ?_; refine hK2 _ ?_; refine SW.rg fun K hK => ?_; simp -implicitDefEqProofs [hg, hgE, hlt, hA, ho, ho2]; repeat (refine And.intro (by clear hK; first | omega | (intros; simp_all; done) | (intros; grind)) ?_)
      fail
      simp -implicitDefEqProofs [hg, hgE, hlt, hA, ho, ho2]; repeat (refine And.intro (by clear hK; first | omega | (intros; simp_all; done) | (intros; grind)) ?_)
      refine hK _ ?_; clear hK K; refine SW.ret ?_; simp [Ex.then, Ex.ib, -strN]
      all_goals first
        | (simp; done)
        | (exact ⟨by simpa using IntS_strN2 _, by simp⟩)
        | fail)
    rotate_right
    case' _ =>
     intro hb2
     first
     | (exfalso; simp at hb2; done)
     | (exfalso; simp at hb2; omega)
     | (
      refine SW.rg fun K hK => ?_; simp -implicitDefEqProofs; repeat (refine And.intro (by clear hK; first | omega | (intros; simp_all; done) | (intros; grind)) ?_)
      refine hK _ ?_; clear hK K; refine SW.ret ?_; simp [Ex.then, Ex.ib, -strN]
      all_goals first
        | (simp; done)
        | (exact ⟨by simpa using IntS_strN2 _, by simp⟩)
        | fail))
  rotate_right
  case' _ =>
   intro hb1
   first
   | (exfalso; simp at hb1; done)
   | (exfalso; simp at hb1; omega)
   | (
    refine SW.rg fun K hK => ?_; simp -implicitDefEqProofs; repeat (refine And.intro (by clear hK; first | omega | (intros; simp_all; done) | (intros; grind)) ?_)
    refine hK _ ?_; clear hK K; refine SW.ret ?_; simp [Ex.then, Ex.ib, -strN]
    all_goals first
      | (simp; done)
      | (exact ⟨by simpa using IntS_strN2 _, by simp⟩)
      | fail)
set_option maxHeartbeats 1000000 in
theorem rcN_s (p : Prog) (e : Eng) (h : p.ok) (he : e.ok) (n : Int) (hA : asked p e n = false) : Fn Tryz.prog 22 [.agg p.fr, .agg e.fr, .int .i64 n] (.nil) := by
  refine Fn.intro Tryz.func22 (by decide) rfl (rs := [.tmp 6]) rfl Tryz.ntmps22 (by simp) ?_; refine SW.rg fun K hK => ?_; simp -implicitDefEqProofs
  repeat (refine And.intro (by clear hK; first | omega | (intros; simp_all; done) | (intros; grind)) ?_)
  refine hK _ ?_; clear hK K; refine SW.seqK fun K1 hK1 => ?_; refine SW.rg fun K hK => ?_; simp -implicitDefEqProofs [hA]; repeat (refine And.intro (by clear hK; first | omega | (intros; simp_all; done) | (intros; grind)) ?_)
  first
    | refine CallQ.fzE (asked_s p e n h he) (by simp) ?_
    | refine CallK.fzE (asked_s p e n h he) (by simp) ?_
  simp -implicitDefEqProofs [hA]; repeat (refine And.intro (by clear hK; first | omega | (intros; simp_all; done) | (intros; grind)) ?_)
  refine hK _ ?_; clear hK K; refine SW.cond _ rfl (by simp) ?_ ?_
  case' refine_2 =>
   intro hb1
   first
   | (exfalso; simp at hb1; done)
   | (exfalso; simp at hb1; omega)
   | (
    refine SW.skip ?_; refine hK1 _ ?_; refine SW.drawK mixed [.q [(0, false), (1, false), (2, false), (3, false), (4, false), (5, false), (6, false), (7, true)], .b 8] (by kernel_rfl) rfl fun K hK => ?_; simp -implicitDefEqProofs
    repeat (refine And.intro (by clear hK; first | omega | (intros; simp_all; done) | (intros; grind)) ?_)
    first
      | refine ⟨.undef, (fun hgg => by cases hgg), ?_⟩
      | fail
    simp -implicitDefEqProofs; repeat (refine And.intro (by clear hK; first | omega | (intros; simp_all; done) | (intros; grind)) ?_)
    refine hK _ ?_; clear hK K; refine SW.seqK fun K2 hK2 => ?_; refine SW.rg fun K hK => ?_; simp -implicitDefEqProofs; repeat (refine And.intro (by clear hK; first | omega | (intros; simp_all; done) | (intros; grind)) ?_)
    refine hK _ ?_; clear hK K; refine SW.cond _ rfl (by simp) ?_ ?_
    case' refine_2 =>
     intro hb2
     first
     | (exfalso; simp at hb2; done)
     | (exfalso; simp at hb2; omega)
     | (
      refine SW.skip ?_; refine hK2 _ ?_; refine SW.rg fun K hK => ?_; simp -implicitDefEqProofs; repeat (refine And.intro (by clear hK; first | omega | (intros; simp_all; done) | (intros; grind)) ?_)
      fail
      simp -implicitDefEqProofs; repeat (refine And.intro (by clear hK; first | omega | (intros; simp_all; done) | (intros; grind)) ?_)
      refine hK _ ?_; clear hK K; refine SW.ret ?_; simp [Ex.then, Ex.ib]
      all_goals first
        | (simp; done)
        | fail)
    rotate_right
    case' _ =>
     intro hb2
     first
     | (exfalso; simp at hb2; done)
     | (exfalso; simp at hb2; omega)
     | (
      refine SW.rg fun K hK => ?_; simp -implicitDefEqProofs; repeat (refine And.intro (by clear hK; first | omega | (intros; simp_all; done) | (intros; grind)) ?_)
      refine hK _ ?_; clear hK K; refine SW.ret ?_; simp [Ex.then, Ex.ib]
      all_goals first
        | (simp; done)
        | fail))
  rotate_right
  case' _ =>
   intro hb1
   first
   | (exfalso; simp at hb1; done)
   | (exfalso; simp at hb1; omega)
   | (
    refine SW.rg fun K hK => ?_; simp -implicitDefEqProofs; repeat (refine And.intro (by clear hK; first | omega | (intros; simp_all; done) | (intros; grind)) ?_)
    refine hK _ ?_; clear hK K; refine SW.ret ?_; simp [Ex.then, Ex.ib]
    all_goals first
      | (simp; done)
      | fail)
set_option maxHeartbeats 1000000 in
theorem rcY_i (p : Prog) (e : Eng) (h : p.ok) (he : e.ok) (k : Nat) (g : Gor) (hg : e.gs[k]? = some g) (hA : asked p e k = true) (hk : gorOk p g = true) (ho : (atI p g).op = 11) (m : Nat) (s : Select) (hm : (atI p g).a = m) (hs : p.sels[m]? = some s) (hl : s.cases.length ≤ 1048576) : Fn Tryz.prog 23 [.agg p.fr, .agg e.fr, .int .i64 k] (.own 1 (IntS (rdy e 0 s.cases))) := by
  refine Fn.intro Tryz.func23 (by decide) rfl (rs := [.tmp 6]) rfl Tryz.ntmps23 (by simp) ?_; have hlt := (List.getElem?_eq_some_iff.1 hg).1
  have hgE : ∀ q, e.gs[k]'q = g := fun q => (List.getElem?_eq_some_iff.1 hg).2
  have hat := gor_at hk
  have hI := instr_i p g hat
  generalize hi : atI p g = i at hI ho hm
  obtain ⟨op, a, b, c⟩ := i; simp only [] at ho hm; subst ho; subst hm; have hslt := (List.getElem?_eq_some_iff.1 hs).1
  have hsE : ∀ q, p.sels[m]'q = s := fun q => (List.getElem?_eq_some_iff.1 hs).2
  refine SW.rg fun K hK => ?_; simp -implicitDefEqProofs; repeat (refine And.intro (by clear hK; first | omega | (intros; simp_all; done) | (intros; grind)) ?_)
  refine hK _ ?_; clear hK K; refine SW.seqK fun K1 hK1 => ?_
  refine SW.drawK mixed [.q [(0, false), (1, false), (2, false), (3, false), (4, false), (5, false), (6, false), (7, false), (8, false), (9, false), (10, false), (11, false), (12, false), (13, false), (14, false), (15, false)]] (by kernel_rfl) rfl fun K hK => ?_
  simp -implicitDefEqProofs [hg, hgE, hlt, hA, hs, hsE, hslt]; repeat (refine And.intro (by clear hK; first | omega | (intros; simp_all; done) | (intros; grind)) ?_)
  first
    | refine CallQ.fzE (asked_i p e k h he) (by simp) ?_
    | refine CallK.fzE (asked_i p e k h he) (by simp) ?_
  simp -implicitDefEqProofs [hg, hgE, hlt, hA, hs, hsE, hslt]; repeat (refine And.intro (by clear hK; first | omega | (intros; simp_all; done) | (intros; grind)) ?_)
  first
    | refine CallQ.fzE hI (by simp [hgE]) ?_
    | refine CallQG.fzE (by simp) (fun _ => hI) (by simp [hgE]) ?_
    | refine CallK.fzE hI (by simp [hgE]) ?_
  simp -implicitDefEqProofs [hg, hgE, hlt, hA, hs, hsE, hslt]; repeat (refine And.intro (by clear hK; first | omega | (intros; simp_all; done) | (intros; grind)) ?_)
  refine hK _ ?_; clear hK K; refine SW.cond _ rfl (by simp) ?_ ?_
  case' refine_2 =>
   intro hb1
   first
   | (exfalso; simp at hb1; done)
   | (exfalso; simp at hb1; omega)
   | (
    refine SW.skip ?_; refine hK1 _ ?_
    refine SW.drawK mixed [.q [(0, false), (1, false), (2, false), (3, false), (4, false), (5, false), (6, false), (7, false), (8, false), (9, false), (10, false), (11, false), (12, false), (13, true), (14, false)]] (by kernel_rfl) rfl fun K hK => ?_
    simp -implicitDefEqProofs [hg, hgE, hlt, hA, hs, hsE, hslt]; repeat (refine And.intro (by clear hK; first | omega | (intros; simp_all; done) | (intros; grind)) ?_)
    first
      | refine CallQ.fzE hI (by simp [hgE]) ?_
      | refine CallQG.fzE (by simp) (fun _ => hI) (by simp [hgE]) ?_
      | refine CallK.fzE hI (by simp [hgE]) ?_
    simp -implicitDefEqProofs [hg, hgE, hlt, hA, hs, hsE, hslt]; repeat (refine And.intro (by clear hK; first | omega | (intros; simp_all; done) | (intros; grind)) ?_)
    first
      | refine imQ (ready11_i e s he hl) (by simp [hsE]) (by simp [okI]) ?_
      | refine CallK.imE (ready11_i e s he hl) (by simp [hsE]) (by simp [okI]) ?_
    simp -implicitDefEqProofs [hg, hgE, hlt, hA, hs, hsE, hslt]; repeat (refine And.intro (by clear hK; first | omega | (intros; simp_all; done) | (intros; grind)) ?_)
    refine hK _ ?_; clear hK K; refine SW.ret ?_; simp [Ex.then, Ex.ib, -strN]
    all_goals first
      | (simp; done)
      | (exact ⟨by simpa using IntS_strN2 _, by simp⟩)
      | fail)
  rotate_right
  case' _ =>
   intro hb1
   first
   | (exfalso; simp at hb1; done)
   | (exfalso; simp at hb1; omega)
   | (
    refine SW.rg fun K hK => ?_; simp -implicitDefEqProofs; repeat (refine And.intro (by clear hK; first | omega | (intros; simp_all; done) | (intros; grind)) ?_)
    refine hK _ ?_; clear hK K; refine SW.ret ?_; simp [Ex.then, Ex.ib, -strN]
    all_goals first
      | (simp; done)
      | (exact ⟨by simpa using IntS_strN2 _, by simp⟩)
      | fail)
set_option maxHeartbeats 1000000 in
theorem rcM_i (p : Prog) (e : Eng) (h : p.ok) (he : e.ok) (k : Nat) (g : Gor) (hg : e.gs[k]? = some g) (hA : asked p e k = true) (hk : gorOk p g = true) (ho : ¬ (atI p g).op = 11) : Fn Tryz.prog 23 [.agg p.fr, .agg e.fr, .int .i64 k] (.nil) := by
  refine Fn.intro Tryz.func23 (by decide) rfl (rs := [.tmp 6]) rfl Tryz.ntmps23 (by simp) ?_; have hlt := (List.getElem?_eq_some_iff.1 hg).1
  have hgE : ∀ q, e.gs[k]'q = g := fun q => (List.getElem?_eq_some_iff.1 hg).2
  have hat := gor_at hk
  have hI := instr_i p g hat
  generalize hi : atI p g = i at hI ho
  obtain ⟨op, a, b, c⟩ := i; simp only [] at ho; have ho2 : (op == 11) = false := by simpa using ho
  refine SW.rg fun K hK => ?_; simp -implicitDefEqProofs; repeat (refine And.intro (by clear hK; first | omega | (intros; simp_all; done) | (intros; grind)) ?_)
  refine hK _ ?_; clear hK K; refine SW.seqK fun K1 hK1 => ?_
  refine SW.drawK mixed [.q [(0, false), (1, false), (2, false), (3, false), (4, false), (5, false), (6, false), (7, false), (8, false), (9, false), (10, false), (11, false), (12, false), (13, false), (14, false), (15, false)]] (by kernel_rfl) rfl fun K hK => ?_
  simp -implicitDefEqProofs [hg, hgE, hlt, hA, ho, ho2]; repeat (refine And.intro (by clear hK; first | omega | (intros; simp_all; done) | (intros; grind)) ?_)
  first
    | refine CallQ.fzE (asked_i p e k h he) (by simp) ?_
    | refine CallK.fzE (asked_i p e k h he) (by simp) ?_
  simp -implicitDefEqProofs [hg, hgE, hlt, hA, ho, ho2]; repeat (refine And.intro (by clear hK; first | omega | (intros; simp_all; done) | (intros; grind)) ?_)
  first
    | refine CallQ.fzE hI (by simp [hgE]) ?_
    | refine CallQG.fzE (by simp) (fun _ => hI) (by simp [hgE]) ?_
    | refine CallK.fzE hI (by simp [hgE]) ?_
  simp -implicitDefEqProofs [hg, hgE, hlt, hA, ho, ho2]; repeat (refine And.intro (by clear hK; first | omega | (intros; simp_all; done) | (intros; grind)) ?_)
  refine hK _ ?_; clear hK K; refine SW.cond _ rfl (by simp) ?_ ?_
  case' refine_2 =>
   intro hb1
   first
   | (exfalso; simp at hb1; done)
   | (exfalso; simp at hb1; omega)
   | (
    refine SW.skip ?_; refine hK1 _ ?_
    refine SW.drawK mixed [.q [(0, false), (1, false), (2, false), (3, false), (4, false), (5, false), (6, false), (7, false), (8, false), (9, false), (10, false), (11, false), (12, false), (13, true), (14, false)]] (by kernel_rfl) rfl fun K hK => ?_
    simp -implicitDefEqProofs [hg, hgE, hlt, hA, ho, ho2]; repeat (refine And.intro (by clear hK; first | omega | (intros; simp_all; done) | (intros; grind)) ?_)
    first
      | refine CallQ.fzE hI (by simp [hgE]) ?_
      | refine CallQG.fzE (by simp) (fun _ => hI) (by simp [hgE]) ?_
      | refine CallK.fzE hI (by simp [hgE]) ?_
    simp -implicitDefEqProofs [hg, hgE, hlt, hA, ho, ho2]; repeat (refine And.intro (by clear hK; first | omega | (intros; simp_all; done) | (intros; grind)) ?_)
    fail
    simp -implicitDefEqProofs [hg, hgE, hlt, hA, ho, ho2]; repeat (refine And.intro (by clear hK; first | omega | (intros; simp_all; done) | (intros; grind)) ?_)
    refine hK _ ?_; clear hK K; refine SW.ret ?_; simp [Ex.then, Ex.ib, -strN]
    all_goals first
      | (simp; done)
      | (exact ⟨by simpa using IntS_strN2 _, by simp⟩)
      | fail)
  rotate_right
  case' _ =>
   intro hb1
   first
   | (exfalso; simp at hb1; done)
   | (exfalso; simp at hb1; omega)
   | (
    refine SW.rg fun K hK => ?_; simp -implicitDefEqProofs; repeat (refine And.intro (by clear hK; first | omega | (intros; simp_all; done) | (intros; grind)) ?_)
    refine hK _ ?_; clear hK K; refine SW.ret ?_; simp [Ex.then, Ex.ib, -strN]
    all_goals first
      | (simp; done)
      | (exact ⟨by simpa using IntS_strN2 _, by simp⟩)
      | fail)
set_option maxHeartbeats 1000000 in
theorem rcN_i (p : Prog) (e : Eng) (h : p.ok) (he : e.ok) (n : Int) (hA : asked p e n = false) : Fn Tryz.prog 23 [.agg p.fr, .agg e.fr, .int .i64 n] (.nil) := by
  refine Fn.intro Tryz.func23 (by decide) rfl (rs := [.tmp 6]) rfl Tryz.ntmps23 (by simp) ?_; refine SW.rg fun K hK => ?_; simp -implicitDefEqProofs
  repeat (refine And.intro (by clear hK; first | omega | (intros; simp_all; done) | (intros; grind)) ?_)
  refine hK _ ?_; clear hK K; refine SW.seqK fun K1 hK1 => ?_
  refine SW.drawK mixed [.q [(0, false), (1, false), (2, false), (3, false), (4, false), (5, false), (6, false), (7, false), (8, false), (9, false), (10, false), (11, false), (12, false), (13, false), (14, false), (15, false)]] (by kernel_rfl) rfl fun K hK => ?_
  simp -implicitDefEqProofs [hA]; repeat (refine And.intro (by clear hK; first | omega | (intros; simp_all; done) | (intros; grind)) ?_)
  first
    | refine CallQ.fzE (asked_i p e n h he) (by simp) ?_
    | refine CallK.fzE (asked_i p e n h he) (by simp) ?_
  simp -implicitDefEqProofs [hA]; repeat (refine And.intro (by clear hK; first | omega | (intros; simp_all; done) | (intros; grind)) ?_)
  first
    | refine ⟨.undef, (fun hgg => by cases hgg), ?_⟩
    | fail
  simp -implicitDefEqProofs [hA]; repeat (refine And.intro (by clear hK; first | omega | (intros; simp_all; done) | (intros; grind)) ?_)
  refine hK _ ?_; clear hK K; refine SW.cond _ rfl (by simp) ?_ ?_
  case' refine_2 =>
   intro hb1
   first
   | (exfalso; simp at hb1; done)
   | (exfalso; simp at hb1; omega)
   | (
    refine SW.skip ?_; refine hK1 _ ?_
    refine SW.drawK mixed [.q [(0, false), (1, false), (2, false), (3, false), (4, false), (5, false), (6, false), (7, false), (8, false), (9, false), (10, false), (11, false), (12, false), (13, false), (14, false)]] (by kernel_rfl) rfl fun K hK => ?_
    simp -implicitDefEqProofs; repeat (refine And.intro (by clear hK; first | omega | (intros; simp_all; done) | (intros; grind)) ?_)
    first
      | refine ⟨.undef, (fun hgg => by cases hgg), ?_⟩
      | fail
    simp -implicitDefEqProofs; repeat (refine And.intro (by clear hK; first | omega | (intros; simp_all; done) | (intros; grind)) ?_)
    fail
    simp -implicitDefEqProofs; repeat (refine And.intro (by clear hK; first | omega | (intros; simp_all; done) | (intros; grind)) ?_)
    refine hK _ ?_; clear hK K; refine SW.ret ?_; simp [Ex.then, Ex.ib]
    all_goals first
      | (simp; done)
      | fail)
  rotate_right
  case' _ =>
   intro hb1
   first
   | (exfalso; simp at hb1; done)
   | (exfalso; simp at hb1; omega)
   | (
    refine SW.rg fun K hK => ?_; simp -implicitDefEqProofs; repeat (refine And.intro (by clear hK; first | omega | (intros; simp_all; done) | (intros; grind)) ?_)
    refine hK _ ?_; clear hK K; refine SW.ret ?_; simp [Ex.then, Ex.ib]
    all_goals first
      | (simp; done)
      | fail)
end HT
