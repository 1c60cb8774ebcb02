import Derived.Test.YtokcpmbgipblpaaGreatBHXY9
/-
  My own texts (road H): HXYA.
-/
set_option linter.unusedSimpArgs false
set_option linter.unusedVariables false
namespace HT
open Go Go.Proofs HK
def rcG (p : Prog) (e : Eng) (g : Gor) : List Int := if (atI p g).op = 11 then (match p.sels[(atI p g).a.toNat]? with | some s => rdy e 0 s.cases | none => []) else []
def rcV (p : Prog) (e : Eng) (n : Int) : List Int := if asked p e n then (match e.gs[n.toNat]? with | some g => rcG p e g | none => []) else []
def choicesV (p : Prog) (e : Eng) (n : Int) : Int := if asked p e n then max 1 ((rcV p e n).length : Int) else 0
def blkG (p : Prog) (e : Eng) (n : Int) (g : Gor) : Bool :=
  if (atI p g).op = 8 then !caseR e ⟨true, (atI p g).a, 0, 0, 0⟩
  else if (atI p g).op = 9 then !caseR e ⟨false, (atI p g).a, 0, 0, 0⟩
  else if (atI p g).op = 12 then (match e.mus[(atI p g).a.toNat]? with | some u => decide (0 ≤ u.owner) && !decide (u.owner = n) | none => false)
  else if (atI p g).op = 11 then (match p.sels[(atI p g).a.toNat]? with | some s => decide (s.els < 0) && decide ((rdy e 0 s.cases).length = 0) | none => false)
  else false
def blkV (p : Prog) (e : Eng) (n : Int) : Bool := asked p e n && (match e.gs[n.toNat]? with | some g => blkG p e n g | none => false)
theorem rcV_at {p : Prog} {e : Eng} {k : Nat} {g : Gor} (hg : e.gs[k]? = some g) (hA : asked p e k = true) : rcV p e k = rcG p e g := by
  unfold rcV; rw [if_pos hA, Int.toNat_natCast, hg]
theorem blkV_at {p : Prog} {e : Eng} {k : Nat} {g : Gor} (hg : e.gs[k]? = some g) (hA : asked p e k = true) : blkV p e k = blkG p e k g := by
  unfold blkV; rw [hA, Int.toNat_natCast, hg]; rfl
theorem rcV_len {p : Prog} {e : Eng} {n : Int} (h : p.ok) : (rcV p e n).length ≤ 1048576 := by
  unfold rcV rcG; split
  · split
    · split
      · split
        · rename_i s hs
          exact Nat.le_trans (rdy_len e _ 0) (h.2.2.1 s (List.mem_of_getElem? hs))
        · simp
      · simp
    · simp
  · simp
theorem rc_s (p : Prog) (e : Eng) (n : Int) (h : p.ok) (he : e.ok) : Fn Tryz.prog 22 [.agg p.fr, .agg e.fr, .int .i64 n] (.own 1 (IntS (rcV p e n))) := by
  cases hA : asked p e n with
  | false =>
    have e0 : rcV p e n = [] := by unfold rcV; rw [hA]; rfl
    rw [e0]
    exact Fn.ownNilP 1 (rcN_s p e h he n hA)
  | true =>
    obtain ⟨k, g, rfl, hg, _, _, hk⟩ := asked_ex hA; rw [rcV_at hg hA]; by_cases ho : (atI p g).op = 11
    · obtain ⟨m, s, hm, hs, hl⟩ := asked_sel (e := e) (k := k) h hk ho
      have e1 : rcG p e g = rdy e 0 s.cases := by
        unfold rcG; rw [if_pos ho, hm, Int.toNat_natCast, hs]
      rw [e1]; exact rcY_s p e h he k g hg hA hk ho m s hm hs hl
    · have e1 : rcG p e g = [] := by unfold rcG; rw [if_neg ho]
      rw [e1]; exact Fn.ownNilP 1 (rcM_s p e h he k g hg hA hk ho)
set_option maxHeartbeats 1000000 in
theorem choices_s (p : Prog) (e : Eng) (n : Int) (h : p.ok) (he : e.ok) : Fn Tryz.prog 18 [.agg p.fr, .agg e.fr, .int .i64 n] (.int .i64 (choicesV p e n)) := by
  refine Fn.intro Tryz.func18 (by decide) rfl (rs := [.tmp 6]) rfl Tryz.ntmps18 (by simp) ?_; have hrl := rcV_len (e := e) (n := n) h
  refine SW.rg fun K hK => ?_; simp -implicitDefEqProofs; repeat (refine And.intro (by clear hK; first | omega | (intros; simp_all; done) | (intros; grind)) ?_)
  refine hK _ ?_; clear hK K; refine SW.seqK fun K1 hK1 => ?_; refine SW.rg fun K hK => ?_; simp -implicitDefEqProofs; repeat (refine And.intro (by clear hK; first | omega | (intros; simp_all; done) | (intros; grind)) ?_)
  first
    | refine CallQ.fzE (asked_s p e n h he) (by simp) ?_
    | refine CallK.fzE (asked_s p e n h he) (by simp) ?_
  simp -implicitDefEqProofs; repeat (refine And.intro (by clear hK; first | omega | (intros; simp_all; done) | (intros; grind)) ?_)
  refine hK _ ?_; clear hK K; refine SW.cond _ rfl (by simp) ?_ ?_
  case' refine_2 =>
   intro hb1
   first
   | (exfalso; simp at hb1; done)
   | (exfalso; simp at hb1; omega)
   | (
    have hA : asked p e n = true := by simpa using hb1
    refine SW.skip ?_; refine hK1 _ ?_; refine SW.rg fun K hK => ?_; simp -implicitDefEqProofs; repeat (refine And.intro (by clear hK; first | omega | (intros; simp_all; done) | (intros; grind)) ?_)
    first
      | refine CallQ.fzE (rc_s p e n h he) (by simp) ?_
      | refine CallK.fzE (rc_s p e n h he) (by simp) ?_
    simp -implicitDefEqProofs; repeat (refine And.intro (by clear hK; first | omega | (intros; simp_all; done) | (intros; grind)) ?_)
    refine hK _ ?_; clear hK K; refine SW.seqK fun K2 hK2 => ?_; refine SW.rg fun K hK => ?_; simp -implicitDefEqProofs; repeat (refine And.intro (by clear hK; first | omega | (intros; simp_all; done) | (intros; grind)) ?_)
    refine hK _ ?_; clear hK K; refine SW.cond _ rfl (by simp) ?_ ?_
    case' refine_2 =>
     intro hb2
     first
     | (exfalso; simp at hb2; done)
     | (exfalso; simp at hb2; omega)
     | (
      have hz : ¬ (rcV p e n).length = 0 := by simpa using hb2
      refine SW.skip ?_; refine hK2 _ ?_; refine SW.rg fun K hK => ?_; simp -implicitDefEqProofs; repeat (refine And.intro (by clear hK; first | omega | (intros; simp_all; done) | (intros; grind)) ?_)
      refine hK _ ?_; clear hK K; refine SW.ret ?_; simp [Ex.then, Ex.ib]
      all_goals first
        | (simp [choicesV, hA]; done)
        | (simp [choicesV, hA, hz]; done)
        | (simp [choicesV, hA]; omega)
        | (simp only [choicesV, hA]; simp; omega)
        | (simp [choicesV, hA]; split <;> omega)
        | fail)
    rotate_right
    case' _ =>
     intro hb2
     first
     | (exfalso; simp at hb2; done)
     | (exfalso; simp at hb2; omega)
     | (
      have hz : (rcV p e n).length = 0 := by simpa using hb2
      refine SW.rg fun K hK => ?_; simp -implicitDefEqProofs; repeat (refine And.intro (by clear hK; first | omega | (intros; simp_all; done) | (intros; grind)) ?_)
      refine hK _ ?_; clear hK K; refine SW.ret ?_; simp [Ex.then, Ex.ib]
      all_goals first
        | (simp [choicesV, hA]; done)
        | (simp [choicesV, hA, hz]; done)
        | (simp [choicesV, hA]; omega)
        | (simp only [choicesV, hA]; simp; omega)
        | (simp [choicesV, hA]; split <;> omega)
        | fail))
  rotate_right
  case' _ =>
   intro hb1
   first
   | (exfalso; simp at hb1; done)
   | (exfalso; simp at hb1; omega)
   | (
    have hA : asked p e n = false := by simpa using hb1
    refine SW.rg fun K hK => ?_; simp -implicitDefEqProofs; repeat (refine And.intro (by clear hK; first | omega | (intros; simp_all; done) | (intros; grind)) ?_)
    refine hK _ ?_; clear hK K; refine SW.ret ?_; simp [Ex.then, Ex.ib]
    all_goals first
      | (simp [choicesV, hA]; done)
      | (simp [choicesV, hA, hz]; done)
      | (simp [choicesV, hA]; omega)
      | (simp only [choicesV, hA]; simp; omega)
      | (simp [choicesV, hA]; split <;> omega)
      | fail)
set_option maxHeartbeats 1000000 in
theorem blk8_s (p : Prog) (e : Eng) (h : p.ok) (he : e.ok) (k : Nat) (g : Gor) (hg : e.gs[k]? = some g) (hA : asked p e k = true) (hk : gorOk p g = true) (ho : (atI p g).op = 8) : Fn Tryz.prog 20 [.agg p.fr, .agg e.fr, .int .i64 k] (.bool (blkV p e k)) := by
  refine Fn.intro Tryz.func20 (by decide) rfl (rs := [.tmp 6]) rfl Tryz.ntmps20 (by simp) ?_; have hlt := (List.getElem?_eq_some_iff.1 hg).1
  have hgE : ∀ q, e.gs[k]'q = g := fun q => (List.getElem?_eq_some_iff.1 hg).2
  have hat := gor_at hk
  have hI := instr_s p g hat
  have hbv : blkV p e k = blkG p e k g := blkV_at hg hA
  unfold blkG at hbv
  generalize hi : atI p g = i at hI ho hbv
  obtain ⟨op, a, b, c⟩ := i; simp only [] at ho hbv; subst ho; simp at hbv; refine SW.rg fun K hK => ?_; simp -implicitDefEqProofs; repeat (refine And.intro (by clear hK; first | omega | (intros; simp_all; done) | (intros; grind)) ?_)
  refine hK _ ?_; clear hK K; refine SW.seqK fun K1 hK1 => ?_; refine SW.rg fun K hK => ?_; simp -implicitDefEqProofs [hg, hgE, hlt, hA]; repeat (refine And.intro (by clear hK; first | omega | (intros; simp_all; done) | (intros; grind)) ?_)
  first
    | refine CallQ.fzE (asked_s p e k h he) (by simp) ?_
    | refine CallK.fzE (asked_s p e k h he) (by simp) ?_
  simp -implicitDefEqProofs [hg, hgE, hlt, hA]; repeat (refine And.intro (by clear hK; first | omega | (intros; simp_all; done) | (intros; grind)) ?_)
  refine hK _ ?_; clear hK K; refine SW.cond _ rfl (by simp) ?_ ?_
  case' refine_2 =>
   intro hb1
   first
   | (exfalso; simp at hb1; done)
   | (exfalso; simp at hb1; omega)
   | (
    refine SW.skip ?_; refine hK1 _ ?_; refine SW.drawK mixed [.q [(0, false), (1, false), (2, false), (3, false), (4, false), (5, false), (6, false), (7, true)], .b 8] (by kernel_rfl) rfl fun K hK => ?_
    simp -implicitDefEqProofs [hg, hgE, hlt, hA]; repeat (refine And.intro (by clear hK; first | omega | (intros; simp_all; done) | (intros; grind)) ?_)
    first
      | refine CallQ.fzE hI (by simp [hgE]) ?_
      | refine CallK.fzE hI (by simp [hgE]) ?_
    simp -implicitDefEqProofs [hg, hgE, hlt, hA]; repeat (refine And.intro (by clear hK; first | omega | (intros; simp_all; done) | (intros; grind)) ?_)
    refine hK _ ?_; clear hK K; refine SW.seqK fun K2 hK2 => ?_; refine SW.rg fun K hK => ?_; simp -implicitDefEqProofs [hg, hgE, hlt, hA]
    repeat (refine And.intro (by clear hK; first | omega | (intros; simp_all; done) | (intros; grind)) ?_)
    refine hK _ ?_; clear hK K; refine SW.block ?_; refine SW.rg fun K hK => ?_; simp -implicitDefEqProofs [hg, hgE, hlt, hA]; repeat (refine And.intro (by clear hK; first | omega | (intros; simp_all; done) | (intros; grind)) ?_)
    refine hK _ ?_; clear hK K; refine SW.cond _ rfl (by simp) ?_ ?_
    case' refine_2 =>
     intro hb2
     first
     | (exfalso; simp at hb2; done)
     | (exfalso; simp at hb2; omega)
     | (
      refine SW.rg fun K hK => ?_; simp -implicitDefEqProofs [hg, hgE, hlt, hA]; repeat (refine And.intro (by clear hK; first | omega | (intros; simp_all; done) | (intros; grind)) ?_)
      refine hK _ ?_; clear hK K; refine SW.cond _ rfl (by simp) ?_ ?_
      case' refine_2 =>
       intro hb3
       first
       | (exfalso; simp at hb3; done)
       | (exfalso; simp at hb3; omega)
       | (
        refine SW.rg fun K hK => ?_; simp -implicitDefEqProofs [hg, hgE, hlt, hA]; repeat (refine And.intro (by clear hK; first | omega | (intros; simp_all; done) | (intros; grind)) ?_)
        refine hK _ ?_; clear hK K; refine SW.cond _ rfl (by simp) ?_ ?_
        case' refine_2 =>
         intro hb4
         first
         | (exfalso; simp at hb4; done)
         | (exfalso; simp at hb4; omega)
         | (
          refine SW.rg fun K hK => ?_; simp -implicitDefEqProofs [hg, hgE, hlt, hA]; repeat (refine And.intro (by clear hK; first | omega | (intros; simp_all; done) | (intros; grind)) ?_)
          refine hK _ ?_; clear hK K; refine SW.cond _ rfl (by simp) ?_ ?_
          case' refine_2 =>
           intro hb5
           first
           | (exfalso; simp at hb5; done)
           | (exfalso; simp at hb5; omega)
           | (
            refine SW.skip ?_; refine hK2 _ ?_; refine SW.rg fun K hK => ?_; simp -implicitDefEqProofs; repeat (refine And.intro (by clear hK; first | omega | (intros; simp_all; done) | (intros; grind)) ?_)
            refine hK _ ?_; clear hK K; refine SW.ret ?_; simp [Ex.then, Ex.ib]
            all_goals first
              | (rw [hbv]; done)
              | (simp [hbv]; done)
              | (rw [hbv, Bool.eq_iff_iff]; simp; done)
              | (rw [hbv, Bool.eq_iff_iff]; simp; omega)
              | (rw [hbv, Bool.eq_iff_iff]; simp; grind)
              | fail)
          rotate_right
          case' _ =>
           intro hb5
           first
           | (exfalso; simp at hb5; done)
           | (exfalso; simp at hb5; omega)
           | (
            refine SW.rg fun K hK => ?_; simp -implicitDefEqProofs [hg, hgE, hlt, hA]; repeat (refine And.intro (by clear hK; first | omega | (intros; simp_all; done) | (intros; grind)) ?_)
            fail
            simp -implicitDefEqProofs [hg, hgE, hlt, hA]; repeat (refine And.intro (by clear hK; first | omega | (intros; simp_all; done) | (intros; grind)) ?_)
            refine hK _ ?_; clear hK K; refine SW.ret ?_; simp [Ex.then, Ex.ib]
            all_goals first
              | (rw [hbv]; done)
              | (simp [hbv]; done)
              | (rw [hbv, Bool.eq_iff_iff]; simp; done)
              | (rw [hbv, Bool.eq_iff_iff]; simp; omega)
              | (rw [hbv, Bool.eq_iff_iff]; simp; grind)
              | fail))
        rotate_right
        case' _ =>
         intro hb4
         first
         | (exfalso; simp at hb4; done)
         | (exfalso; simp at hb4; omega)
         | (
          refine SW.rg fun K hK => ?_; simp -implicitDefEqProofs [hg, hgE, hlt, hA]; repeat (refine And.intro (by clear hK; first | omega | (intros; simp_all; done) | (intros; grind)) ?_)
          refine hK _ ?_; clear hK K; refine SW.rg fun K hK => ?_; simp -implicitDefEqProofs [hg, hgE, hlt, hA]; repeat (refine And.intro (by clear hK; first | omega | (intros; simp_all; done) | (intros; grind)) ?_)
          refine hK _ ?_; clear hK K; refine SW.ret ?_; simp [Ex.then, Ex.ib]
          all_goals first
            | (rw [hbv]; done)
            | (simp [hbv]; done)
            | (rw [hbv, Bool.eq_iff_iff]; simp; done)
            | (rw [hbv, Bool.eq_iff_iff]; simp; omega)
            | (rw [hbv, Bool.eq_iff_iff]; simp; grind)
            | fail))
      rotate_right
      case' _ =>
       intro hb3
       first
       | (exfalso; simp at hb3; done)
       | (exfalso; simp at hb3; omega)
       | (
        refine SW.rg fun K hK => ?_; simp -implicitDefEqProofs [hg, hgE, hlt, hA]; repeat (refine And.intro (by clear hK; first | omega | (intros; simp_all; done) | (intros; grind)) ?_)
        first
          | refine CallQ.fzE (caseReady_s e ⟨true, a, 0, 0, 0⟩ he) (by simp) ?_
          | refine CallK.fzE (caseReady_s e ⟨true, a, 0, 0, 0⟩ he) (by simp) ?_
        simp -implicitDefEqProofs [hg, hgE, hlt, hA]; repeat (refine And.intro (by clear hK; first | omega | (intros; simp_all; done) | (intros; grind)) ?_)
        refine hK _ ?_; clear hK K; refine SW.ret ?_; simp [Ex.then, Ex.ib]
        all_goals first
          | (rw [hbv]; done)
          | (simp [hbv]; done)
          | (rw [hbv, Bool.eq_iff_iff]; simp; done)
          | (rw [hbv, Bool.eq_iff_iff]; simp; omega)
          | (rw [hbv, Bool.eq_iff_iff]; simp; grind)
          | fail))
    rotate_right
    case' _ =>
     intro hb2
     first
     | (exfalso; simp at hb2; done)
     | (exfalso; simp at hb2; omega)
     | (
      refine SW.rg fun K hK => ?_; simp -implicitDefEqProofs [hg, hgE, hlt, hA]; repeat (refine And.intro (by clear hK; first | omega | (intros; simp_all; done) | (intros; grind)) ?_)
      first
        | refine CallQ.fzE (caseReady_s e ⟨true, a, 0, 0, 0⟩ he) (by simp) ?_
        | refine CallK.fzE (caseReady_s e ⟨true, a, 0, 0, 0⟩ he) (by simp) ?_
      simp -implicitDefEqProofs [hg, hgE, hlt, hA]; repeat (refine And.intro (by clear hK; first | omega | (intros; simp_all; done) | (intros; grind)) ?_)
      refine hK _ ?_; clear hK K; refine SW.ret ?_; simp [Ex.then, Ex.ib]
      all_goals first
        | (rw [hbv]; done)
        | (simp [hbv]; done)
        | (rw [hbv, Bool.eq_iff_iff]; simp; done)
        | (rw [hbv, Bool.eq_iff_iff]; simp; omega)
        | (rw [hbv, Bool.eq_iff_iff]; simp; grind)
        | fail))
  rotate_right
  case' _ =>
   intro hb1
   first
   | (exfalso; simp at hb1; done)
   | (exfalso; simp at hb1; omega)
   | (
    refine SW.rg fun K hK => ?_; simp -implicitDefEqProofs; repeat (refine And.intro (by clear hK; first | omega | (intros; simp_all; done) | (intros; grind)) ?_)
    refine hK _ ?_; clear hK K; refine SW.ret ?_; simp [Ex.then, Ex.ib]
    all_goals first
      | (rw [hbv]; done)
      | (simp [hbv]; done)
      | (rw [hbv, Bool.eq_iff_iff]; simp; done)
      | (rw [hbv, Bool.eq_iff_iff]; simp; omega)
      | (rw [hbv, Bool.eq_iff_iff]; simp; grind)
      | fail)
set_option maxHeartbeats 1000000 in
theorem blk9_s (p : Prog) (e : Eng) (h : p.ok) (he : e.ok) (k : Nat) (g : Gor) (hg : e.gs[k]? = some g) (hA : asked p e k = true) (hk : gorOk p g = true) (ho : (atI p g).op = 9) : Fn Tryz.prog 20 [.agg p.fr, .agg e.fr, .int .i64 k] (.bool (blkV p e k)) := by
  refine Fn.intro Tryz.func20 (by decide) rfl (rs := [.tmp 6]) rfl Tryz.ntmps20 (by simp) ?_; have hlt := (List.getElem?_eq_some_iff.1 hg).1
  have hgE : ∀ q, e.gs[k]'q = g := fun q => (List.getElem?_eq_some_iff.1 hg).2
  have hat := gor_at hk
  have hI := instr_s p g hat
  have hbv : blkV p e k = blkG p e k g := blkV_at hg hA
  unfold blkG at hbv
  generalize hi : atI p g = i at hI ho hbv
  obtain ⟨op, a, b, c⟩ := i; simp only [] at ho hbv; subst ho; simp at hbv; refine SW.rg fun K hK => ?_; simp -implicitDefEqProofs; repeat (refine And.intro (by clear hK; first | omega | (intros; simp_all; done) | (intros; grind)) ?_)
  refine hK _ ?_; clear hK K; refine SW.seqK fun K1 hK1 => ?_; refine SW.rg fun K hK => ?_; simp -implicitDefEqProofs [hg, hgE, hlt, hA]; repeat (refine And.intro (by clear hK; first | omega | (intros; simp_all; done) | (intros; grind)) ?_)
  first
    | refine CallQ.fzE (asked_s p e k h he) (by simp) ?_
    | refine CallK.fzE (asked_s p e k h he) (by simp) ?_
  simp -implicitDefEqProofs [hg, hgE, hlt, hA]; repeat (refine And.intro (by clear hK; first | omega | (intros; simp_all; done) | (intros; grind)) ?_)
  refine hK _ ?_; clear hK K; refine SW.cond _ rfl (by simp) ?_ ?_
  case' refine_2 =>
   intro hb1
   first
   | (exfalso; simp at hb1; done)
   | (exfalso; simp at hb1; omega)
   | (
    refine SW.skip ?_; refine hK1 _ ?_; refine SW.drawK mixed [.q [(0, false), (1, false), (2, false), (3, false), (4, false), (5, false), (6, false), (7, true)], .b 8] (by kernel_rfl) rfl fun K hK => ?_
    simp -implicitDefEqProofs [hg, hgE, hlt, hA]; repeat (refine And.intro (by clear hK; first | omega | (intros; simp_all; done) | (intros; grind)) ?_)
    first
      | refine CallQ.fzE hI (by simp [hgE]) ?_
      | refine CallK.fzE hI (by simp [hgE]) ?_
    simp -implicitDefEqProofs [hg, hgE, hlt, hA]; repeat (refine And.intro (by clear hK; first | omega | (intros; simp_all; done) | (intros; grind)) ?_)
    refine hK _ ?_; clear hK K; refine SW.seqK fun K2 hK2 => ?_; refine SW.rg fun K hK => ?_; simp -implicitDefEqProofs [hg, hgE, hlt, hA]
    repeat (refine And.intro (by clear hK; first | omega | (intros; simp_all; done) | (intros; grind)) ?_)
    refine hK _ ?_; clear hK K; refine SW.block ?_; refine SW.rg fun K hK => ?_; simp -implicitDefEqProofs [hg, hgE, hlt, hA]; repeat (refine And.intro (by clear hK; first | omega | (intros; simp_all; done) | (intros; grind)) ?_)
    refine hK _ ?_; clear hK K; refine SW.cond _ rfl (by simp) ?_ ?_
    case' refine_2 =>
     intro hb2
     first
     | (exfalso; simp at hb2; done)
     | (exfalso; simp at hb2; omega)
     | (
      refine SW.rg fun K hK => ?_; simp -implicitDefEqProofs [hg, hgE, hlt, hA]; repeat (refine And.intro (by clear hK; first | omega | (intros; simp_all; done) | (intros; grind)) ?_)
      refine hK _ ?_; clear hK K; refine SW.cond _ rfl (by simp) ?_ ?_
      case' refine_2 =>
       intro hb3
       first
       | (exfalso; simp at hb3; done)
       | (exfalso; simp at hb3; omega)
       | (
        refine SW.rg fun K hK => ?_; simp -implicitDefEqProofs [hg, hgE, hlt, hA]; repeat (refine And.intro (by clear hK; first | omega | (intros; simp_all; done) | (intros; grind)) ?_)
        refine hK _ ?_; clear hK K; refine SW.cond _ rfl (by simp) ?_ ?_
        case' refine_2 =>
         intro hb4
         first
         | (exfalso; simp at hb4; done)
         | (exfalso; simp at hb4; omega)
         | (
          refine SW.rg fun K hK => ?_; simp -implicitDefEqProofs [hg, hgE, hlt, hA]; repeat (refine And.intro (by clear hK; first | omega | (intros; simp_all; done) | (intros; grind)) ?_)
          refine hK _ ?_; clear hK K; refine SW.cond _ rfl (by simp) ?_ ?_
          case' refine_2 =>
           intro hb5
           first
           | (exfalso; simp at hb5; done)
           | (exfalso; simp at hb5; omega)
           | (
            refine SW.skip ?_; refine hK2 _ ?_; refine SW.rg fun K hK => ?_; simp -implicitDefEqProofs; repeat (refine And.intro (by clear hK; first | omega | (intros; simp_all; done) | (intros; grind)) ?_)
            refine hK _ ?_; clear hK K; refine SW.ret ?_; simp [Ex.then, Ex.ib]
            all_goals first
              | (rw [hbv]; done)
              | (simp [hbv]; done)
              | (rw [hbv, Bool.eq_iff_iff]; simp; done)
              | (rw [hbv, Bool.eq_iff_iff]; simp; omega)
              | (rw [hbv, Bool.eq_iff_iff]; simp; grind)
              | fail)
          rotate_right
          case' _ =>
           intro hb5
           first
           | (exfalso; simp at hb5; done)
           | (exfalso; simp at hb5; omega)
           | (
            refine SW.rg fun K hK => ?_; simp -implicitDefEqProofs [hg, hgE, hlt, hA]; repeat (refine And.intro (by clear hK; first | omega | (intros; simp_all; done) | (intros; grind)) ?_)
            fail
            simp -implicitDefEqProofs [hg, hgE, hlt, hA]; repeat (refine And.intro (by clear hK; first | omega | (intros; simp_all; done) | (intros; grind)) ?_)
            refine hK _ ?_; clear hK K; refine SW.ret ?_; simp [Ex.then, Ex.ib]
            all_goals first
              | (rw [hbv]; done)
              | (simp [hbv]; done)
              | (rw [hbv, Bool.eq_iff_iff]; simp; done)
              | (rw [hbv, Bool.eq_iff_iff]; simp; omega)
              | (rw [hbv, Bool.eq_iff_iff]; simp; grind)
              | fail))
        rotate_right
        case' _ =>
         intro hb4
         first
         | (exfalso; simp at hb4; done)
         | (exfalso; simp at hb4; omega)
         | (
          refine SW.rg fun K hK => ?_; simp -implicitDefEqProofs [hg, hgE, hlt, hA]; repeat (refine And.intro (by clear hK; first | omega | (intros; simp_all; done) | (intros; grind)) ?_)
          refine hK _ ?_; clear hK K; refine SW.rg fun K hK => ?_; simp -implicitDefEqProofs [hg, hgE, hlt, hA]; repeat (refine And.intro (by clear hK; first | omega | (intros; simp_all; done) | (intros; grind)) ?_)
          refine hK _ ?_; clear hK K; refine SW.ret ?_; simp [Ex.then, Ex.ib]
          all_goals first
            | (rw [hbv]; done)
            | (simp [hbv]; done)
            | (rw [hbv, Bool.eq_iff_iff]; simp; done)
            | (rw [hbv, Bool.eq_iff_iff]; simp; omega)
            | (rw [hbv, Bool.eq_iff_iff]; simp; grind)
            | fail))
      rotate_right
      case' _ =>
       intro hb3
       first
       | (exfalso; simp at hb3; done)
       | (exfalso; simp at hb3; omega)
       | (
        refine SW.rg fun K hK => ?_; simp -implicitDefEqProofs [hg, hgE, hlt, hA]; repeat (refine And.intro (by clear hK; first | omega | (intros; simp_all; done) | (intros; grind)) ?_)
        first
          | refine CallQ.fzE (caseReady_s e ⟨false, a, 0, 0, 0⟩ he) (by simp) ?_
          | refine CallK.fzE (caseReady_s e ⟨false, a, 0, 0, 0⟩ he) (by simp) ?_
        simp -implicitDefEqProofs [hg, hgE, hlt, hA]; repeat (refine And.intro (by clear hK; first | omega | (intros; simp_all; done) | (intros; grind)) ?_)
        refine hK _ ?_; clear hK K; refine SW.ret ?_; simp [Ex.then, Ex.ib]
        all_goals first
          | (rw [hbv]; done)
          | (simp [hbv]; done)
          | (rw [hbv, Bool.eq_iff_iff]; simp; done)
          | (rw [hbv, Bool.eq_iff_iff]; simp; omega)
          | (rw [hbv, Bool.eq_iff_iff]; simp; grind)
          | fail))
    rotate_right
    case' _ =>
     intro hb2
     first
     | (exfalso; simp at hb2; done)
     | (exfalso; simp at hb2; omega)
     | (
      refine SW.rg fun K hK => ?_; simp -implicitDefEqProofs [hg, hgE, hlt, hA]; repeat (refine And.intro (by clear hK; first | omega | (intros; simp_all; done) | (intros; grind)) ?_)
      first
        | refine CallQ.fzE (caseReady_s e ⟨false, a, 0, 0, 0⟩ he) (by simp) ?_
        | refine CallK.fzE (caseReady_s e ⟨false, a, 0, 0, 0⟩ he) (by simp) ?_
      simp -implicitDefEqProofs [hg, hgE, hlt, hA]; repeat (refine And.intro (by clear hK; first | omega | (intros; simp_all; done) | (intros; grind)) ?_)
      refine hK _ ?_; clear hK K; refine SW.ret ?_; simp [Ex.then, Ex.ib]
      all_goals first
        | (rw [hbv]; done)
        | (simp [hbv]; done)
        | (rw [hbv, Bool.eq_iff_iff]; simp; done)
        | (rw [hbv, Bool.eq_iff_iff]; simp; omega)
        | (rw [hbv, Bool.eq_iff_iff]; simp; grind)
        | fail))
  rotate_right
  case' _ =>
   intro hb1
   first
   | (exfalso; simp at hb1; done)
   | (exfalso; simp at hb1; omega)
   | (
    refine SW.rg fun K hK => ?_; simp -implicitDefEqProofs; repeat (refine And.intro (by clear hK; first | omega | (intros; simp_all; done) | (intros; grind)) ?_)
    refine hK _ ?_; clear hK K; refine SW.ret ?_; simp [Ex.then, Ex.ib]
    all_goals first
      | (rw [hbv]; done)
      | (simp [hbv]; done)
      | (rw [hbv, Bool.eq_iff_iff]; simp; done)
      | (rw [hbv, Bool.eq_iff_iff]; simp; omega)
      | (rw [hbv, Bool.eq_iff_iff]; simp; grind)
      | fail)
set_option maxHeartbeats 1000000 in
theorem blk12_s (p : Prog) (e : Eng) (h : p.ok) (he : e.ok) (k : Nat) (g : Gor) (hg : e.gs[k]? = some g) (hA : asked p e k = true) (hk : gorOk p g = true) (ho : (atI p g).op = 12) (m : Nat) (u : Mutex) (hm : (atI p g).a = m) (hs : e.mus[m]? = some u) : Fn Tryz.prog 20 [.agg p.fr, .agg e.fr, .int .i64 k] (.bool (blkV p e k)) := by
  refine Fn.intro Tryz.func20 (by decide) rfl (rs := [.tmp 6]) rfl Tryz.ntmps20 (by simp) ?_; have hlt := (List.getElem?_eq_some_iff.1 hg).1
  have hgE : ∀ q, e.gs[k]'q = g := fun q => (List.getElem?_eq_some_iff.1 hg).2
  have hat := gor_at hk
  have hI := instr_s p g hat
  have hbv : blkV p e k = blkG p e k g := blkV_at hg hA
  unfold blkG at hbv
  generalize hi : atI p g = i at hI ho hbv hm
  obtain ⟨op, a, b, c⟩ := i; simp only [] at ho hbv hm; subst ho; subst hm; have hslt := (List.getElem?_eq_some_iff.1 hs).1
  have hsE : ∀ q, e.mus[m]'q = u := fun q => (List.getElem?_eq_some_iff.1 hs).2
  rw [Int.toNat_natCast, hs] at hbv; simp at hbv; refine SW.rg fun K hK => ?_; simp -implicitDefEqProofs; repeat (refine And.intro (by clear hK; first | omega | (intros; simp_all; done) | (intros; grind)) ?_)
  refine hK _ ?_; clear hK K; refine SW.seqK fun K1 hK1 => ?_; refine SW.rg fun K hK => ?_; simp -implicitDefEqProofs [hg, hgE, hlt, hA, hs, hsE, hslt]
  repeat (refine And.intro (by clear hK; first | omega | (intros; simp_all; done) | (intros; grind)) ?_)
  first
    | refine CallQ.fzE (asked_s p e k h he) (by simp) ?_
    | refine CallK.fzE (asked_s p e k h he) (by simp) ?_
  simp -implicitDefEqProofs [hg, hgE, hlt, hA, hs, hsE, hslt]; repeat (refine And.intro (by clear hK; first | omega | (intros; simp_all; done) | (intros; grind)) ?_)
  refine hK _ ?_; clear hK K; refine SW.cond _ rfl (by simp) ?_ ?_
  case' refine_2 =>
   intro hb1
   first
   | (exfalso; simp at hb1; done)
   | (exfalso; simp at hb1; omega)
   | (
    refine SW.skip ?_; refine hK1 _ ?_; refine SW.drawK mixed [.q [(0, false), (1, false), (2, false), (3, false), (4, false), (5, false), (6, false), (7, true)], .b 8] (by kernel_rfl) rfl fun K hK => ?_
    simp -implicitDefEqProofs [hg, hgE, hlt, hA, hs, hsE, hslt]; repeat (refine And.intro (by clear hK; first | omega | (intros; simp_all; done) | (intros; grind)) ?_)
    first
      | refine CallQ.fzE hI (by simp [hgE]) ?_
      | refine CallK.fzE hI (by simp [hgE]) ?_
    simp -implicitDefEqProofs [hg, hgE, hlt, hA, hs, hsE, hslt]; repeat (refine And.intro (by clear hK; first | omega | (intros; simp_all; done) | (intros; grind)) ?_)
    refine hK _ ?_; clear hK K; refine SW.seqK fun K2 hK2 => ?_; refine SW.rg fun K hK => ?_; simp -implicitDefEqProofs [hg, hgE, hlt, hA, hs, hsE, hslt]
    repeat (refine And.intro (by clear hK; first | omega | (intros; simp_all; done) | (intros; grind)) ?_)
    refine hK _ ?_; clear hK K; refine SW.block ?_; refine SW.rg fun K hK => ?_; simp -implicitDefEqProofs [hg, hgE, hlt, hA, hs, hsE, hslt]
    repeat (refine And.intro (by clear hK; first | omega | (intros; simp_all; done) | (intros; grind)) ?_)
    refine hK _ ?_; clear hK K; refine SW.cond _ rfl (by simp) ?_ ?_
    case' refine_2 =>
     intro hb2
     first
     | (exfalso; simp at hb2; done)
     | (exfalso; simp at hb2; omega)
     | (
      refine SW.rg fun K hK => ?_; simp -implicitDefEqProofs [hg, hgE, hlt, hA, hs, hsE, hslt]; repeat (refine And.intro (by clear hK; first | omega | (intros; simp_all; done) | (intros; grind)) ?_)
      refine hK _ ?_; clear hK K; refine SW.cond _ rfl (by simp) ?_ ?_
      case' refine_2 =>
       intro hb3
       first
       | (exfalso; simp at hb3; done)
       | (exfalso; simp at hb3; omega)
       | (
        refine SW.rg fun K hK => ?_; simp -implicitDefEqProofs [hg, hgE, hlt, hA, hs, hsE, hslt]; repeat (refine And.intro (by clear hK; first | omega | (intros; simp_all; done) | (intros; grind)) ?_)
        refine hK _ ?_; clear hK K; refine SW.cond _ rfl (by simp) ?_ ?_
        case' refine_2 =>
         intro hb4
         first
         | (exfalso; simp at hb4; done)
         | (exfalso; simp at hb4; omega)
         | (
          refine SW.rg fun K hK => ?_; simp -implicitDefEqProofs [hg, hgE, hlt, hA, hs, hsE, hslt]; repeat (refine And.intro (by clear hK; first | omega | (intros; simp_all; done) | (intros; grind)) ?_)
          refine hK _ ?_; clear hK K; refine SW.cond _ rfl (by simp) ?_ ?_
          case' refine_2 =>
           intro hb5
           first
           | (exfalso; simp at hb5; done)
           | (exfalso; simp at hb5; omega)
           | (
            refine SW.skip ?_; refine hK2 _ ?_; refine SW.rg fun K hK => ?_; simp -implicitDefEqProofs; repeat (refine And.intro (by clear hK; first | omega | (intros; simp_all; done) | (intros; grind)) ?_)
            refine hK _ ?_; clear hK K; refine SW.ret ?_; simp [Ex.then, Ex.ib]
            all_goals first
              | (rw [hbv]; done)
              | (simp [hbv]; done)
              | (rw [hbv, Bool.eq_iff_iff]; simp; done)
              | (rw [hbv, Bool.eq_iff_iff]; simp; omega)
              | (rw [hbv, Bool.eq_iff_iff]; simp; grind)
              | fail)
          rotate_right
          case' _ =>
           intro hb5
           first
           | (exfalso; simp at hb5; done)
           | (exfalso; simp at hb5; omega)
           | (
            refine SW.rg fun K hK => ?_; simp -implicitDefEqProofs [hg, hgE, hlt, hA, hs, hsE, hslt]; repeat (refine And.intro (by clear hK; first | omega | (intros; simp_all; done) | (intros; grind)) ?_)
            fail
            simp -implicitDefEqProofs [hg, hgE, hlt, hA, hs, hsE, hslt]; repeat (refine And.intro (by clear hK; first | omega | (intros; simp_all; done) | (intros; grind)) ?_)
            refine hK _ ?_; clear hK K; refine SW.ret ?_; simp [Ex.then, Ex.ib]
            all_goals first
              | (rw [hbv]; done)
              | (simp [hbv]; done)
              | (rw [hbv, Bool.eq_iff_iff]; simp; done)
              | (rw [hbv, Bool.eq_iff_iff]; simp; omega)
              | (rw [hbv, Bool.eq_iff_iff]; simp; grind)
              | fail))
        rotate_right
        case' _ =>
         intro hb4
         first
         | (exfalso; simp at hb4; done)
         | (exfalso; simp at hb4; omega)
         | (
          refine SW.rg fun K hK => ?_; simp -implicitDefEqProofs [hg, hgE, hlt, hA, hs, hsE, hslt]; repeat (refine And.intro (by clear hK; first | omega | (intros; simp_all; done) | (intros; grind)) ?_)
          refine hK _ ?_; clear hK K; refine SW.rg fun K hK => ?_; simp -implicitDefEqProofs [hg, hgE, hlt, hA, hs, hsE, hslt]; repeat (refine And.intro (by clear hK; first | omega | (intros; simp_all; done) | (intros; grind)) ?_)
          refine hK _ ?_; clear hK K; refine SW.ret ?_; simp [Ex.then, Ex.ib]
          all_goals first
            | (rw [hbv]; done)
            | (simp [hbv]; done)
            | (rw [hbv, Bool.eq_iff_iff]; simp; done)
            | (rw [hbv, Bool.eq_iff_iff]; simp; omega)
            | (rw [hbv, Bool.eq_iff_iff]; simp; grind)
            | fail))
      rotate_right
      case' _ =>
       intro hb3
       first
       | (exfalso; simp at hb3; done)
       | (exfalso; simp at hb3; omega)
       | (
        refine SW.rg fun K hK => ?_; simp -implicitDefEqProofs [hg, hgE, hlt, hA, hs, hsE, hslt]; repeat (refine And.intro (by clear hK; first | omega | (intros; simp_all; done) | (intros; grind)) ?_)
        fail
        simp -implicitDefEqProofs [hg, hgE, hlt, hA, hs, hsE, hslt]; repeat (refine And.intro (by clear hK; first | omega | (intros; simp_all; done) | (intros; grind)) ?_)
        refine hK _ ?_; clear hK K; refine SW.ret ?_; simp [Ex.then, Ex.ib]
        all_goals first
          | (rw [hbv]; done)
          | (simp [hbv]; done)
          | (rw [hbv, Bool.eq_iff_iff]; simp; done)
          | (rw [hbv, Bool.eq_iff_iff]; simp; omega)
          | (rw [hbv, Bool.eq_iff_iff]; simp; grind)
          | fail))
    rotate_right
    case' _ =>
     intro hb2
     first
     | (exfalso; simp at hb2; done)
     | (exfalso; simp at hb2; omega)
     | (
      refine SW.rg fun K hK => ?_; simp -implicitDefEqProofs [hg, hgE, hlt, hA, hs, hsE, hslt]; repeat (refine And.intro (by clear hK; first | omega | (intros; simp_all; done) | (intros; grind)) ?_)
      fail
      simp -implicitDefEqProofs [hg, hgE, hlt, hA, hs, hsE, hslt]; repeat (refine And.intro (by clear hK; first | omega | (intros; simp_all; done) | (intros; grind)) ?_)
      refine hK _ ?_; clear hK K; refine SW.ret ?_; simp [Ex.then, Ex.ib]
      all_goals first
        | (rw [hbv]; done)
        | (simp [hbv]; done)
        | (rw [hbv, Bool.eq_iff_iff]; simp; done)
        | (rw [hbv, Bool.eq_iff_iff]; simp; omega)
        | (rw [hbv, Bool.eq_iff_iff]; simp; grind)
        | fail))
  rotate_right
  case' _ =>
   intro hb1
   first
   | (exfalso; simp at hb1; done)
   | (exfalso; simp at hb1; omega)
   | (
    refine SW.rg fun K hK => ?_; simp -implicitDefEqProofs; repeat (refine And.intro (by clear hK; first | omega | (intros; simp_all; done) | (intros; grind)) ?_)
    refine hK _ ?_; clear hK K; refine SW.ret ?_; simp [Ex.then, Ex.ib]
    all_goals first
      | (rw [hbv]; done)
      | (simp [hbv]; done)
      | (rw [hbv, Bool.eq_iff_iff]; simp; done)
      | (rw [hbv, Bool.eq_iff_iff]; simp; omega)
      | (rw [hbv, Bool.eq_iff_iff]; simp; grind)
      | fail)
set_option maxHeartbeats 1000000 in
theorem blk11_s (p : Prog) (e : Eng) (h : p.ok) (he : e.ok) (k : Nat) (g : Gor) (hg : e.gs[k]? = some g) (hA : asked p e k = true) (hk : gorOk p g = true) (ho : (atI p g).op = 11) (m : Nat) (s : Select) (hm : (atI p g).a = m) (hs : p.sels[m]? = some s) (hl : s.cases.length ≤ 1048576) : Fn Tryz.prog 20 [.agg p.fr, .agg e.fr, .int .i64 k] (.bool (blkV p e k)) := by
  refine Fn.intro Tryz.func20 (by decide) rfl (rs := [.tmp 6]) rfl Tryz.ntmps20 (by simp) ?_; have hlt := (List.getElem?_eq_some_iff.1 hg).1
  have hgE : ∀ q, e.gs[k]'q = g := fun q => (List.getElem?_eq_some_iff.1 hg).2
  have hat := gor_at hk
  have hI := instr_s p g hat
  have hbv : blkV p e k = blkG p e k g := blkV_at hg hA
  unfold blkG at hbv
  generalize hi : atI p g = i at hI ho hbv hm
  obtain ⟨op, a, b, c⟩ := i; simp only [] at ho hbv hm; subst ho; subst hm; have hslt := (List.getElem?_eq_some_iff.1 hs).1
  have hsE : ∀ q, p.sels[m]'q = s := fun q => (List.getElem?_eq_some_iff.1 hs).2
  have hel := progOk_els (engOk_prog (asked_ex hA).choose_spec.choose_spec.2.2.2.1) hs
  have hrcv : rcV p e k = rdy e 0 s.cases := by rw [rcV_at hg hA]; unfold rcG; rw [hi]; simp [hs]
  rw [Int.toNat_natCast, hs] at hbv; simp at hbv; refine SW.rg fun K hK => ?_; simp -implicitDefEqProofs; repeat (refine And.intro (by clear hK; first | omega | (intros; simp_all; done) | (intros; grind)) ?_)
  refine hK _ ?_; clear hK K; refine SW.seqK fun K1 hK1 => ?_; refine SW.rg fun K hK => ?_; simp -implicitDefEqProofs [hg, hgE, hlt, hA, hs, hsE, hslt]
  repeat (refine And.intro (by clear hK; first | omega | (intros; simp_all; done) | (intros; grind)) ?_)
  first
    | refine CallQ.fzE (asked_s p e k h he) (by simp) ?_
    | refine CallK.fzE (asked_s p e k h he) (by simp) ?_
  simp -implicitDefEqProofs [hg, hgE, hlt, hA, hs, hsE, hslt]; repeat (refine And.intro (by clear hK; first | omega | (intros; simp_all; done) | (intros; grind)) ?_)
  refine hK _ ?_; clear hK K; refine SW.cond _ rfl (by simp) ?_ ?_
  case' refine_2 =>
   intro hb1
   first
   | (exfalso; simp at hb1; done)
   | (exfalso; simp at hb1; omega)
   | (
    refine SW.skip ?_; refine hK1 _ ?_; refine SW.drawK mixed [.q [(0, false), (1, false), (2, false), (3, false), (4, false), (5, false), (6, false), (7, true)], .b 8] (by kernel_rfl) rfl fun K hK => ?_
    simp -implicitDefEqProofs [hg, hgE, hlt, hA, hs, hsE, hslt]; repeat (refine And.intro (by clear hK; first | omega | (intros; simp_all; done) | (intros; grind)) ?_)
    first
      | refine CallQ.fzE hI (by simp [hgE]) ?_
      | refine CallK.fzE hI (by simp [hgE]) ?_
    simp -implicitDefEqProofs [hg, hgE, hlt, hA, hs, hsE, hslt]; repeat (refine And.intro (by clear hK; first | omega | (intros; simp_all; done) | (intros; grind)) ?_)
    refine hK _ ?_; clear hK K; refine SW.seqK fun K2 hK2 => ?_; refine SW.rg fun K hK => ?_; simp -implicitDefEqProofs [hg, hgE, hlt, hA, hs, hsE, hslt]
    repeat (refine And.intro (by clear hK; first | omega | (intros; simp_all; done) | (intros; grind)) ?_)
    refine hK _ ?_; clear hK K; refine SW.block ?_; refine SW.rg fun K hK => ?_; simp -implicitDefEqProofs [hg, hgE, hlt, hA, hs, hsE, hslt]
    repeat (refine And.intro (by clear hK; first | omega | (intros; simp_all; done) | (intros; grind)) ?_)
    refine hK _ ?_; clear hK K; refine SW.cond _ rfl (by simp) ?_ ?_
    case' refine_2 =>
     intro hb2
     first
     | (exfalso; simp at hb2; done)
     | (exfalso; simp at hb2; omega)
     | (
      refine SW.rg fun K hK => ?_; simp -implicitDefEqProofs [hg, hgE, hlt, hA, hs, hsE, hslt]; repeat (refine And.intro (by clear hK; first | omega | (intros; simp_all; done) | (intros; grind)) ?_)
      refine hK _ ?_; clear hK K; refine SW.cond _ rfl (by simp) ?_ ?_
      case' refine_2 =>
       intro hb3
       first
       | (exfalso; simp at hb3; done)
       | (exfalso; simp at hb3; omega)
       | (
        refine SW.rg fun K hK => ?_; simp -implicitDefEqProofs [hg, hgE, hlt, hA, hs, hsE, hslt]; repeat (refine And.intro (by clear hK; first | omega | (intros; simp_all; done) | (intros; grind)) ?_)
        refine hK _ ?_; clear hK K; refine SW.cond _ rfl (by simp) ?_ ?_
        case' refine_2 =>
         intro hb4
         first
         | (exfalso; simp at hb4; done)
         | (exfalso; simp at hb4; omega)
         | (
          refine SW.rg fun K hK => ?_; simp -implicitDefEqProofs [hg, hgE, hlt, hA, hs, hsE, hslt]; repeat (refine And.intro (by clear hK; first | omega | (intros; simp_all; done) | (intros; grind)) ?_)
          refine hK _ ?_; clear hK K; refine SW.cond _ rfl (by simp) ?_ ?_
          case' refine_2 =>
           intro hb5
           first
           | (exfalso; simp at hb5; done)
           | (exfalso; simp at hb5; omega)
           | (
            refine SW.skip ?_; refine hK2 _ ?_; refine SW.rg fun K hK => ?_; simp -implicitDefEqProofs; repeat (refine And.intro (by clear hK; first | omega | (intros; simp_all; done) | (intros; grind)) ?_)
            refine hK _ ?_; clear hK K; refine SW.ret ?_; simp [Ex.then, Ex.ib]
            all_goals first
              | (rw [hbv]; done)
              | (simp [hbv]; done)
              | (rw [hbv, Bool.eq_iff_iff]; simp; done)
              | (rw [hbv, Bool.eq_iff_iff]; simp; omega)
              | (rw [hbv, Bool.eq_iff_iff]; simp; grind)
              | (rw [hbv, Bool.eq_iff_iff, hrcv]; simp; grind)
              | fail)
          rotate_right
          case' _ =>
           intro hb5
           first
           | (exfalso; simp at hb5; done)
           | (exfalso; simp at hb5; omega)
           | (
            refine SW.rg fun K hK => ?_; simp -implicitDefEqProofs [hg, hgE, hlt, hA, hs, hsE, hslt]; repeat (refine And.intro (by clear hK; first | omega | (intros; simp_all; done) | (intros; grind)) ?_)
            first
              | refine CallQ.fzE (ready11_s p e m s he hs hl) (by simp) ?_
              | refine CallK.fzE (ready11_s p e m s he hs hl) (by simp) ?_
            simp -implicitDefEqProofs [hg, hgE, hlt, hA, hs, hsE, hslt]; repeat (refine And.intro (by clear hK; first | omega | (intros; simp_all; done) | (intros; grind)) ?_)
            refine hK _ ?_; clear hK K; refine SW.ret ?_; simp [Ex.then, Ex.ib]
            all_goals first
              | (rw [hbv]; done)
              | (simp [hbv]; done)
              | (rw [hbv, Bool.eq_iff_iff]; simp; done)
              | (rw [hbv, Bool.eq_iff_iff]; simp; omega)
              | (rw [hbv, Bool.eq_iff_iff]; simp; grind)
              | (rw [hbv, Bool.eq_iff_iff, hrcv]; simp; grind)
              | fail))
        rotate_right
        case' _ =>
         intro hb4
         first
         | (exfalso; simp at hb4; done)
         | (exfalso; simp at hb4; omega)
         | (
          refine SW.rg fun K hK => ?_; simp -implicitDefEqProofs [hg, hgE, hlt, hA, hs, hsE, hslt]; repeat (refine And.intro (by clear hK; first | omega | (intros; simp_all; done) | (intros; grind)) ?_)
          refine hK _ ?_; clear hK K; refine SW.rg fun K hK => ?_; simp -implicitDefEqProofs [hg, hgE, hlt, hA, hs, hsE, hslt]; repeat (refine And.intro (by clear hK; first | omega | (intros; simp_all; done) | (intros; grind)) ?_)
          refine hK _ ?_; clear hK K; refine SW.ret ?_; simp [Ex.then, Ex.ib]
          all_goals first
            | (rw [hbv]; done)
            | (simp [hbv]; done)
            | (rw [hbv, Bool.eq_iff_iff]; simp; done)
            | (rw [hbv, Bool.eq_iff_iff]; simp; omega)
            | (rw [hbv, Bool.eq_iff_iff]; simp; grind)
            | (rw [hbv, Bool.eq_iff_iff, hrcv]; simp; grind)
            | fail))
      rotate_right
      case' _ =>
       intro hb3
       first
       | (exfalso; simp at hb3; done)
       | (exfalso; simp at hb3; omega)
       | (
        refine SW.rg fun K hK => ?_; simp -implicitDefEqProofs [hg, hgE, hlt, hA, hs, hsE, hslt]; repeat (refine And.intro (by clear hK; first | omega | (intros; simp_all; done) | (intros; grind)) ?_)
        fail
        simp -implicitDefEqProofs [hg, hgE, hlt, hA, hs, hsE, hslt]; repeat (refine And.intro (by clear hK; first | omega | (intros; simp_all; done) | (intros; grind)) ?_)
        refine hK _ ?_; clear hK K; refine SW.ret ?_; simp [Ex.then, Ex.ib]
        all_goals first
          | (rw [hbv]; done)
          | (simp [hbv]; done)
          | (rw [hbv, Bool.eq_iff_iff]; simp; done)
          | (rw [hbv, Bool.eq_iff_iff]; simp; omega)
          | (rw [hbv, Bool.eq_iff_iff]; simp; grind)
          | (rw [hbv, Bool.eq_iff_iff, hrcv]; simp; grind)
          | fail))
    rotate_right
    case' _ =>
     intro hb2
     first
     | (exfalso; simp at hb2; done)
     | (exfalso; simp at hb2; omega)
     | (
      refine SW.rg fun K hK => ?_; simp -implicitDefEqProofs [hg, hgE, hlt, hA, hs, hsE, hslt]; repeat (refine And.intro (by clear hK; first | omega | (intros; simp_all; done) | (intros; grind)) ?_)
      fail
      simp -implicitDefEqProofs [hg, hgE, hlt, hA, hs, hsE, hslt]; repeat (refine And.intro (by clear hK; first | omega | (intros; simp_all; done) | (intros; grind)) ?_)
      refine hK _ ?_; clear hK K; refine SW.ret ?_; simp [Ex.then, Ex.ib]
      all_goals first
        | (rw [hbv]; done)
        | (simp [hbv]; done)
        | (rw [hbv, Bool.eq_iff_iff]; simp; done)
        | (rw [hbv, Bool.eq_iff_iff]; simp; omega)
        | (rw [hbv, Bool.eq_iff_iff]; simp; grind)
        | (rw [hbv, Bool.eq_iff_iff, hrcv]; simp; grind)
        | fail))
  rotate_right
  case' _ =>
   intro hb1
   first
   | (exfalso; simp at hb1; done)
   | (exfalso; simp at hb1; omega)
   | (
    refine SW.rg fun K hK => ?_; simp -implicitDefEqProofs; repeat (refine And.intro (by clear hK; first | omega | (intros; simp_all; done) | (intros; grind)) ?_)
    refine hK _ ?_; clear hK K; refine SW.ret ?_; simp [Ex.then, Ex.ib]
    all_goals first
      | (rw [hbv]; done)
      | (simp [hbv]; done)
      | (rw [hbv, Bool.eq_iff_iff]; simp; done)
      | (rw [hbv, Bool.eq_iff_iff]; simp; omega)
      | (rw [hbv, Bool.eq_iff_iff]; simp; grind)
      | (rw [hbv, Bool.eq_iff_iff, hrcv]; simp; grind)
      | fail)
set_option maxHeartbeats 1000000 in
theorem blk0_s (p : Prog) (e : Eng) (h : p.ok) (he : e.ok) (k : Nat) (g : Gor) (hg : e.gs[k]? = some g) (hA : asked p e k = true) (hk : gorOk p g = true) (ho : ¬ (atI p g).op = 8 ∧ ¬ (atI p g).op = 9 ∧ ¬ (atI p g).op = 11 ∧ ¬ (atI p g).op = 12) : Fn Tryz.prog 20 [.agg p.fr, .agg e.fr, .int .i64 k] (.bool (blkV p e k)) := by
  refine Fn.intro Tryz.func20 (by decide) rfl (rs := [.tmp 6]) rfl Tryz.ntmps20 (by simp) ?_; have hlt := (List.getElem?_eq_some_iff.1 hg).1
  have hgE : ∀ q, e.gs[k]'q = g := fun q => (List.getElem?_eq_some_iff.1 hg).2
  have hat := gor_at hk
  have hI := instr_s p g hat
  have hbv : blkV p e k = blkG p e k g := blkV_at hg hA
  unfold blkG at hbv
  generalize hi : atI p g = i at hI ho hbv
  obtain ⟨op, a, b, c⟩ := i; simp only [] at ho hbv; obtain ⟨n8, n9, n11, n12⟩ := ho; simp [n8, n9, n11, n12] at hbv; refine SW.rg fun K hK => ?_; simp -implicitDefEqProofs
  repeat (refine And.intro (by clear hK; first | omega | (intros; simp_all; done) | (intros; grind)) ?_)
  refine hK _ ?_; clear hK K; refine SW.seqK fun K1 hK1 => ?_; refine SW.rg fun K hK => ?_; simp -implicitDefEqProofs [hg, hgE, hlt, hA, n8, n9, n11, n12]
  repeat (refine And.intro (by clear hK; first | omega | (intros; simp_all; done) | (intros; grind)) ?_)
  first
    | refine CallQ.fzE (asked_s p e k h he) (by simp) ?_
    | refine CallK.fzE (asked_s p e k h he) (by simp) ?_
  simp -implicitDefEqProofs [hg, hgE, hlt, hA, n8, n9, n11, n12]; repeat (refine And.intro (by clear hK; first | omega | (intros; simp_all; done) | (intros; grind)) ?_)
  refine hK _ ?_; clear hK K; refine SW.cond _ rfl (by simp) ?_ ?_
  case' refine_2 =>
   intro hb1
   first
   | (exfalso; simp at hb1; done)
   | (exfalso; simp at hb1; omega)
   | (
    refine SW.skip ?_; refine hK1 _ ?_; refine SW.drawK mixed [.q [(0, false), (1, false), (2, false), (3, false), (4, false), (5, false), (6, false), (7, true)], .b 8] (by kernel_rfl) rfl fun K hK => ?_
    simp -implicitDefEqProofs [hg, hgE, hlt, hA, n8, n9, n11, n12]; repeat (refine And.intro (by clear hK; first | omega | (intros; simp_all; done) | (intros; grind)) ?_)
    first
      | refine CallQ.fzE hI (by simp [hgE]) ?_
      | refine CallK.fzE hI (by simp [hgE]) ?_
    simp -implicitDefEqProofs [hg, hgE, hlt, hA, n8, n9, n11, n12]; repeat (refine And.intro (by clear hK; first | omega | (intros; simp_all; done) | (intros; grind)) ?_)
    refine hK _ ?_; clear hK K; refine SW.seqK fun K2 hK2 => ?_; refine SW.rg fun K hK => ?_; simp -implicitDefEqProofs [hg, hgE, hlt, hA, n8, n9, n11, n12]
    repeat (refine And.intro (by clear hK; first | omega | (intros; simp_all; done) | (intros; grind)) ?_)
    refine hK _ ?_; clear hK K; refine SW.block ?_; refine SW.rg fun K hK => ?_; simp -implicitDefEqProofs [hg, hgE, hlt, hA, n8, n9, n11, n12]
    repeat (refine And.intro (by clear hK; first | omega | (intros; simp_all; done) | (intros; grind)) ?_)
    refine hK _ ?_; clear hK K; refine SW.cond _ rfl (by simp) ?_ ?_
    case' refine_2 =>
     intro hb2
     first
     | (exfalso; simp at hb2; done)
     | (exfalso; simp at hb2; omega)
     | (
      refine SW.rg fun K hK => ?_; simp -implicitDefEqProofs [hg, hgE, hlt, hA, n8, n9, n11, n12]; repeat (refine And.intro (by clear hK; first | omega | (intros; simp_all; done) | (intros; grind)) ?_)
      refine hK _ ?_; clear hK K; refine SW.cond _ rfl (by simp) ?_ ?_
      case' refine_2 =>
       intro hb3
       first
       | (exfalso; simp at hb3; done)
       | (exfalso; simp at hb3; omega)
       | (
        refine SW.rg fun K hK => ?_; simp -implicitDefEqProofs [hg, hgE, hlt, hA, n8, n9, n11, n12]; repeat (refine And.intro (by clear hK; first | omega | (intros; simp_all; done) | (intros; grind)) ?_)
        refine hK _ ?_; clear hK K; refine SW.cond _ rfl (by simp) ?_ ?_
        case' refine_2 =>
         intro hb4
         first
         | (exfalso; simp at hb4; done)
         | (exfalso; simp at hb4; omega)
         | (
          refine SW.rg fun K hK => ?_; simp -implicitDefEqProofs [hg, hgE, hlt, hA, n8, n9, n11, n12]; repeat (refine And.intro (by clear hK; first | omega | (intros; simp_all; done) | (intros; grind)) ?_)
          refine hK _ ?_; clear hK K; refine SW.cond _ rfl (by simp) ?_ ?_
          case' refine_2 =>
           intro hb5
           first
           | (exfalso; simp at hb5; done)
           | (exfalso; simp at hb5; omega)
           | (
            refine SW.skip ?_; refine hK2 _ ?_; refine SW.rg fun K hK => ?_; simp -implicitDefEqProofs; repeat (refine And.intro (by clear hK; first | omega | (intros; simp_all; done) | (intros; grind)) ?_)
            refine hK _ ?_; clear hK K; refine SW.ret ?_; simp [Ex.then, Ex.ib]
            all_goals first
              | (rw [hbv]; done)
              | (simp [hbv]; done)
              | (rw [hbv, Bool.eq_iff_iff]; simp; done)
              | (rw [hbv, Bool.eq_iff_iff]; simp; omega)
              | (rw [hbv, Bool.eq_iff_iff]; simp; grind)
              | fail)
          rotate_right
          case' _ =>
           intro hb5
           first
           | (exfalso; simp at hb5; done)
           | (exfalso; simp at hb5; omega)
           | (
            refine SW.rg fun K hK => ?_; simp -implicitDefEqProofs [hg, hgE, hlt, hA, n8, n9, n11, n12]; repeat (refine And.intro (by clear hK; first | omega | (intros; simp_all; done) | (intros; grind)) ?_)
            fail
            simp -implicitDefEqProofs [hg, hgE, hlt, hA, n8, n9, n11, n12]; repeat (refine And.intro (by clear hK; first | omega | (intros; simp_all; done) | (intros; grind)) ?_)
            refine hK _ ?_; clear hK K; refine SW.ret ?_; simp [Ex.then, Ex.ib]
            all_goals first
              | (rw [hbv]; done)
              | (simp [hbv]; done)
              | (rw [hbv, Bool.eq_iff_iff]; simp; done)
              | (rw [hbv, Bool.eq_iff_iff]; simp; omega)
              | (rw [hbv, Bool.eq_iff_iff]; simp; grind)
              | fail))
        rotate_right
        case' _ =>
         intro hb4
         first
         | (exfalso; simp at hb4; done)
         | (exfalso; simp at hb4; omega)
         | (
          refine SW.rg fun K hK => ?_; simp -implicitDefEqProofs [hg, hgE, hlt, hA, n8, n9, n11, n12]; repeat (refine And.intro (by clear hK; first | omega | (intros; simp_all; done) | (intros; grind)) ?_)
          refine hK _ ?_; clear hK K; refine SW.rg fun K hK => ?_; simp -implicitDefEqProofs [hg, hgE, hlt, hA, n8, n9, n11, n12]; repeat (refine And.intro (by clear hK; first | omega | (intros; simp_all; done) | (intros; grind)) ?_)
          refine hK _ ?_; clear hK K; refine SW.ret ?_; simp [Ex.then, Ex.ib]
          all_goals first
            | (rw [hbv]; done)
            | (simp [hbv]; done)
            | (rw [hbv, Bool.eq_iff_iff]; simp; done)
            | (rw [hbv, Bool.eq_iff_iff]; simp; omega)
            | (rw [hbv, Bool.eq_iff_iff]; simp; grind)
            | fail))
      rotate_right
      case' _ =>
       intro hb3
       first
       | (exfalso; simp at hb3; done)
       | (exfalso; simp at hb3; omega)
       | (
        refine SW.rg fun K hK => ?_; simp -implicitDefEqProofs [hg, hgE, hlt, hA, n8, n9, n11, n12]; repeat (refine And.intro (by clear hK; first | omega | (intros; simp_all; done) | (intros; grind)) ?_)
        fail
        simp -implicitDefEqProofs [hg, hgE, hlt, hA, n8, n9, n11, n12]; repeat (refine And.intro (by clear hK; first | omega | (intros; simp_all; done) | (intros; grind)) ?_)
        refine hK _ ?_; clear hK K; refine SW.ret ?_; simp [Ex.then, Ex.ib]
        all_goals first
          | (rw [hbv]; done)
          | (simp [hbv]; done)
          | (rw [hbv, Bool.eq_iff_iff]; simp; done)
          | (rw [hbv, Bool.eq_iff_iff]; simp; omega)
          | (rw [hbv, Bool.eq_iff_iff]; simp; grind)
          | fail))
    rotate_right
    case' _ =>
     intro hb2
     first
     | (exfalso; simp at hb2; done)
     | (exfalso; simp at hb2; omega)
     | (
      refine SW.rg fun K hK => ?_; simp -implicitDefEqProofs [hg, hgE, hlt, hA, n8, n9, n11, n12]; repeat (refine And.intro (by clear hK; first | omega | (intros; simp_all; done) | (intros; grind)) ?_)
      fail
      simp -implicitDefEqProofs [hg, hgE, hlt, hA, n8, n9, n11, n12]; repeat (refine And.intro (by clear hK; first | omega | (intros; simp_all; done) | (intros; grind)) ?_)
      refine hK _ ?_; clear hK K; refine SW.ret ?_; simp [Ex.then, Ex.ib]
      all_goals first
        | (rw [hbv]; done)
        | (simp [hbv]; done)
        | (rw [hbv, Bool.eq_iff_iff]; simp; done)
        | (rw [hbv, Bool.eq_iff_iff]; simp; omega)
        | (rw [hbv, Bool.eq_iff_iff]; simp; grind)
        | fail))
  rotate_right
  case' _ =>
   intro hb1
   first
   | (exfalso; simp at hb1; done)
   | (exfalso; simp at hb1; omega)
   | (
    refine SW.rg fun K hK => ?_; simp -implicitDefEqProofs; repeat (refine And.intro (by clear hK; first | omega | (intros; simp_all; done) | (intros; grind)) ?_)
    refine hK _ ?_; clear hK K; refine SW.ret ?_; simp [Ex.then, Ex.ib]
    all_goals first
      | (rw [hbv]; done)
      | (simp [hbv]; done)
      | (rw [hbv, Bool.eq_iff_iff]; simp; done)
      | (rw [hbv, Bool.eq_iff_iff]; simp; omega)
      | (rw [hbv, Bool.eq_iff_iff]; simp; grind)
      | fail)
set_option maxHeartbeats 1000000 in
theorem blkN_s (p : Prog) (e : Eng) (h : p.ok) (he : e.ok) (n : Int) (hA : asked p e n = false) : Fn Tryz.prog 20 [.agg p.fr, .agg e.fr, .int .i64 n] (.bool (blkV p e n)) := by
  refine Fn.intro Tryz.func20 (by decide) rfl (rs := [.tmp 6]) rfl Tryz.ntmps20 (by simp) ?_; refine SW.rg fun K hK => ?_; simp -implicitDefEqProofs
  repeat (refine And.intro (by clear hK; first | omega | (intros; simp_all; done) | (intros; grind)) ?_)
  refine hK _ ?_; clear hK K; refine SW.seqK fun K1 hK1 => ?_; refine SW.rg fun K hK => ?_; simp -implicitDefEqProofs [hA]; repeat (refine And.intro (by clear hK; first | omega | (intros; simp_all; done) | (intros; grind)) ?_)
  first
    | refine CallQ.fzE (asked_s p e n h he) (by simp) ?_
    | refine CallK.fzE (asked_s p e n h he) (by simp) ?_
  simp -implicitDefEqProofs [hA]; repeat (refine And.intro (by clear hK; first | omega | (intros; simp_all; done) | (intros; grind)) ?_)
  refine hK _ ?_; clear hK K; refine SW.cond _ rfl (by simp) ?_ ?_
  case' refine_2 =>
   intro hb1
   first
   | (exfalso; simp at hb1; done)
   | (exfalso; simp at hb1; omega)
   | (
    refine SW.skip ?_; refine hK1 _ ?_; refine SW.drawK mixed [.q [(0, false), (1, false), (2, false), (3, false), (4, false), (5, false), (6, false), (7, true)], .b 8] (by kernel_rfl) rfl fun K hK => ?_; simp -implicitDefEqProofs
    repeat (refine And.intro (by clear hK; first | omega | (intros; simp_all; done) | (intros; grind)) ?_)
    fail
    simp -implicitDefEqProofs; repeat (refine And.intro (by clear hK; first | omega | (intros; simp_all; done) | (intros; grind)) ?_)
    refine hK _ ?_; clear hK K; refine SW.seqK fun K2 hK2 => ?_; refine SW.rg fun K hK => ?_; simp -implicitDefEqProofs; repeat (refine And.intro (by clear hK; first | omega | (intros; simp_all; done) | (intros; grind)) ?_)
    refine hK _ ?_; clear hK K; refine SW.block ?_; refine SW.rg fun K hK => ?_; simp -implicitDefEqProofs; repeat (refine And.intro (by clear hK; first | omega | (intros; simp_all; done) | (intros; grind)) ?_)
    refine hK _ ?_; clear hK K; refine SW.cond _ rfl (by simp) ?_ ?_
    case' refine_2 =>
     intro hb2
     first
     | (exfalso; simp at hb2; done)
     | (exfalso; simp at hb2; omega)
     | (
      refine SW.rg fun K hK => ?_; simp -implicitDefEqProofs; repeat (refine And.intro (by clear hK; first | omega | (intros; simp_all; done) | (intros; grind)) ?_)
      refine hK _ ?_; clear hK K; refine SW.cond _ rfl (by simp) ?_ ?_
      case' refine_2 =>
       intro hb3
       first
       | (exfalso; simp at hb3; done)
       | (exfalso; simp at hb3; omega)
       | (
        refine SW.rg fun K hK => ?_; simp -implicitDefEqProofs; repeat (refine And.intro (by clear hK; first | omega | (intros; simp_all; done) | (intros; grind)) ?_)
        refine hK _ ?_; clear hK K; refine SW.cond _ rfl (by simp) ?_ ?_
        case' refine_2 =>
         intro hb4
         first
         | (exfalso; simp at hb4; done)
         | (exfalso; simp at hb4; omega)
         | (
          refine SW.rg fun K hK => ?_; simp -implicitDefEqProofs; repeat (refine And.intro (by clear hK; first | omega | (intros; simp_all; done) | (intros; grind)) ?_)
          refine hK _ ?_; clear hK K; refine SW.cond _ rfl (by simp) ?_ ?_
          case' refine_2 =>
           intro hb5
           first
           | (exfalso; simp at hb5; done)
           | (exfalso; simp at hb5; omega)
           | (
            refine SW.skip ?_; refine hK2 _ ?_; refine SW.rg fun K hK => ?_; simp -implicitDefEqProofs; repeat (refine And.intro (by clear hK; first | omega | (intros; simp_all; done) | (intros; grind)) ?_)
            refine hK _ ?_; clear hK K; refine SW.ret ?_; simp [Ex.then, Ex.ib]
            all_goals (simp [blkV, hA]))
          rotate_right
          case' _ =>
           intro hb5
           first
           | (exfalso; simp at hb5; done)
           | (exfalso; simp at hb5; omega)
           | (
            refine SW.rg fun K hK => ?_; simp -implicitDefEqProofs; repeat (refine And.intro (by clear hK; first | omega | (intros; simp_all; done) | (intros; grind)) ?_)
            fail
            simp -implicitDefEqProofs; repeat (refine And.intro (by clear hK; first | omega | (intros; simp_all; done) | (intros; grind)) ?_)
            refine hK _ ?_; clear hK K; refine SW.ret ?_; simp [Ex.then, Ex.ib]
            all_goals (simp [blkV, hA])))
        rotate_right
        case' _ =>
         intro hb4
         first
         | (exfalso; simp at hb4; done)
         | (exfalso; simp at hb4; omega)
         | (
          refine SW.rg fun K hK => ?_; simp -implicitDefEqProofs; repeat (refine And.intro (by clear hK; first | omega | (intros; simp_all; done) | (intros; grind)) ?_)
          refine hK _ ?_; clear hK K; refine SW.rg fun K hK => ?_; simp -implicitDefEqProofs; repeat (refine And.intro (by clear hK; first | omega | (intros; simp_all; done) | (intros; grind)) ?_)
          refine hK _ ?_; clear hK K; refine SW.ret ?_; simp [Ex.then, Ex.ib]
          all_goals (simp [blkV, hA])))
      rotate_right
      case' _ =>
       intro hb3
       first
       | (exfalso; simp at hb3; done)
       | (exfalso; simp at hb3; omega)
       | (
        refine SW.rg fun K hK => ?_; simp -implicitDefEqProofs; repeat (refine And.intro (by clear hK; first | omega | (intros; simp_all; done) | (intros; grind)) ?_)
        fail
        simp -implicitDefEqProofs; repeat (refine And.intro (by clear hK; first | omega | (intros; simp_all; done) | (intros; grind)) ?_)
        refine hK _ ?_; clear hK K; refine SW.ret ?_; simp [Ex.then, Ex.ib]
        all_goals (simp [blkV, hA])))
    rotate_right
    case' _ =>
     intro hb2
     first
     | (exfalso; simp at hb2; done)
     | (exfalso; simp at hb2; omega)
     | (
      refine SW.rg fun K hK => ?_; simp -implicitDefEqProofs; repeat (refine And.intro (by clear hK; first | omega | (intros; simp_all; done) | (intros; grind)) ?_)
      fail
      simp -implicitDefEqProofs; repeat (refine And.intro (by clear hK; first | omega | (intros; simp_all; done) | (intros; grind)) ?_)
      refine hK _ ?_; clear hK K; refine SW.ret ?_; simp [Ex.then, Ex.ib]
      all_goals (simp [blkV, hA])))
  rotate_right
  case' _ =>
   intro hb1
   first
   | (exfalso; simp at hb1; done)
   | (exfalso; simp at hb1; omega)
   | (
    refine SW.rg fun K hK => ?_; simp -implicitDefEqProofs; repeat (refine And.intro (by clear hK; first | omega | (intros; simp_all; done) | (intros; grind)) ?_)
    refine hK _ ?_; clear hK K; refine SW.ret ?_; simp [Ex.then, Ex.ib]
    all_goals (simp [blkV, hA]))
theorem blk_s (p : Prog) (e : Eng) (n : Int) (h : p.ok) (he : e.ok) : Fn Tryz.prog 20 [.agg p.fr, .agg e.fr, .int .i64 n] (.bool (blkV p e n)) := by
  cases hA : asked p e n with
  | false => exact blkN_s p e h he n hA
  | true =>
    obtain ⟨k, g, rfl, hg, _, hE, hk⟩ := asked_ex hA; by_cases h8 : (atI p g).op = 8
    · exact blk8_s p e h he k g hg hA hk h8
    by_cases h9 : (atI p g).op = 9
    · exact blk9_s p e h he k g hg hA hk h9
    by_cases h11 : (atI p g).op = 11
    · obtain ⟨m, s, hm, hs, hl⟩ := asked_sel (e := e) (k := k) h hk h11
      exact blk11_s p e h he k g hg hA hk h11 m s hm hs hl
    by_cases h12 : (atI p g).op = 12
    · have h1 := at_mu (engOk_prog hE) (gor_at hk) h12
      have h2 := engOk_mus hE
      exact blk12_s p e h he k g hg hA hk h12 (atI p g).a.toNat (e.mus[(atI p g).a.toNat]'(by omega)) (by omega) (List.getElem?_eq_getElem (by omega))
    · exact blk0_s p e h he k g hg hA hk ⟨h8, h9, h11, h12⟩
theorem rc_i (p : Prog) (e : Eng) (n : Int) (h : p.ok) (he : e.ok) : Fn Tryz.prog 23 [.agg p.fr, .agg e.fr, .int .i64 n] (.own 1 (IntS (rcV p e n))) := by
  cases hA : asked p e n with
  | false =>
    have e0 : rcV p e n = [] := by unfold rcV; rw [hA]; rfl
    rw [e0]
    exact Fn.ownNilP 1 (rcN_i p e h he n hA)
  | true =>
    obtain ⟨k, g, rfl, hg, _, _, hk⟩ := asked_ex hA; rw [rcV_at hg hA]; by_cases ho : (atI p g).op = 11
    · obtain ⟨m, s, hm, hs, hl⟩ := asked_sel (e := e) (k := k) h hk ho
      have e1 : rcG p e g = rdy e 0 s.cases := by
        unfold rcG; rw [if_pos ho, hm, Int.toNat_natCast, hs]
      rw [e1]; exact rcY_i p e h he k g hg hA hk ho m s hm hs hl
    · have e1 : rcG p e g = [] := by unfold rcG; rw [if_neg ho]
      rw [e1]; exact Fn.ownNilP 1 (rcM_i p e h he k g hg hA hk ho)
set_option maxHeartbeats 1000000 in
theorem choices_i (p : Prog) (e : Eng) (n : Int) (h : p.ok) (he : e.ok) : Fn Tryz.prog 19 [.agg p.fr, .agg e.fr, .int .i64 n] (.int .i64 (choicesV p e n)) := by
  refine Fn.intro Tryz.func19 (by decide) rfl (rs := [.tmp 6]) rfl Tryz.ntmps19 (by simp) ?_; have hrl := rcV_len (e := e) (n := n) h
  refine SW.rg fun K hK => ?_; simp -implicitDefEqProofs; repeat (refine And.intro (by clear hK; first | omega | (intros; simp_all; done) | (intros; grind)) ?_)
  refine hK _ ?_; clear hK K; refine SW.seqK fun K1 hK1 => ?_; refine SW.rg fun K hK => ?_; simp -implicitDefEqProofs; repeat (refine And.intro (by clear hK; first | omega | (intros; simp_all; done) | (intros; grind)) ?_)
  first
    | refine CallQ.fzE (asked_i p e n h he) (by simp) ?_
    | refine CallK.fzE (asked_i p e n h he) (by simp) ?_
  simp -implicitDefEqProofs; repeat (refine And.intro (by clear hK; first | omega | (intros; simp_all; done) | (intros; grind)) ?_)
  refine hK _ ?_; clear hK K; refine SW.cond _ rfl (by simp) ?_ ?_
  case' refine_2 =>
   intro hb1
   first
   | (exfalso; simp at hb1; done)
   | (exfalso; simp at hb1; omega)
   | (
    have hA : asked p e n = true := by simpa using hb1
    refine SW.skip ?_; refine hK1 _ ?_; refine SW.rg fun K hK => ?_; simp -implicitDefEqProofs; repeat (refine And.intro (by clear hK; first | omega | (intros; simp_all; done) | (intros; grind)) ?_)
    first
      | refine CallQ.fzE (rc_i p e n h he) (by simp) ?_
      | refine CallK.fzE (rc_i p e n h he) (by simp) ?_
    simp -implicitDefEqProofs; repeat (refine And.intro (by clear hK; first | omega | (intros; simp_all; done) | (intros; grind)) ?_)
    refine hK _ ?_; clear hK K; refine SW.ret ?_; simp [Ex.then, Ex.ib]
    all_goals first
      | (simp [choicesV, hA]; done)
      | (simp [choicesV, hA, hz]; done)
      | (simp [choicesV, hA]; omega)
      | (simp only [choicesV, hA]; simp; omega)
      | (simp [choicesV, hA]; split <;> omega)
      | fail)
  rotate_right
  case' _ =>
   intro hb1
   first
   | (exfalso; simp at hb1; done)
   | (exfalso; simp at hb1; omega)
   | (
    have hA : asked p e n = false := by simpa using hb1
    refine SW.rg fun K hK => ?_; simp -implicitDefEqProofs; repeat (refine And.intro (by clear hK; first | omega | (intros; simp_all; done) | (intros; grind)) ?_)
    refine hK _ ?_; clear hK K; refine SW.ret ?_; simp [Ex.then, Ex.ib]
    all_goals first
      | (simp [choicesV, hA]; done)
      | (simp [choicesV, hA, hz]; done)
      | (simp [choicesV, hA]; omega)
      | (simp only [choicesV, hA]; simp; omega)
      | (simp [choicesV, hA]; split <;> omega)
      | fail)
set_option maxHeartbeats 1000000 in
theorem blk8_i (p : Prog) (e : Eng) (h : p.ok) (he : e.ok) (k : Nat) (g : Gor) (hg : e.gs[k]? = some g) (hA : asked p e k = true) (hk : gorOk p g = true) (ho : (atI p g).op = 8) : Fn Tryz.prog 21 [.agg p.fr, .agg e.fr, .int .i64 k] (.bool (blkV p e k)) := by
  refine Fn.intro Tryz.func21 (by decide) rfl (rs := [.tmp 6]) rfl Tryz.ntmps21 (by simp) ?_; have hlt := (List.getElem?_eq_some_iff.1 hg).1
  have hgE : ∀ q, e.gs[k]'q = g := fun q => (List.getElem?_eq_some_iff.1 hg).2
  have hat := gor_at hk
  have hI := instr_i p g hat
  have hbv : blkV p e k = blkG p e k g := blkV_at hg hA
  unfold blkG at hbv
  generalize hi : atI p g = i at hI ho hbv
  obtain ⟨op, a, b, c⟩ := i; simp only [] at ho hbv; subst ho; simp at hbv; refine SW.rg fun K hK => ?_; simp -implicitDefEqProofs; repeat (refine And.intro (by clear hK; first | omega | (intros; simp_all; done) | (intros; grind)) ?_)
  refine hK _ ?_; clear hK K; refine SW.seqK fun K1 hK1 => ?_; refine SW.rg fun K hK => ?_; simp -implicitDefEqProofs [hg, hgE, hlt, hA]; repeat (refine And.intro (by clear hK; first | omega | (intros; simp_all; done) | (intros; grind)) ?_)
  first
    | refine CallQ.fzE (asked_i p e k h he) (by simp) ?_
    | refine CallK.fzE (asked_i p e k h he) (by simp) ?_
  simp -implicitDefEqProofs [hg, hgE, hlt, hA]; repeat (refine And.intro (by clear hK; first | omega | (intros; simp_all; done) | (intros; grind)) ?_)
  refine hK _ ?_; clear hK K; refine SW.cond _ rfl (by simp) ?_ ?_
  case' refine_2 =>
   intro hb1
   first
   | (exfalso; simp at hb1; done)
   | (exfalso; simp at hb1; omega)
   | (
    refine SW.skip ?_; refine hK1 _ ?_; refine SW.drawK mixed [.q [(0, false), (1, false), (2, false), (3, false), (4, false), (5, false), (6, false), (7, true)], .b 8] (by kernel_rfl) rfl fun K hK => ?_
    simp -implicitDefEqProofs [hg, hgE, hlt, hA]; repeat (refine And.intro (by clear hK; first | omega | (intros; simp_all; done) | (intros; grind)) ?_)
    first
      | refine CallQ.fzE hI (by simp [hgE]) ?_
      | refine CallK.fzE hI (by simp [hgE]) ?_
    simp -implicitDefEqProofs [hg, hgE, hlt, hA]; repeat (refine And.intro (by clear hK; first | omega | (intros; simp_all; done) | (intros; grind)) ?_)
    refine hK _ ?_; clear hK K; refine SW.seqK fun K2 hK2 => ?_; refine SW.rg fun K hK => ?_; simp -implicitDefEqProofs [hg, hgE, hlt, hA]
    repeat (refine And.intro (by clear hK; first | omega | (intros; simp_all; done) | (intros; grind)) ?_)
    refine hK _ ?_; clear hK K; refine SW.block ?_; refine SW.seqK fun K3 hK3 => ?_; refine SW.rg fun K hK => ?_; simp -implicitDefEqProofs [hg, hgE, hlt, hA]
    repeat (refine And.intro (by clear hK; first | omega | (intros; simp_all; done) | (intros; grind)) ?_)
    refine hK _ ?_; clear hK K; refine SW.cond _ rfl (by simp) ?_ ?_
    case' refine_2 =>
     intro hb2
     first
     | (exfalso; simp at hb2; done)
     | (exfalso; simp at hb2; omega)
     | (
      refine SW.regionE fun K hK => ?_; simp -implicitDefEqProofs [hg, hgE, hlt, hA]; repeat (refine And.intro (by clear hK; first | omega | (intros; simp_all; done) | (intros; grind)) ?_)
      refine hK _ ?_
      clear hK K)
    rotate_right
    case' _ =>
     intro hb2
     first
     | (exfalso; simp at hb2; done)
     | (exfalso; simp at hb2; omega)
     | (
      refine SW.skip ?_)
    all_goals (
     refine hK3 _ ?_; refine SW.cond _ rfl (by simp) ?_ ?_
     case' refine_2 =>
      intro hb3
      first
      | (exfalso; simp at hb3; done)
      | (exfalso; simp at hb3; omega)
      | (
       refine SW.rg fun K hK => ?_; simp -implicitDefEqProofs [hg, hgE, hlt, hA]; repeat (refine And.intro (by clear hK; first | omega | (intros; simp_all; done) | (intros; grind)) ?_)
       refine hK _ ?_; clear hK K; refine SW.cond _ rfl (by simp) ?_ ?_
       case' refine_2 =>
        intro hb4
        first
        | (exfalso; simp at hb4; done)
        | (exfalso; simp at hb4; omega)
        | (
         refine SW.rg fun K hK => ?_; simp -implicitDefEqProofs [hg, hgE, hlt, hA]; repeat (refine And.intro (by clear hK; first | omega | (intros; simp_all; done) | (intros; grind)) ?_)
         refine hK _ ?_; clear hK K; refine SW.cond _ rfl (by simp) ?_ ?_
         case' refine_2 =>
          intro hb5
          first
          | (exfalso; simp at hb5; done)
          | (exfalso; simp at hb5; omega)
          | (
           refine SW.skip ?_; refine hK2 _ ?_; refine SW.rg fun K hK => ?_; simp -implicitDefEqProofs [hg, hgE, hlt, hA]; repeat (refine And.intro (by clear hK; first | omega | (intros; simp_all; done) | (intros; grind)) ?_)
           refine hK _ ?_; clear hK K; refine SW.ret ?_; simp [Ex.then, Ex.ib]
           all_goals first
             | (rw [hbv]; done)
             | (simp [hbv]; done)
             | (rw [hbv, Bool.eq_iff_iff]; simp; done)
             | (rw [hbv, Bool.eq_iff_iff]; simp; omega)
             | (rw [hbv, Bool.eq_iff_iff]; simp; grind)
             | fail)
         rotate_right
         case' _ =>
          intro hb5
          first
          | (exfalso; simp at hb5; done)
          | (exfalso; simp at hb5; omega)
          | (
           refine SW.rg fun K hK => ?_; simp -implicitDefEqProofs [hg, hgE, hlt, hA]; repeat (refine And.intro (by clear hK; first | omega | (intros; simp_all; done) | (intros; grind)) ?_)
           fail
           simp -implicitDefEqProofs [hg, hgE, hlt, hA]; repeat (refine And.intro (by clear hK; first | omega | (intros; simp_all; done) | (intros; grind)) ?_)
           refine hK _ ?_; clear hK K; refine SW.ret ?_; simp [Ex.then, Ex.ib]
           all_goals first
             | (rw [hbv]; done)
             | (simp [hbv]; done)
             | (rw [hbv, Bool.eq_iff_iff]; simp; done)
             | (rw [hbv, Bool.eq_iff_iff]; simp; omega)
             | (rw [hbv, Bool.eq_iff_iff]; simp; grind)
             | fail))
       rotate_right
       case' _ =>
        intro hb4
        first
        | (exfalso; simp at hb4; done)
        | (exfalso; simp at hb4; omega)
        | (
         refine SW.rg fun K hK => ?_; simp -implicitDefEqProofs [hg, hgE, hlt, hA]; repeat (refine And.intro (by clear hK; first | omega | (intros; simp_all; done) | (intros; grind)) ?_)
         refine hK _ ?_; clear hK K; refine SW.ret ?_; simp [Ex.then, Ex.ib]
         all_goals first
           | (rw [hbv]; done)
           | (simp [hbv]; done)
           | (rw [hbv, Bool.eq_iff_iff]; simp; done)
           | (rw [hbv, Bool.eq_iff_iff]; simp; omega)
           | (rw [hbv, Bool.eq_iff_iff]; simp; grind)
           | fail))
     rotate_right
     case' _ =>
      intro hb3
      first
      | (exfalso; simp at hb3; done)
      | (exfalso; simp at hb3; omega)
      | (
       refine SW.rg fun K hK => ?_; simp -implicitDefEqProofs [hg, hgE, hlt, hA]; repeat (refine And.intro (by clear hK; first | omega | (intros; simp_all; done) | (intros; grind)) ?_)
       first
         | refine CallQ.fzE (caseReady_i e ⟨true, a, 0, 0, 0⟩ he) (by simp) ?_
         | refine CallK.fzE (caseReady_i e ⟨true, a, 0, 0, 0⟩ he) (by simp) ?_
       simp -implicitDefEqProofs [hg, hgE, hlt, hA]; repeat (refine And.intro (by clear hK; first | omega | (intros; simp_all; done) | (intros; grind)) ?_)
       refine hK _ ?_; clear hK K; refine SW.ret ?_; simp [Ex.then, Ex.ib]
       all_goals first
         | (rw [hbv]; done)
         | (simp [hbv]; done)
         | (rw [hbv, Bool.eq_iff_iff]; simp; done)
         | (rw [hbv, Bool.eq_iff_iff]; simp; omega)
         | (rw [hbv, Bool.eq_iff_iff]; simp; grind)
         | fail)))
  rotate_right
  case' _ =>
   intro hb1
   first
   | (exfalso; simp at hb1; done)
   | (exfalso; simp at hb1; omega)
   | (
    refine SW.rg fun K hK => ?_; simp -implicitDefEqProofs; repeat (refine And.intro (by clear hK; first | omega | (intros; simp_all; done) | (intros; grind)) ?_)
    refine hK _ ?_; clear hK K; refine SW.ret ?_; simp [Ex.then, Ex.ib]
    all_goals first
      | (rw [hbv]; done)
      | (simp [hbv]; done)
      | (rw [hbv, Bool.eq_iff_iff]; simp; done)
      | (rw [hbv, Bool.eq_iff_iff]; simp; omega)
      | (rw [hbv, Bool.eq_iff_iff]; simp; grind)
      | fail)
set_option maxHeartbeats 1000000 in
theorem blk9_i (p : Prog) (e : Eng) (h : p.ok) (he : e.ok) (k : Nat) (g : Gor) (hg : e.gs[k]? = some g) (hA : asked p e k = true) (hk : gorOk p g = true) (ho : (atI p g).op = 9) : Fn Tryz.prog 21 [.agg p.fr, .agg e.fr, .int .i64 k] (.bool (blkV p e k)) := by
  refine Fn.intro Tryz.func21 (by decide) rfl (rs := [.tmp 6]) rfl Tryz.ntmps21 (by simp) ?_; have hlt := (List.getElem?_eq_some_iff.1 hg).1
  have hgE : ∀ q, e.gs[k]'q = g := fun q => (List.getElem?_eq_some_iff.1 hg).2
  have hat := gor_at hk
  have hI := instr_i p g hat
  have hbv : blkV p e k = blkG p e k g := blkV_at hg hA
  unfold blkG at hbv
  generalize hi : atI p g = i at hI ho hbv
  obtain ⟨op, a, b, c⟩ := i; simp only [] at ho hbv; subst ho; simp at hbv; refine SW.rg fun K hK => ?_; simp -implicitDefEqProofs; repeat (refine And.intro (by clear hK; first | omega | (intros; simp_all; done) | (intros; grind)) ?_)
  refine hK _ ?_; clear hK K; refine SW.seqK fun K1 hK1 => ?_; refine SW.rg fun K hK => ?_; simp -implicitDefEqProofs [hg, hgE, hlt, hA]; repeat (refine And.intro (by clear hK; first | omega | (intros; simp_all; done) | (intros; grind)) ?_)
  first
    | refine CallQ.fzE (asked_i p e k h he) (by simp) ?_
    | refine CallK.fzE (asked_i p e k h he) (by simp) ?_
  simp -implicitDefEqProofs [hg, hgE, hlt, hA]; repeat (refine And.intro (by clear hK; first | omega | (intros; simp_all; done) | (intros; grind)) ?_)
  refine hK _ ?_; clear hK K; refine SW.cond _ rfl (by simp) ?_ ?_
  case' refine_2 =>
   intro hb1
   first
   | (exfalso; simp at hb1; done)
   | (exfalso; simp at hb1; omega)
   | (
    refine SW.skip ?_; refine hK1 _ ?_; refine SW.drawK mixed [.q [(0, false), (1, false), (2, false), (3, false), (4, false), (5, false), (6, false), (7, true)], .b 8] (by kernel_rfl) rfl fun K hK => ?_
    simp -implicitDefEqProofs [hg, hgE, hlt, hA]; repeat (refine And.intro (by clear hK; first | omega | (intros; simp_all; done) | (intros; grind)) ?_)
    first
      | refine CallQ.fzE hI (by simp [hgE]) ?_
      | refine CallK.fzE hI (by simp [hgE]) ?_
    simp -implicitDefEqProofs [hg, hgE, hlt, hA]; repeat (refine And.intro (by clear hK; first | omega | (intros; simp_all; done) | (intros; grind)) ?_)
    refine hK _ ?_; clear hK K; refine SW.seqK fun K2 hK2 => ?_; refine SW.rg fun K hK => ?_; simp -implicitDefEqProofs [hg, hgE, hlt, hA]
    repeat (refine And.intro (by clear hK; first | omega | (intros; simp_all; done) | (intros; grind)) ?_)
    refine hK _ ?_; clear hK K; refine SW.block ?_; refine SW.seqK fun K3 hK3 => ?_; refine SW.rg fun K hK => ?_; simp -implicitDefEqProofs [hg, hgE, hlt, hA]
    repeat (refine And.intro (by clear hK; first | omega | (intros; simp_all; done) | (intros; grind)) ?_)
    refine hK _ ?_; clear hK K; refine SW.cond _ rfl (by simp) ?_ ?_
    case' refine_2 =>
     intro hb2
     first
     | (exfalso; simp at hb2; done)
     | (exfalso; simp at hb2; omega)
     | (
      refine SW.regionE fun K hK => ?_; simp -implicitDefEqProofs [hg, hgE, hlt, hA]; repeat (refine And.intro (by clear hK; first | omega | (intros; simp_all; done) | (intros; grind)) ?_)
      refine hK _ ?_
      clear hK K)
    rotate_right
    case' _ =>
     intro hb2
     first
     | (exfalso; simp at hb2; done)
     | (exfalso; simp at hb2; omega)
     | (
      refine SW.skip ?_)
    all_goals (
     refine hK3 _ ?_; refine SW.cond _ rfl (by simp) ?_ ?_
     case' refine_2 =>
      intro hb3
      first
      | (exfalso; simp at hb3; done)
      | (exfalso; simp at hb3; omega)
      | (
       refine SW.rg fun K hK => ?_; simp -implicitDefEqProofs [hg, hgE, hlt, hA]; repeat (refine And.intro (by clear hK; first | omega | (intros; simp_all; done) | (intros; grind)) ?_)
       refine hK _ ?_; clear hK K; refine SW.cond _ rfl (by simp) ?_ ?_
       case' refine_2 =>
        intro hb4
        first
        | (exfalso; simp at hb4; done)
        | (exfalso; simp at hb4; omega)
        | (
         refine SW.rg fun K hK => ?_; simp -implicitDefEqProofs [hg, hgE, hlt, hA]; repeat (refine And.intro (by clear hK; first | omega | (intros; simp_all; done) | (intros; grind)) ?_)
         refine hK _ ?_; clear hK K; refine SW.cond _ rfl (by simp) ?_ ?_
         case' refine_2 =>
          intro hb5
          first
          | (exfalso; simp at hb5; done)
          | (exfalso; simp at hb5; omega)
          | (
           refine SW.skip ?_; refine hK2 _ ?_; refine SW.rg fun K hK => ?_; simp -implicitDefEqProofs [hg, hgE, hlt, hA]; repeat (refine And.intro (by clear hK; first | omega | (intros; simp_all; done) | (intros; grind)) ?_)
           refine hK _ ?_; clear hK K; refine SW.ret ?_; simp [Ex.then, Ex.ib]
           all_goals first
             | (rw [hbv]; done)
             | (simp [hbv]; done)
             | (rw [hbv, Bool.eq_iff_iff]; simp; done)
             | (rw [hbv, Bool.eq_iff_iff]; simp; omega)
             | (rw [hbv, Bool.eq_iff_iff]; simp; grind)
             | fail)
         rotate_right
         case' _ =>
          intro hb5
          first
          | (exfalso; simp at hb5; done)
          | (exfalso; simp at hb5; omega)
          | (
           refine SW.rg fun K hK => ?_; simp -implicitDefEqProofs [hg, hgE, hlt, hA]; repeat (refine And.intro (by clear hK; first | omega | (intros; simp_all; done) | (intros; grind)) ?_)
           fail
           simp -implicitDefEqProofs [hg, hgE, hlt, hA]; repeat (refine And.intro (by clear hK; first | omega | (intros; simp_all; done) | (intros; grind)) ?_)
           refine hK _ ?_; clear hK K; refine SW.ret ?_; simp [Ex.then, Ex.ib]
           all_goals first
             | (rw [hbv]; done)
             | (simp [hbv]; done)
             | (rw [hbv, Bool.eq_iff_iff]; simp; done)
             | (rw [hbv, Bool.eq_iff_iff]; simp; omega)
             | (rw [hbv, Bool.eq_iff_iff]; simp; grind)
             | fail))
       rotate_right
       case' _ =>
        intro hb4
        first
        | (exfalso; simp at hb4; done)
        | (exfalso; simp at hb4; omega)
        | (
         refine SW.rg fun K hK => ?_; simp -implicitDefEqProofs [hg, hgE, hlt, hA]; repeat (refine And.intro (by clear hK; first | omega | (intros; simp_all; done) | (intros; grind)) ?_)
         refine hK _ ?_; clear hK K; refine SW.ret ?_; simp [Ex.then, Ex.ib]
         all_goals first
           | (rw [hbv]; done)
           | (simp [hbv]; done)
           | (rw [hbv, Bool.eq_iff_iff]; simp; done)
           | (rw [hbv, Bool.eq_iff_iff]; simp; omega)
           | (rw [hbv, Bool.eq_iff_iff]; simp; grind)
           | fail))
     rotate_right
     case' _ =>
      intro hb3
      first
      | (exfalso; simp at hb3; done)
      | (exfalso; simp at hb3; omega)
      | (
       refine SW.rg fun K hK => ?_; simp -implicitDefEqProofs [hg, hgE, hlt, hA]; repeat (refine And.intro (by clear hK; first | omega | (intros; simp_all; done) | (intros; grind)) ?_)
       first
         | refine CallQ.fzE (caseReady_i e ⟨false, a, 0, 0, 0⟩ he) (by simp) ?_
         | refine CallK.fzE (caseReady_i e ⟨false, a, 0, 0, 0⟩ he) (by simp) ?_
       simp -implicitDefEqProofs [hg, hgE, hlt, hA]; repeat (refine And.intro (by clear hK; first | omega | (intros; simp_all; done) | (intros; grind)) ?_)
       refine hK _ ?_; clear hK K; refine SW.ret ?_; simp [Ex.then, Ex.ib]
       all_goals first
         | (rw [hbv]; done)
         | (simp [hbv]; done)
         | (rw [hbv, Bool.eq_iff_iff]; simp; done)
         | (rw [hbv, Bool.eq_iff_iff]; simp; omega)
         | (rw [hbv, Bool.eq_iff_iff]; simp; grind)
         | fail)))
  rotate_right
  case' _ =>
   intro hb1
   first
   | (exfalso; simp at hb1; done)
   | (exfalso; simp at hb1; omega)
   | (
    refine SW.rg fun K hK => ?_; simp -implicitDefEqProofs; repeat (refine And.intro (by clear hK; first | omega | (intros; simp_all; done) | (intros; grind)) ?_)
    refine hK _ ?_; clear hK K; refine SW.ret ?_; simp [Ex.then, Ex.ib]
    all_goals first
      | (rw [hbv]; done)
      | (simp [hbv]; done)
      | (rw [hbv, Bool.eq_iff_iff]; simp; done)
      | (rw [hbv, Bool.eq_iff_iff]; simp; omega)
      | (rw [hbv, Bool.eq_iff_iff]; simp; grind)
      | fail)
set_option maxHeartbeats 1000000 in
theorem blk12_i (p : Prog) (e : Eng) (h : p.ok) (he : e.ok) (k : Nat) (g : Gor) (hg : e.gs[k]? = some g) (hA : asked p e k = true) (hk : gorOk p g = true) (ho : (atI p g).op = 12) (m : Nat) (u : Mutex) (hm : (atI p g).a = m) (hs : e.mus[m]? = some u) : Fn Tryz.prog 21 [.agg p.fr, .agg e.fr, .int .i64 k] (.bool (blkV p e k)) := by
  refine Fn.intro Tryz.func21 (by decide) rfl (rs := [.tmp 6]) rfl Tryz.ntmps21 (by simp) ?_; have hlt := (List.getElem?_eq_some_iff.1 hg).1
  have hgE : ∀ q, e.gs[k]'q = g := fun q => (List.getElem?_eq_some_iff.1 hg).2
  have hat := gor_at hk
  have hI := instr_i p g hat
  have hbv : blkV p e k = blkG p e k g := blkV_at hg hA
  unfold blkG at hbv
  generalize hi : atI p g = i at hI ho hbv hm
  obtain ⟨op, a, b, c⟩ := i; simp only [] at ho hbv hm; subst ho; subst hm; have hslt := (List.getElem?_eq_some_iff.1 hs).1
  have hsE : ∀ q, e.mus[m]'q = u := fun q => (List.getElem?_eq_some_iff.1 hs).2
  rw [Int.toNat_natCast, hs] at hbv; simp at hbv; refine SW.rg fun K hK => ?_; simp -implicitDefEqProofs; repeat (refine And.intro (by clear hK; first | omega | (intros; simp_all; done) | (intros; grind)) ?_)
  refine hK _ ?_; clear hK K; refine SW.seqK fun K1 hK1 => ?_; refine SW.rg fun K hK => ?_; simp -implicitDefEqProofs [hg, hgE, hlt, hA, hs, hsE, hslt]
  repeat (refine And.intro (by clear hK; first | omega | (intros; simp_all; done) | (intros; grind)) ?_)
  first
    | refine CallQ.fzE (asked_i p e k h he) (by simp) ?_
    | refine CallK.fzE (asked_i p e k h he) (by simp) ?_
  simp -implicitDefEqProofs [hg, hgE, hlt, hA, hs, hsE, hslt]; repeat (refine And.intro (by clear hK; first | omega | (intros; simp_all; done) | (intros; grind)) ?_)
  refine hK _ ?_; clear hK K; refine SW.cond _ rfl (by simp) ?_ ?_
  case' refine_2 =>
   intro hb1
   first
   | (exfalso; simp at hb1; done)
   | (exfalso; simp at hb1; omega)
   | (
    refine SW.skip ?_; refine hK1 _ ?_; refine SW.drawK mixed [.q [(0, false), (1, false), (2, false), (3, false), (4, false), (5, false), (6, false), (7, true)], .b 8] (by kernel_rfl) rfl fun K hK => ?_
    simp -implicitDefEqProofs [hg, hgE, hlt, hA, hs, hsE, hslt]; repeat (refine And.intro (by clear hK; first | omega | (intros; simp_all; done) | (intros; grind)) ?_)
    first
      | refine CallQ.fzE hI (by simp [hgE]) ?_
      | refine CallK.fzE hI (by simp [hgE]) ?_
    simp -implicitDefEqProofs [hg, hgE, hlt, hA, hs, hsE, hslt]; repeat (refine And.intro (by clear hK; first | omega | (intros; simp_all; done) | (intros; grind)) ?_)
    refine hK _ ?_; clear hK K; refine SW.seqK fun K2 hK2 => ?_; refine SW.rg fun K hK => ?_; simp -implicitDefEqProofs [hg, hgE, hlt, hA, hs, hsE, hslt]
    repeat (refine And.intro (by clear hK; first | omega | (intros; simp_all; done) | (intros; grind)) ?_)
    refine hK _ ?_; clear hK K; refine SW.block ?_; refine SW.seqK fun K3 hK3 => ?_; refine SW.rg fun K hK => ?_; simp -implicitDefEqProofs [hg, hgE, hlt, hA, hs, hsE, hslt]
    repeat (refine And.intro (by clear hK; first | omega | (intros; simp_all; done) | (intros; grind)) ?_)
    refine hK _ ?_; clear hK K; refine SW.cond _ rfl (by simp) ?_ ?_
    case' refine_2 =>
     intro hb2
     first
     | (exfalso; simp at hb2; done)
     | (exfalso; simp at hb2; omega)
     | (
      refine SW.regionE fun K hK => ?_; simp -implicitDefEqProofs [hg, hgE, hlt, hA, hs, hsE, hslt]; repeat (refine And.intro (by clear hK; first | omega | (intros; simp_all; done) | (intros; grind)) ?_)
      refine hK _ ?_
      clear hK K)
    rotate_right
    case' _ =>
     intro hb2
     first
     | (exfalso; simp at hb2; done)
     | (exfalso; simp at hb2; omega)
     | (
      refine SW.skip ?_)
    all_goals (
     refine hK3 _ ?_; refine SW.cond _ rfl (by simp) ?_ ?_
     case' refine_2 =>
      intro hb3
      first
      | (exfalso; simp at hb3; done)
      | (exfalso; simp at hb3; omega)
      | (
       refine SW.rg fun K hK => ?_; simp -implicitDefEqProofs [hg, hgE, hlt, hA, hs, hsE, hslt]; repeat (refine And.intro (by clear hK; first | omega | (intros; simp_all; done) | (intros; grind)) ?_)
       refine hK _ ?_; clear hK K; refine SW.cond _ rfl (by simp) ?_ ?_
       case' refine_2 =>
        intro hb4
        first
        | (exfalso; simp at hb4; done)
        | (exfalso; simp at hb4; omega)
        | (
         refine SW.rg fun K hK => ?_; simp -implicitDefEqProofs [hg, hgE, hlt, hA, hs, hsE, hslt]; repeat (refine And.intro (by clear hK; first | omega | (intros; simp_all; done) | (intros; grind)) ?_)
         refine hK _ ?_; clear hK K; refine SW.cond _ rfl (by simp) ?_ ?_
         case' refine_2 =>
          intro hb5
          first
          | (exfalso; simp at hb5; done)
          | (exfalso; simp at hb5; omega)
          | (
           refine SW.skip ?_; refine hK2 _ ?_; refine SW.rg fun K hK => ?_; simp -implicitDefEqProofs [hg, hgE, hlt, hA, hs, hsE, hslt]; repeat (refine And.intro (by clear hK; first | omega | (intros; simp_all; done) | (intros; grind)) ?_)
           refine hK _ ?_; clear hK K; refine SW.ret ?_; simp [Ex.then, Ex.ib]
           all_goals first
             | (rw [hbv]; done)
             | (simp [hbv]; done)
             | (rw [hbv, Bool.eq_iff_iff]; simp; done)
             | (rw [hbv, Bool.eq_iff_iff]; simp; omega)
             | (rw [hbv, Bool.eq_iff_iff]; simp; grind)
             | fail)
         rotate_right
         case' _ =>
          intro hb5
          first
          | (exfalso; simp at hb5; done)
          | (exfalso; simp at hb5; omega)
          | (
           refine SW.rg fun K hK => ?_; simp -implicitDefEqProofs [hg, hgE, hlt, hA, hs, hsE, hslt]; repeat (refine And.intro (by clear hK; first | omega | (intros; simp_all; done) | (intros; grind)) ?_)
           fail
           simp -implicitDefEqProofs [hg, hgE, hlt, hA, hs, hsE, hslt]; repeat (refine And.intro (by clear hK; first | omega | (intros; simp_all; done) | (intros; grind)) ?_)
           refine hK _ ?_; clear hK K; refine SW.ret ?_; simp [Ex.then, Ex.ib]
           all_goals first
             | (rw [hbv]; done)
             | (simp [hbv]; done)
             | (rw [hbv, Bool.eq_iff_iff]; simp; done)
             | (rw [hbv, Bool.eq_iff_iff]; simp; omega)
             | (rw [hbv, Bool.eq_iff_iff]; simp; grind)
             | fail))
       rotate_right
       case' _ =>
        intro hb4
        first
        | (exfalso; simp at hb4; done)
        | (exfalso; simp at hb4; omega)
        | (
         refine SW.rg fun K hK => ?_; simp -implicitDefEqProofs [hg, hgE, hlt, hA, hs, hsE, hslt]; repeat (refine And.intro (by clear hK; first | omega | (intros; simp_all; done) | (intros; grind)) ?_)
         refine hK _ ?_; clear hK K; refine SW.ret ?_; simp [Ex.then, Ex.ib]
         all_goals first
           | (rw [hbv]; done)
           | (simp [hbv]; done)
           | (rw [hbv, Bool.eq_iff_iff]; simp; done)
           | (rw [hbv, Bool.eq_iff_iff]; simp; omega)
           | (rw [hbv, Bool.eq_iff_iff]; simp; grind)
           | fail))
     rotate_right
     case' _ =>
      intro hb3
      first
      | (exfalso; simp at hb3; done)
      | (exfalso; simp at hb3; omega)
      | (
       refine SW.rg fun K hK => ?_; simp -implicitDefEqProofs [hg, hgE, hlt, hA, hs, hsE, hslt]; repeat (refine And.intro (by clear hK; first | omega | (intros; simp_all; done) | (intros; grind)) ?_)
       fail
       simp -implicitDefEqProofs [hg, hgE, hlt, hA, hs, hsE, hslt]; repeat (refine And.intro (by clear hK; first | omega | (intros; simp_all; done) | (intros; grind)) ?_)
       refine hK _ ?_; clear hK K; refine SW.ret ?_; simp [Ex.then, Ex.ib]
       all_goals first
         | (rw [hbv]; done)
         | (simp [hbv]; done)
         | (rw [hbv, Bool.eq_iff_iff]; simp; done)
         | (rw [hbv, Bool.eq_iff_iff]; simp; omega)
         | (rw [hbv, Bool.eq_iff_iff]; simp; grind)
         | fail)))
  rotate_right
  case' _ =>
   intro hb1
   first
   | (exfalso; simp at hb1; done)
   | (exfalso; simp at hb1; omega)
   | (
    refine SW.rg fun K hK => ?_; simp -implicitDefEqProofs; repeat (refine And.intro (by clear hK; first | omega | (intros; simp_all; done) | (intros; grind)) ?_)
    refine hK _ ?_; clear hK K; refine SW.ret ?_; simp [Ex.then, Ex.ib]
    all_goals first
      | (rw [hbv]; done)
      | (simp [hbv]; done)
      | (rw [hbv, Bool.eq_iff_iff]; simp; done)
      | (rw [hbv, Bool.eq_iff_iff]; simp; omega)
      | (rw [hbv, Bool.eq_iff_iff]; simp; grind)
      | fail)
set_option maxHeartbeats 1000000 in
theorem blk11_i (p : Prog) (e : Eng) (h : p.ok) (he : e.ok) (k : Nat) (g : Gor) (hg : e.gs[k]? = some g) (hA : asked p e k = true) (hk : gorOk p g = true) (ho : (atI p g).op = 11) (m : Nat) (s : Select) (hm : (atI p g).a = m) (hs : p.sels[m]? = some s) (hl : s.cases.length ≤ 1048576) : Fn Tryz.prog 21 [.agg p.fr, .agg e.fr, .int .i64 k] (.bool (blkV p e k)) := by
  refine Fn.intro Tryz.func21 (by decide) rfl (rs := [.tmp 6]) rfl Tryz.ntmps21 (by simp) ?_; have hlt := (List.getElem?_eq_some_iff.1 hg).1
  have hgE : ∀ q, e.gs[k]'q = g := fun q => (List.getElem?_eq_some_iff.1 hg).2
  have hat := gor_at hk
  have hI := instr_i p g hat
  have hbv : blkV p e k = blkG p e k g := blkV_at hg hA
  unfold blkG at hbv
  generalize hi : atI p g = i at hI ho hbv hm
  obtain ⟨op, a, b, c⟩ := i; simp only [] at ho hbv hm; subst ho; subst hm; have hslt := (List.getElem?_eq_some_iff.1 hs).1
  have hsE : ∀ q, p.sels[m]'q = s := fun q => (List.getElem?_eq_some_iff.1 hs).2
  have hel := progOk_els (engOk_prog (asked_ex hA).choose_spec.choose_spec.2.2.2.1) hs
  have hrcv : rcV p e k = rdy e 0 s.cases := by rw [rcV_at hg hA]; unfold rcG; rw [hi]; simp [hs]
  rw [Int.toNat_natCast, hs] at hbv; simp at hbv; refine SW.rg fun K hK => ?_; simp -implicitDefEqProofs; repeat (refine And.intro (by clear hK; first | omega | (intros; simp_all; done) | (intros; grind)) ?_)
  refine hK _ ?_; clear hK K; refine SW.seqK fun K1 hK1 => ?_; refine SW.rg fun K hK => ?_; simp -implicitDefEqProofs [hg, hgE, hlt, hA, hs, hsE, hslt]
  repeat (refine And.intro (by clear hK; first | omega | (intros; simp_all; done) | (intros; grind)) ?_)
  first
    | refine CallQ.fzE (asked_i p e k h he) (by simp) ?_
    | refine CallK.fzE (asked_i p e k h he) (by simp) ?_
  simp -implicitDefEqProofs [hg, hgE, hlt, hA, hs, hsE, hslt]; repeat (refine And.intro (by clear hK; first | omega | (intros; simp_all; done) | (intros; grind)) ?_)
  refine hK _ ?_; clear hK K; refine SW.cond _ rfl (by simp) ?_ ?_
  case' refine_2 =>
   intro hb1
   first
   | (exfalso; simp at hb1; done)
   | (exfalso; simp at hb1; omega)
   | (
    refine SW.skip ?_; refine hK1 _ ?_; refine SW.drawK mixed [.q [(0, false), (1, false), (2, false), (3, false), (4, false), (5, false), (6, false), (7, true)], .b 8] (by kernel_rfl) rfl fun K hK => ?_
    simp -implicitDefEqProofs [hg, hgE, hlt, hA, hs, hsE, hslt]; repeat (refine And.intro (by clear hK; first | omega | (intros; simp_all; done) | (intros; grind)) ?_)
    first
      | refine CallQ.fzE hI (by simp [hgE]) ?_
      | refine CallK.fzE hI (by simp [hgE]) ?_
    simp -implicitDefEqProofs [hg, hgE, hlt, hA, hs, hsE, hslt]; repeat (refine And.intro (by clear hK; first | omega | (intros; simp_all; done) | (intros; grind)) ?_)
    refine hK _ ?_; clear hK K; refine SW.seqK fun K2 hK2 => ?_; refine SW.rg fun K hK => ?_; simp -implicitDefEqProofs [hg, hgE, hlt, hA, hs, hsE, hslt]
    repeat (refine And.intro (by clear hK; first | omega | (intros; simp_all; done) | (intros; grind)) ?_)
    refine hK _ ?_; clear hK K; refine SW.block ?_; refine SW.seqK fun K3 hK3 => ?_; refine SW.rg fun K hK => ?_; simp -implicitDefEqProofs [hg, hgE, hlt, hA, hs, hsE, hslt]
    repeat (refine And.intro (by clear hK; first | omega | (intros; simp_all; done) | (intros; grind)) ?_)
    refine hK _ ?_; clear hK K; refine SW.cond _ rfl (by simp) ?_ ?_
    case' refine_2 =>
     intro hb2
     first
     | (exfalso; simp at hb2; done)
     | (exfalso; simp at hb2; omega)
     | (
      refine SW.regionE fun K hK => ?_; simp -implicitDefEqProofs [hg, hgE, hlt, hA, hs, hsE, hslt]; repeat (refine And.intro (by clear hK; first | omega | (intros; simp_all; done) | (intros; grind)) ?_)
      refine hK _ ?_
      clear hK K)
    rotate_right
    case' _ =>
     intro hb2
     first
     | (exfalso; simp at hb2; done)
     | (exfalso; simp at hb2; omega)
     | (
      refine SW.skip ?_)
    all_goals (
     refine hK3 _ ?_; refine SW.cond _ rfl (by simp) ?_ ?_
     case' refine_2 =>
      intro hb3
      first
      | (exfalso; simp at hb3; done)
      | (exfalso; simp at hb3; omega)
      | (
       refine SW.rg fun K hK => ?_; simp -implicitDefEqProofs [hg, hgE, hlt, hA, hs, hsE, hslt]; repeat (refine And.intro (by clear hK; first | omega | (intros; simp_all; done) | (intros; grind)) ?_)
       refine hK _ ?_; clear hK K; refine SW.cond _ rfl (by simp) ?_ ?_
       case' refine_2 =>
        intro hb4
        first
        | (exfalso; simp at hb4; done)
        | (exfalso; simp at hb4; omega)
        | (
         refine SW.rg fun K hK => ?_; simp -implicitDefEqProofs [hg, hgE, hlt, hA, hs, hsE, hslt]; repeat (refine And.intro (by clear hK; first | omega | (intros; simp_all; done) | (intros; grind)) ?_)
         refine hK _ ?_; clear hK K; refine SW.cond _ rfl (by simp) ?_ ?_
         case' refine_2 =>
          intro hb5
          first
          | (exfalso; simp at hb5; done)
          | (exfalso; simp at hb5; omega)
          | (
           refine SW.skip ?_; refine hK2 _ ?_; refine SW.rg fun K hK => ?_; simp -implicitDefEqProofs [hg, hgE, hlt, hA, hs, hsE, hslt]; repeat (refine And.intro (by clear hK; first | omega | (intros; simp_all; done) | (intros; grind)) ?_)
           refine hK _ ?_; clear hK K; refine SW.ret ?_; simp [Ex.then, Ex.ib]
           all_goals first
             | (rw [hbv]; done)
             | (simp [hbv]; done)
             | (rw [hbv, Bool.eq_iff_iff]; simp; done)
             | (rw [hbv, Bool.eq_iff_iff]; simp; omega)
             | (rw [hbv, Bool.eq_iff_iff]; simp; grind)
             | (rw [hbv, Bool.eq_iff_iff, hrcv]; simp; grind)
             | fail)
         rotate_right
         case' _ =>
          intro hb5
          first
          | (exfalso; simp at hb5; done)
          | (exfalso; simp at hb5; omega)
          | (
           refine SW.rg fun K hK => ?_; simp -implicitDefEqProofs [hg, hgE, hlt, hA, hs, hsE, hslt]; repeat (refine And.intro (by clear hK; first | omega | (intros; simp_all; done) | (intros; grind)) ?_)
           refine CallG.fzE (by simp) (fun _ => rc_i p e k h he) (by simp) ?_; simp -implicitDefEqProofs [hg, hgE, hlt, hA, hs, hsE, hslt]
           repeat (refine And.intro (by clear hK; first | omega | (intros; simp_all; done) | (intros; grind)) ?_)
           refine hK _ ?_; clear hK K; refine SW.ret ?_; simp [Ex.then, Ex.ib]
           all_goals first
             | (rw [hbv]; done)
             | (simp [hbv]; done)
             | (rw [hbv, Bool.eq_iff_iff]; simp; done)
             | (rw [hbv, Bool.eq_iff_iff]; simp; omega)
             | (rw [hbv, Bool.eq_iff_iff]; simp; grind)
             | (rw [hbv, Bool.eq_iff_iff, hrcv]; simp; grind)
             | fail))
       rotate_right
       case' _ =>
        intro hb4
        first
        | (exfalso; simp at hb4; done)
        | (exfalso; simp at hb4; omega)
        | (
         refine SW.rg fun K hK => ?_; simp -implicitDefEqProofs [hg, hgE, hlt, hA, hs, hsE, hslt]; repeat (refine And.intro (by clear hK; first | omega | (intros; simp_all; done) | (intros; grind)) ?_)
         refine hK _ ?_; clear hK K; refine SW.ret ?_; simp [Ex.then, Ex.ib]
         all_goals first
           | (rw [hbv]; done)
           | (simp [hbv]; done)
           | (rw [hbv, Bool.eq_iff_iff]; simp; done)
           | (rw [hbv, Bool.eq_iff_iff]; simp; omega)
           | (rw [hbv, Bool.eq_iff_iff]; simp; grind)
           | (rw [hbv, Bool.eq_iff_iff, hrcv]; simp; grind)
           | fail))
     rotate_right
     case' _ =>
      intro hb3
      first
      | (exfalso; simp at hb3; done)
      | (exfalso; simp at hb3; omega)
      | (
       refine SW.rg fun K hK => ?_; simp -implicitDefEqProofs [hg, hgE, hlt, hA, hs, hsE, hslt]; repeat (refine And.intro (by clear hK; first | omega | (intros; simp_all; done) | (intros; grind)) ?_)
       fail
       simp -implicitDefEqProofs [hg, hgE, hlt, hA, hs, hsE, hslt]; repeat (refine And.intro (by clear hK; first | omega | (intros; simp_all; done) | (intros; grind)) ?_)
       refine hK _ ?_; clear hK K; refine SW.ret ?_; simp [Ex.then, Ex.ib]
       all_goals first
         | (rw [hbv]; done)
         | (simp [hbv]; done)
         | (rw [hbv, Bool.eq_iff_iff]; simp; done)
         | (rw [hbv, Bool.eq_iff_iff]; simp; omega)
         | (rw [hbv, Bool.eq_iff_iff]; simp; grind)
         | (rw [hbv, Bool.eq_iff_iff, hrcv]; simp; grind)
         | fail)))
  rotate_right
  case' _ =>
   intro hb1
   first
   | (exfalso; simp at hb1; done)
   | (exfalso; simp at hb1; omega)
   | (
    refine SW.rg fun K hK => ?_; simp -implicitDefEqProofs; repeat (refine And.intro (by clear hK; first | omega | (intros; simp_all; done) | (intros; grind)) ?_)
    refine hK _ ?_; clear hK K; refine SW.ret ?_; simp [Ex.then, Ex.ib]
    all_goals first
      | (rw [hbv]; done)
      | (simp [hbv]; done)
      | (rw [hbv, Bool.eq_iff_iff]; simp; done)
      | (rw [hbv, Bool.eq_iff_iff]; simp; omega)
      | (rw [hbv, Bool.eq_iff_iff]; simp; grind)
      | (rw [hbv, Bool.eq_iff_iff, hrcv]; simp; grind)
      | fail)
set_option maxHeartbeats 1000000 in
theorem blk0_i (p : Prog) (e : Eng) (h : p.ok) (he : e.ok) (k : Nat) (g : Gor) (hg : e.gs[k]? = some g) (hA : asked p e k = true) (hk : gorOk p g = true) (ho : ¬ (atI p g).op = 8 ∧ ¬ (atI p g).op = 9 ∧ ¬ (atI p g).op = 11 ∧ ¬ (atI p g).op = 12) : Fn Tryz.prog 21 [.agg p.fr, .agg e.fr, .int .i64 k] (.bool (blkV p e k)) := by
  refine Fn.intro Tryz.func21 (by decide) rfl (rs := [.tmp 6]) rfl Tryz.ntmps21 (by simp) ?_; have hlt := (List.getElem?_eq_some_iff.1 hg).1
  have hgE : ∀ q, e.gs[k]'q = g := fun q => (List.getElem?_eq_some_iff.1 hg).2
  have hat := gor_at hk
  have hI := instr_i p g hat
  have hbv : blkV p e k = blkG p e k g := blkV_at hg hA
  unfold blkG at hbv
  generalize hi : atI p g = i at hI ho hbv
  obtain ⟨op, a, b, c⟩ := i; simp only [] at ho hbv; obtain ⟨n8, n9, n11, n12⟩ := ho; simp [n8, n9, n11, n12] at hbv; refine SW.rg fun K hK => ?_; simp -implicitDefEqProofs
  repeat (refine And.intro (by clear hK; first | omega | (intros; simp_all; done) | (intros; grind)) ?_)
  refine hK _ ?_; clear hK K; refine SW.seqK fun K1 hK1 => ?_; refine SW.rg fun K hK => ?_; simp -implicitDefEqProofs [hg, hgE, hlt, hA, n8, n9, n11, n12]
  repeat (refine And.intro (by clear hK; first | omega | (intros; simp_all; done) | (intros; grind)) ?_)
  first
    | refine CallQ.fzE (asked_i p e k h he) (by simp) ?_
    | refine CallK.fzE (asked_i p e k h he) (by simp) ?_
  simp -implicitDefEqProofs [hg, hgE, hlt, hA, n8, n9, n11, n12]; repeat (refine And.intro (by clear hK; first | omega | (intros; simp_all; done) | (intros; grind)) ?_)
  refine hK _ ?_; clear hK K; refine SW.cond _ rfl (by simp) ?_ ?_
  case' refine_2 =>
   intro hb1
   first
   | (exfalso; simp at hb1; done)
   | (exfalso; simp at hb1; omega)
   | (
    refine SW.skip ?_; refine hK1 _ ?_; refine SW.drawK mixed [.q [(0, false), (1, false), (2, false), (3, false), (4, false), (5, false), (6, false), (7, true)], .b 8] (by kernel_rfl) rfl fun K hK => ?_
    simp -implicitDefEqProofs [hg, hgE, hlt, hA, n8, n9, n11, n12]; repeat (refine And.intro (by clear hK; first | omega | (intros; simp_all; done) | (intros; grind)) ?_)
    first
      | refine CallQ.fzE hI (by simp [hgE]) ?_
      | refine CallK.fzE hI (by simp [hgE]) ?_
    simp -implicitDefEqProofs [hg, hgE, hlt, hA, n8, n9, n11, n12]; repeat (refine And.intro (by clear hK; first | omega | (intros; simp_all; done) | (intros; grind)) ?_)
    refine hK _ ?_; clear hK K; refine SW.seqK fun K2 hK2 => ?_; refine SW.rg fun K hK => ?_; simp -implicitDefEqProofs [hg, hgE, hlt, hA, n8, n9, n11, n12]
    repeat (refine And.intro (by clear hK; first | omega | (intros; simp_all; done) | (intros; grind)) ?_)
    refine hK _ ?_; clear hK K; refine SW.block ?_; refine SW.seqK fun K3 hK3 => ?_; refine SW.rg fun K hK => ?_; simp -implicitDefEqProofs [hg, hgE, hlt, hA, n8, n9, n11, n12]
    repeat (refine And.intro (by clear hK; first | omega | (intros; simp_all; done) | (intros; grind)) ?_)
    refine hK _ ?_; clear hK K; refine SW.cond _ rfl (by simp) ?_ ?_
    case' refine_2 =>
     intro hb2
     first
     | (exfalso; simp at hb2; done)
     | (exfalso; simp at hb2; omega)
     | (
      refine SW.regionE fun K hK => ?_; simp -implicitDefEqProofs [hg, hgE, hlt, hA, n8, n9, n11, n12]; repeat (refine And.intro (by clear hK; first | omega | (intros; simp_all; done) | (intros; grind)) ?_)
      refine hK _ ?_
      clear hK K)
    rotate_right
    case' _ =>
     intro hb2
     first
     | (exfalso; simp at hb2; done)
     | (exfalso; simp at hb2; omega)
     | (
      refine SW.skip ?_)
    all_goals (
     refine hK3 _ ?_; refine SW.cond _ rfl (by simp) ?_ ?_
     case' refine_2 =>
      intro hb3
      first
      | (exfalso; simp at hb3; done)
      | (exfalso; simp at hb3; omega)
      | (
       refine SW.rg fun K hK => ?_; simp -implicitDefEqProofs [hg, hgE, hlt, hA, n8, n9, n11, n12]; repeat (refine And.intro (by clear hK; first | omega | (intros; simp_all; done) | (intros; grind)) ?_)
       refine hK _ ?_; clear hK K; refine SW.cond _ rfl (by simp) ?_ ?_
       case' refine_2 =>
        intro hb4
        first
        | (exfalso; simp at hb4; done)
        | (exfalso; simp at hb4; omega)
        | (
         refine SW.rg fun K hK => ?_; simp -implicitDefEqProofs [hg, hgE, hlt, hA, n8, n9, n11, n12]; repeat (refine And.intro (by clear hK; first | omega | (intros; simp_all; done) | (intros; grind)) ?_)
         refine hK _ ?_; clear hK K; refine SW.cond _ rfl (by simp) ?_ ?_
         case' refine_2 =>
          intro hb5
          first
          | (exfalso; simp at hb5; done)
          | (exfalso; simp at hb5; omega)
          | (
           refine SW.skip ?_; refine hK2 _ ?_; refine SW.rg fun K hK => ?_; simp -implicitDefEqProofs [hg, hgE, hlt, hA, n8, n9, n11, n12]
           repeat (refine And.intro (by clear hK; first | omega | (intros; simp_all; done) | (intros; grind)) ?_)
           refine hK _ ?_; clear hK K; refine SW.ret ?_; simp [Ex.then, Ex.ib]
           all_goals first
             | (rw [hbv]; done)
             | (simp [hbv]; done)
             | (rw [hbv, Bool.eq_iff_iff]; simp; done)
             | (rw [hbv, Bool.eq_iff_iff]; simp; omega)
             | (rw [hbv, Bool.eq_iff_iff]; simp; grind)
             | fail)
         rotate_right
         case' _ =>
          intro hb5
          first
          | (exfalso; simp at hb5; done)
          | (exfalso; simp at hb5; omega)
          | (
           refine SW.rg fun K hK => ?_; simp -implicitDefEqProofs [hg, hgE, hlt, hA, n8, n9, n11, n12]; repeat (refine And.intro (by clear hK; first | omega | (intros; simp_all; done) | (intros; grind)) ?_)
           fail
           simp -implicitDefEqProofs [hg, hgE, hlt, hA, n8, n9, n11, n12]; repeat (refine And.intro (by clear hK; first | omega | (intros; simp_all; done) | (intros; grind)) ?_)
           refine hK _ ?_; clear hK K; refine SW.ret ?_; simp [Ex.then, Ex.ib]
           all_goals first
             | (rw [hbv]; done)
             | (simp [hbv]; done)
             | (rw [hbv, Bool.eq_iff_iff]; simp; done)
             | (rw [hbv, Bool.eq_iff_iff]; simp; omega)
             | (rw [hbv, Bool.eq_iff_iff]; simp; grind)
             | fail))
       rotate_right
       case' _ =>
        intro hb4
        first
        | (exfalso; simp at hb4; done)
        | (exfalso; simp at hb4; omega)
        | (
         refine SW.rg fun K hK => ?_; simp -implicitDefEqProofs [hg, hgE, hlt, hA, n8, n9, n11, n12]; repeat (refine And.intro (by clear hK; first | omega | (intros; simp_all; done) | (intros; grind)) ?_)
         refine hK _ ?_; clear hK K; refine SW.ret ?_; simp [Ex.then, Ex.ib]
         all_goals first
           | (rw [hbv]; done)
           | (simp [hbv]; done)
           | (rw [hbv, Bool.eq_iff_iff]; simp; done)
           | (rw [hbv, Bool.eq_iff_iff]; simp; omega)
           | (rw [hbv, Bool.eq_iff_iff]; simp; grind)
           | fail))
     rotate_right
     case' _ =>
      intro hb3
      first
      | (exfalso; simp at hb3; done)
      | (exfalso; simp at hb3; omega)
      | (
       refine SW.rg fun K hK => ?_; simp -implicitDefEqProofs [hg, hgE, hlt, hA, n8, n9, n11, n12]; repeat (refine And.intro (by clear hK; first | omega | (intros; simp_all; done) | (intros; grind)) ?_)
       fail
       simp -implicitDefEqProofs [hg, hgE, hlt, hA, n8, n9, n11, n12]; repeat (refine And.intro (by clear hK; first | omega | (intros; simp_all; done) | (intros; grind)) ?_)
       refine hK _ ?_; clear hK K; refine SW.ret ?_; simp [Ex.then, Ex.ib]
       all_goals first
         | (rw [hbv]; done)
         | (simp [hbv]; done)
         | (rw [hbv, Bool.eq_iff_iff]; simp; done)
         | (rw [hbv, Bool.eq_iff_iff]; simp; omega)
         | (rw [hbv, Bool.eq_iff_iff]; simp; grind)
         | fail)))
  rotate_right
  case' _ =>
   intro hb1
   first
   | (exfalso; simp at hb1; done)
   | (exfalso; simp at hb1; omega)
   | (
    refine SW.rg fun K hK => ?_; simp -implicitDefEqProofs; repeat (refine And.intro (by clear hK; first | omega | (intros; simp_all; done) | (intros; grind)) ?_)
    refine hK _ ?_; clear hK K; refine SW.ret ?_; simp [Ex.then, Ex.ib]
    all_goals first
      | (rw [hbv]; done)
      | (simp [hbv]; done)
      | (rw [hbv, Bool.eq_iff_iff]; simp; done)
      | (rw [hbv, Bool.eq_iff_iff]; simp; omega)
      | (rw [hbv, Bool.eq_iff_iff]; simp; grind)
      | fail)
set_option maxHeartbeats 1000000 in
theorem blkN_i (p : Prog) (e : Eng) (h : p.ok) (he : e.ok) (n : Int) (hA : asked p e n = false) : Fn Tryz.prog 21 [.agg p.fr, .agg e.fr, .int .i64 n] (.bool (blkV p e n)) := by
  refine Fn.intro Tryz.func21 (by decide) rfl (rs := [.tmp 6]) rfl Tryz.ntmps21 (by simp) ?_; refine SW.rg fun K hK => ?_; simp -implicitDefEqProofs
  repeat (refine And.intro (by clear hK; first | omega | (intros; simp_all; done) | (intros; grind)) ?_)
  refine hK _ ?_; clear hK K; refine SW.seqK fun K1 hK1 => ?_; refine SW.rg fun K hK => ?_; simp -implicitDefEqProofs [hA]; repeat (refine And.intro (by clear hK; first | omega | (intros; simp_all; done) | (intros; grind)) ?_)
  first
    | refine CallQ.fzE (asked_i p e n h he) (by simp) ?_
    | refine CallK.fzE (asked_i p e n h he) (by simp) ?_
  simp -implicitDefEqProofs [hA]; repeat (refine And.intro (by clear hK; first | omega | (intros; simp_all; done) | (intros; grind)) ?_)
  refine hK _ ?_; clear hK K; refine SW.cond _ rfl (by simp) ?_ ?_
  case' refine_2 =>
   intro hb1
   first
   | (exfalso; simp at hb1; done)
   | (exfalso; simp at hb1; omega)
   | (
    refine SW.skip ?_; refine hK1 _ ?_; refine SW.drawK mixed [.q [(0, false), (1, false), (2, false), (3, false), (4, false), (5, false), (6, false), (7, true)], .b 8] (by kernel_rfl) rfl fun K hK => ?_; simp -implicitDefEqProofs
    repeat (refine And.intro (by clear hK; first | omega | (intros; simp_all; done) | (intros; grind)) ?_)
    fail
    simp -implicitDefEqProofs; repeat (refine And.intro (by clear hK; first | omega | (intros; simp_all; done) | (intros; grind)) ?_)
    refine hK _ ?_; clear hK K; refine SW.seqK fun K2 hK2 => ?_; refine SW.rg fun K hK => ?_; simp -implicitDefEqProofs; repeat (refine And.intro (by clear hK; first | omega | (intros; simp_all; done) | (intros; grind)) ?_)
    refine hK _ ?_; clear hK K; refine SW.block ?_; refine SW.seqK fun K3 hK3 => ?_; refine SW.rg fun K hK => ?_; simp -implicitDefEqProofs
    repeat (refine And.intro (by clear hK; first | omega | (intros; simp_all; done) | (intros; grind)) ?_)
    refine hK _ ?_; clear hK K; refine SW.cond _ rfl (by simp) ?_ ?_
    case' refine_2 =>
     intro hb2
     first
     | (exfalso; simp at hb2; done)
     | (exfalso; simp at hb2; omega)
     | (
      refine SW.regionE fun K hK => ?_; simp -implicitDefEqProofs; repeat (refine And.intro (by clear hK; first | omega | (intros; simp_all; done) | (intros; grind)) ?_)
      refine hK _ ?_
      clear hK K)
    rotate_right
    case' _ =>
     intro hb2
     first
     | (exfalso; simp at hb2; done)
     | (exfalso; simp at hb2; omega)
     | (
      refine SW.skip ?_)
    all_goals (
     refine hK3 _ ?_; refine SW.cond _ rfl (by simp) ?_ ?_
     case' refine_2 =>
      intro hb3
      first
      | (exfalso; simp at hb3; done)
      | (exfalso; simp at hb3; omega)
      | (
       refine SW.rg fun K hK => ?_; simp -implicitDefEqProofs; repeat (refine And.intro (by clear hK; first | omega | (intros; simp_all; done) | (intros; grind)) ?_)
       refine hK _ ?_; clear hK K; refine SW.cond _ rfl (by simp) ?_ ?_
       case' refine_2 =>
        intro hb4
        first
        | (exfalso; simp at hb4; done)
        | (exfalso; simp at hb4; omega)
        | (
         refine SW.rg fun K hK => ?_; simp -implicitDefEqProofs; repeat (refine And.intro (by clear hK; first | omega | (intros; simp_all; done) | (intros; grind)) ?_)
         refine hK _ ?_; clear hK K; refine SW.cond _ rfl (by simp) ?_ ?_
         case' refine_2 =>
          intro hb5
          first
          | (exfalso; simp at hb5; done)
          | (exfalso; simp at hb5; omega)
          | (
           refine SW.skip ?_; refine hK2 _ ?_; refine SW.rg fun K hK => ?_; simp -implicitDefEqProofs; repeat (refine And.intro (by clear hK; first | omega | (intros; simp_all; done) | (intros; grind)) ?_)
           refine hK _ ?_; clear hK K; refine SW.ret ?_; simp [Ex.then, Ex.ib]
           all_goals (simp [blkV, hA]))
         rotate_right
         case' _ =>
          intro hb5
          first
          | (exfalso; simp at hb5; done)
          | (exfalso; simp at hb5; omega)
          | (
           refine SW.rg fun K hK => ?_; simp -implicitDefEqProofs; repeat (refine And.intro (by clear hK; first | omega | (intros; simp_all; done) | (intros; grind)) ?_)
           fail
           simp -implicitDefEqProofs; repeat (refine And.intro (by clear hK; first | omega | (intros; simp_all; done) | (intros; grind)) ?_)
           refine hK _ ?_; clear hK K; refine SW.ret ?_; simp [Ex.then, Ex.ib]
           all_goals (simp [blkV, hA])))
       rotate_right
       case' _ =>
        intro hb4
        first
        | (exfalso; simp at hb4; done)
        | (exfalso; simp at hb4; omega)
        | (
         refine SW.rg fun K hK => ?_; simp -implicitDefEqProofs; repeat (refine And.intro (by clear hK; first | omega | (intros; simp_all; done) | (intros; grind)) ?_)
         refine hK _ ?_; clear hK K; refine SW.ret ?_; simp [Ex.then, Ex.ib]
         all_goals (simp [blkV, hA])))
     rotate_right
     case' _ =>
      intro hb3
      first
      | (exfalso; simp at hb3; done)
      | (exfalso; simp at hb3; omega)
      | (
       refine SW.rg fun K hK => ?_; simp -implicitDefEqProofs; repeat (refine And.intro (by clear hK; first | omega | (intros; simp_all; done) | (intros; grind)) ?_)
       fail
       simp -implicitDefEqProofs; repeat (refine And.intro (by clear hK; first | omega | (intros; simp_all; done) | (intros; grind)) ?_)
       refine hK _ ?_; clear hK K; refine SW.ret ?_; simp [Ex.then, Ex.ib]
       all_goals (simp [blkV, hA]))))
  rotate_right
  case' _ =>
   intro hb1
   first
   | (exfalso; simp at hb1; done)
   | (exfalso; simp at hb1; omega)
   | (
    refine SW.rg fun K hK => ?_; simp -implicitDefEqProofs; repeat (refine And.intro (by clear hK; first | omega | (intros; simp_all; done) | (intros; grind)) ?_)
    refine hK _ ?_; clear hK K; refine SW.ret ?_; simp [Ex.then, Ex.ib]
    all_goals (simp [blkV, hA]))
theorem blk_i (p : Prog) (e : Eng) (n : Int) (h : p.ok) (he : e.ok) : Fn Tryz.prog 21 [.agg p.fr, .agg e.fr, .int .i64 n] (.bool (blkV p e n)) := by
  cases hA : asked p e n with
  | false => exact blkN_i p e h he n hA
  | true =>
    obtain ⟨k, g, rfl, hg, _, hE, hk⟩ := asked_ex hA; by_cases h8 : (atI p g).op = 8
    · exact blk8_i p e h he k g hg hA hk h8
    by_cases h9 : (atI p g).op = 9
    · exact blk9_i p e h he k g hg hA hk h9
    by_cases h11 : (atI p g).op = 11
    · obtain ⟨m, s, hm, hs, hl⟩ := asked_sel (e := e) (k := k) h hk h11
      exact blk11_i p e h he k g hg hA hk h11 m s hm hs hl
    by_cases h12 : (atI p g).op = 12
    · have h1 := at_mu (engOk_prog hE) (gor_at hk) h12
      have h2 := engOk_mus hE
      exact blk12_i p e h he k g hg hA hk h12 (atI p g).a.toNat (e.mus[(atI p g).a.toNat]'(by omega)) (by omega) (List.getElem?_eq_getElem (by omega))
    · exact blk0_i p e h he k g hg hA hk ⟨h8, h9, h11, h12⟩
end HT
