import Derived.Test.YtohfnikklggjjaaGreatHGV6
import Derived.Test.YtohfnikklggjjaaGreatG13
import Derived.Test.YtohfnikklggjjaaGreatG5
/-
  My own texts (road H): HGV7.
-/
set_option linter.unusedSimpArgs false
set_option linter.unusedVariables false
namespace HT
open Go Go.Proofs HK
set_option maxHeartbeats 1000000 in
theorem kin_iN (p : Prog) (ch : Int) (h : p.ok) (hn : ¬ (progOk p = true ∧ inCh p ch = true)) : Fn Tryz.prog 60 [.agg p.fr, .int .i64 ch] (.nil) := by
  refine Fn.intro Tryz.func60 (by decide) rfl (rs := [.tmp 4]) rfl Tryz.ntmps60 (by simp) ?_; have h1 := h.1
  have h2 := h.2.1
  have hN : (progOk p && (decide (0 ≤ ch) && decide (ch < (p.caps.length : Int)))) = false := by
    rw [Bool.eq_false_iff]; intro hh; exact hn (by simpa [inCh] using hh)
  refine SW.rg fun K hK => ?_; simp -implicitDefEqProofs; repeat (refine And.intro (by clear hK; first | omega | (intros; simp_all; done) | (intros; grind)) ?_)
  refine hK _ ?_; clear hK K; refine SW.seqK fun K1 hK1 => ?_; refine SW.rg fun K hK => ?_; simp -implicitDefEqProofs; repeat (refine And.intro (by clear hK; first | omega | (intros; simp_all; done) | (intros; grind)) ?_)
  first
    | refine CallQ.fzE (progOk_i p h) (by simp) ?_
    | refine CallK.fzE (progOk_i p h) (by simp) ?_
  simp -implicitDefEqProofs; repeat (refine And.intro (by clear hK; first | omega | (intros; simp_all; done) | (intros; grind)) ?_)
  first
    | refine CallQG.fzE (by simp) (fun _ => within_ok ch 0 p.caps.length) (by simp) ?_
    | refine CallG.fzE (by simp) (fun _ => within_ok ch 0 p.caps.length) (by simp) ?_
    | refine CallQ.fzE (within_ok ch 0 p.caps.length) (by simp) ?_
    | refine CallK.fzE (within_ok ch 0 p.caps.length) (by simp) ?_
  simp -implicitDefEqProofs; repeat (refine And.intro (by clear hK; first | omega | (intros; simp_all; done) | (intros; grind)) ?_)
  refine hK _ ?_; clear hK K; refine SW.cond _ rfl (by simp) ?_ ?_
  case' refine_2 =>
   intro hb1
   have hno : (0 : Int) = 1 := by
     exfalso; simp at hb1; grind
   first
   | (exfalso; simp at hb1; done)
   | (exfalso; simp at hb1; omega)
   | (
    refine SW.skip ?_; refine hK1 _ ?_; refine SW.rg fun K hK => ?_; simp -implicitDefEqProofs; repeat (refine And.intro (by clear hK; first | omega | (intros; simp_all; done) | (intros; grind)) ?_)
    refine hK _ ?_; clear hK K; refine SW.seqK fun K2 hK2 => ?_; refine SW.rg fun K hK => ?_; simp -implicitDefEqProofs; repeat (refine And.intro (by clear hK; first | omega | (intros; simp_all; done) | (intros; grind)) ?_)
    refine hK _ ?_; clear hK K; refine SW.block ?_; refine SW.loop (α := Nat) (fun k => ⟨[], []⟩) (fun k => True) (fun k => 0) (0) ?_ ?_ (fun k hx => ?_)
    case' refine_1 =>
     simp
    case' refine_2 =>
     fail
    case' refine_3 =>
     skip
     refine SW.rg fun K hK => ?_; simp -implicitDefEqProofs; repeat (refine And.intro (by clear hK; first | omega | (intros; simp_all; done) | (intros; grind)) ?_)
     refine hK _ ?_; clear hK K; refine SW.seqK fun K3 hK3 => ?_; refine SW.cond _ rfl (by simp) ?_ ?_
     case' refine_2 =>
      intro hb2
      first
      | (exfalso; simp at hb2; done)
      | (exfalso; simp at hb2; omega)
      | (
       refine SW.exit ?_; simp only [Ex.then, Ex.ib]; try simp only [if_true, if_false, reduceIte]
       refine hK2 _ ?_; refine SW.rg fun K hK => ?_; simp -implicitDefEqProofs; repeat (refine And.intro (by clear hK; first | omega | (intros; simp_all; done) | (intros; grind)) ?_)
       fail
       simp -implicitDefEqProofs; repeat (refine And.intro (by clear hK; first | omega | (intros; simp_all; done) | (intros; grind)) ?_)
       refine hK _ ?_; clear hK K; refine SW.ret ?_; simp [Ex.then, Ex.ib]
       all_goals (try simp))
     rotate_right
     case' _ =>
      intro hb2
      first
      | (exfalso; simp at hb2; done)
      | (exfalso; simp at hb2; omega)
      | (
       refine SW.skip ?_; refine hK3 _ ?_; refine SW.seqK fun K4 hK4 => ?_; refine SW.block ?_; refine SW.rg fun K hK => ?_; simp -implicitDefEqProofs
       repeat (refine And.intro (by clear hK; first | omega | (intros; simp_all; done) | (intros; grind)) ?_)
       refine hK _ ?_; clear hK K; refine SW.rg fun K hK => ?_; simp -implicitDefEqProofs; repeat (refine And.intro (by clear hK; first | omega | (intros; simp_all; done) | (intros; grind)) ?_)
       refine hK _ ?_; clear hK K; refine SW.seqK fun K5 hK5 => ?_; refine SW.rg fun K hK => ?_; simp -implicitDefEqProofs; repeat (refine And.intro (by clear hK; first | omega | (intros; simp_all; done) | (intros; grind)) ?_)
       refine hK _ ?_; clear hK K; refine SW.block ?_; refine SW.loop (α := Nat) (fun k => ⟨[], []⟩) (fun k => True) (fun k => 0) (0) ?_ ?_ (fun k hx => ?_)
       case' refine_1 =>
        simp
       case' refine_2 =>
        fail
       case' refine_3 =>
        skip
        refine SW.rg fun K hK => ?_; simp -implicitDefEqProofs; repeat (refine And.intro (by clear hK; first | omega | (intros; simp_all; done) | (intros; grind)) ?_)
        refine hK _ ?_; clear hK K; refine SW.seqK fun K6 hK6 => ?_; refine SW.cond _ rfl (by simp) ?_ ?_
        case' refine_2 =>
         intro hb3
         first
         | (exfalso; simp at hb3; done)
         | (exfalso; simp at hb3; omega)
         | (
          refine SW.exit ?_; simp only [Ex.then, Ex.ib]; try simp only [if_true, if_false, reduceIte]
          refine hK5 _ ?_; refine SW.rg fun K hK => ?_; simp -implicitDefEqProofs; repeat (refine And.intro (by clear hK; first | omega | (intros; simp_all; done) | (intros; grind)) ?_)
          fail
          simp -implicitDefEqProofs; repeat (refine And.intro (by clear hK; first | omega | (intros; simp_all; done) | (intros; grind)) ?_)
          refine hK _ ?_; clear hK K; refine SW.cond _ rfl (by simp) ?_ ?_
          case' refine_2 =>
           intro hb4
           first
           | (exfalso; simp at hb4; done)
           | (exfalso; simp at hb4; omega)
           | (
            refine SW.skip ?_)
          rotate_right
          case' _ =>
           intro hb4
           first
           | (exfalso; simp at hb4; done)
           | (exfalso; simp at hb4; omega)
           | (
            refine SW.regionE fun K hK => ?_; simp -implicitDefEqProofs; repeat (refine And.intro (by clear hK; first | omega | (intros; simp_all; done) | (intros; grind)) ?_)
            refine hK _ ?_
            clear hK K))
        rotate_right
        case' _ =>
         intro hb3
         first
         | (exfalso; simp at hb3; done)
         | (exfalso; simp at hb3; omega)
         | (
          refine SW.skip ?_; refine hK6 _ ?_; refine SW.seqK fun K7 hK7 => ?_; refine SW.block ?_; refine SW.rg fun K hK => ?_; simp -implicitDefEqProofs
          repeat (refine And.intro (by clear hK; first | omega | (intros; simp_all; done) | (intros; grind)) ?_)
          refine hK _ ?_; clear hK K; refine SW.rg fun K hK => ?_; simp -implicitDefEqProofs; repeat (refine And.intro (by clear hK; first | omega | (intros; simp_all; done) | (intros; grind)) ?_)
          refine hK _ ?_; clear hK K; refine SW.cond _ rfl (by simp) ?_ ?_
          case' refine_2 =>
           intro hb5
           first
           | (exfalso; simp at hb5; done)
           | (exfalso; simp at hb5; omega)
           | (
            refine SW.skip ?_)
          rotate_right
          case' _ =>
           intro hb5
           first
           | (exfalso; simp at hb5; done)
           | (exfalso; simp at hb5; omega)
           | (
            refine SW.regionE fun K hK => ?_; simp -implicitDefEqProofs; repeat (refine And.intro (by clear hK; first | omega | (intros; simp_all; done) | (intros; grind)) ?_)
            refine hK _ ?_
            clear hK K)
          all_goals (
           refine hK7 _ ?_; refine SW.regionE fun K hK => ?_; simp -implicitDefEqProofs; repeat (refine And.intro (by clear hK; first | omega | (intros; simp_all; done) | (intros; grind)) ?_)
           refine hK _ ?_; clear hK K
           fail))
       all_goals (
        refine hK4 _ ?_; refine SW.regionE fun K hK => ?_; simp -implicitDefEqProofs; repeat (refine And.intro (by clear hK; first | omega | (intros; simp_all; done) | (intros; grind)) ?_)
        refine hK _ ?_; clear hK K
        fail)))
  rotate_right
  case' _ =>
   intro hb1
   first
   | (exfalso; simp at hb1; done)
   | (exfalso; simp at hb1; omega)
   | (
    refine SW.rg fun K hK => ?_; simp -implicitDefEqProofs; repeat (refine And.intro (by clear hK; first | omega | (intros; simp_all; done) | (intros; grind)) ?_)
    refine hK _ ?_; clear hK K; refine SW.ret ?_; simp [Ex.then, Ex.ib]
    all_goals (try simp))
end HT
