import Derived.Test.YtjalahhkhcmjaaaDoorHLQCJ
import Derived.Test.YtjalahhkhcmjaaaDoorHLQCK
import Derived.Test.YtjalahhkhcmjaaaDoorHLQCL
/-
  My own texts (road H): HLQCM.
-/
set_option linter.unusedSimpArgs false
set_option linter.unusedVariables false
namespace HT
open Go Go.Proofs HK
set_option maxHeartbeats 1000000 in
theorem itText_in (i : Item) (hok : itemOk i = false) : FnT gA tabA Tryd.prog 18 [.agg i.cl] (.str noB) := by
  refine FnT.intro Tryd.func18 (by decide) rfl (rs := [.tmp 2]) rfl Tryd.ntmps18 (by simp) ?_; refine ST.regionK fun K hK => ?_; simp -implicitDefEqProofs
  repeat (refine And.intro (by clear hK; first | omega | (intros; simp_all; done) | (intros; grind)) ?_)
  refine hK _ ?_; clear hK K; refine ST.seqK fun K1 hK1 => ?_; refine ST.regionK fun K hK => ?_; simp -implicitDefEqProofs; repeat (refine And.intro (by clear hK; first | omega | (intros; simp_all; done) | (intros; grind)) ?_)
  first
    | refine CallQ.fzE ((show Fn Tryd.prog 32 [.agg i.cl] (.bool false) by have h := itemOk_i i; rwa [hok] at h)) (by simp) ?_
    | refine CallK.fzE ((show Fn Tryd.prog 32 [.agg i.cl] (.bool false) by have h := itemOk_i i; rwa [hok] at h)) (by simp) ?_
  simp -implicitDefEqProofs; repeat (refine And.intro (by clear hK; first | omega | (intros; simp_all; done) | (intros; grind)) ?_)
  refine hK _ ?_; clear hK K; refine ST.cond _ rfl (by simp) ?_ ?_
  case' refine_2 =>
   intro hb1
   first
   | (exfalso; simp at hb1; done)
   | (exfalso; simp at hb1; omega)
   | (
    refine ST.skip ?_; refine hK1 _ ?_; refine ST.drawTK (G := (gA, tabA)) mixed [.q [(0, false), (1, false), (2, false), (3, false), (4, false), (5, false), (6, true), (7, false)]] (by kernel_rfl) rfl fun K hK => ?_
    simp -implicitDefEqProofs; repeat (refine And.intro (by clear hK; first | omega | (intros; simp_all; done) | (intros; grind)) ?_)
    fail
    simp -implicitDefEqProofs; repeat (refine And.intro (by clear hK; first | omega | (intros; simp_all; done) | (intros; grind)) ?_)
    refine hK _ ?_; clear hK K; refine ST.seqK fun K2 hK2 => ?_; refine ST.regionK fun K hK => ?_; simp -implicitDefEqProofs; repeat (refine And.intro (by clear hK; first | omega | (intros; simp_all; done) | (intros; grind)) ?_)
    refine hK _ ?_; clear hK K; refine ST.cond _ rfl (by simp) ?_ ?_
    case' refine_2 =>
     intro hb2
     first
     | (exfalso; simp at hb2; done)
     | (exfalso; simp at hb2; omega)
     | (
      refine ST.skip ?_)
    rotate_right
    case' _ =>
     intro hb2
     first
     | (exfalso; simp at hb2; done)
     | (exfalso; simp at hb2; omega)
     | (
      refine ST.regionE fun K hK => ?_; simp -implicitDefEqProofs; repeat (refine And.intro (by clear hK; first | omega | (intros; simp_all; done) | (intros; grind)) ?_)
      fail
      simp -implicitDefEqProofs; repeat (refine And.intro (by clear hK; first | omega | (intros; simp_all; done) | (intros; grind)) ?_)
      refine hK _ ?_
      clear hK K)
    all_goals (
     refine hK2 _ ?_; refine ST.seqK fun K3 hK3 => ?_; refine ST.regionK fun K hK => ?_; simp -implicitDefEqProofs; repeat (refine And.intro (by clear hK; first | omega | (intros; simp_all; done) | (intros; grind)) ?_)
     refine hK _ ?_; clear hK K; refine ST.block ?_; refine ST.seqK fun K4 hK4 => ?_; refine ST.regionK fun K hK => ?_; simp -implicitDefEqProofs
     repeat (refine And.intro (by clear hK; first | omega | (intros; simp_all; done) | (intros; grind)) ?_)
     refine hK _ ?_; clear hK K; refine ST.cond _ rfl (by simp) ?_ ?_
     case' refine_2 =>
      intro hb3
      first
      | (exfalso; simp at hb3; done)
      | (exfalso; simp at hb3; omega)
      | (
       refine ST.regionK fun K hK => ?_; simp -implicitDefEqProofs; repeat (refine And.intro (by clear hK; first | omega | (intros; simp_all; done) | (intros; grind)) ?_)
       refine hK _ ?_; clear hK K; refine ST.cond _ rfl (by simp) ?_ ?_
       case' refine_2 =>
        intro hb4
        first
        | (exfalso; simp at hb4; done)
        | (exfalso; simp at hb4; omega)
        | (
         refine ST.regionK fun K hK => ?_; simp -implicitDefEqProofs; repeat (refine And.intro (by clear hK; first | omega | (intros; simp_all; done) | (intros; grind)) ?_)
         refine hK _ ?_; clear hK K; refine ST.cond _ rfl (by simp) ?_ ?_
         case' refine_2 =>
          intro hb5
          first
          | (exfalso; simp at hb5; done)
          | (exfalso; simp at hb5; omega)
          | (
           refine ST.regionK fun K hK => ?_; simp -implicitDefEqProofs; repeat (refine And.intro (by clear hK; first | omega | (intros; simp_all; done) | (intros; grind)) ?_)
           refine hK _ ?_; clear hK K; refine ST.cond _ rfl (by simp) ?_ ?_
           case' refine_2 =>
            intro hb6
            first
            | (exfalso; simp at hb6; done)
            | (exfalso; simp at hb6; omega)
            | (
             refine ST.regionK fun K hK => ?_; simp -implicitDefEqProofs; repeat (refine And.intro (by clear hK; first | omega | (intros; simp_all; done) | (intros; grind)) ?_)
             refine hK _ ?_; clear hK K; refine ST.cond _ rfl (by simp) ?_ ?_
             case' refine_2 =>
              intro hb7
              first
              | (exfalso; simp at hb7; done)
              | (exfalso; simp at hb7; omega)
              | (
               refine ST.regionE fun K hK => ?_; simp -implicitDefEqProofs; repeat (refine And.intro (by clear hK; first | omega | (intros; simp_all; done) | (intros; grind)) ?_)
               refine hK _ ?_
               clear hK K)
             rotate_right
             case' _ =>
              intro hb7
              first
              | (exfalso; simp at hb7; done)
              | (exfalso; simp at hb7; omega)
              | (
               refine ST.skip ?_))
           rotate_right
           case' _ =>
            intro hb6
            first
            | (exfalso; simp at hb6; done)
            | (exfalso; simp at hb6; omega)
            | (
             refine ST.skip ?_))
         rotate_right
         case' _ =>
          intro hb5
          first
          | (exfalso; simp at hb5; done)
          | (exfalso; simp at hb5; omega)
          | (
           refine ST.skip ?_))
       rotate_right
       case' _ =>
        intro hb4
        first
        | (exfalso; simp at hb4; done)
        | (exfalso; simp at hb4; omega)
        | (
         refine ST.skip ?_))
     rotate_right
     case' _ =>
      intro hb3
      first
      | (exfalso; simp at hb3; done)
      | (exfalso; simp at hb3; omega)
      | (
       refine ST.skip ?_)
     all_goals (
      refine hK4 _ ?_; refine ST.cond _ rfl (by simp) ?_ ?_
      case' refine_2 =>
       intro hb8
       first
       | (exfalso; simp at hb8; done)
       | (exfalso; simp at hb8; omega)
       | (
        refine ST.skip ?_)
      rotate_right
      case' _ =>
       intro hb8
       first
       | (exfalso; simp at hb8; done)
       | (exfalso; simp at hb8; omega)
       | (
        refine ST.regionK fun K hK => ?_; simp -implicitDefEqProofs; repeat (refine And.intro (by clear hK; first | omega | (intros; simp_all; done) | (intros; grind)) ?_)
        refine hK _ ?_; clear hK K; refine ST.cond _ rfl (by simp) ?_ ?_
        case' refine_2 =>
         intro hb9
         first
         | (exfalso; simp at hb9; done)
         | (exfalso; simp at hb9; omega)
         | (
          refine ST.regionE fun K hK => ?_; simp -implicitDefEqProofs; repeat (refine And.intro (by clear hK; first | omega | (intros; simp_all; done) | (intros; grind)) ?_)
          fail
          simp -implicitDefEqProofs; repeat (refine And.intro (by clear hK; first | omega | (intros; simp_all; done) | (intros; grind)) ?_)
          refine hK _ ?_
          clear hK K)
        rotate_right
        case' _ =>
         intro hb9
         first
         | (exfalso; simp at hb9; done)
         | (exfalso; simp at hb9; omega)
         | (
          refine ST.regionE fun K hK => ?_; simp -implicitDefEqProofs; repeat (refine And.intro (by clear hK; first | omega | (intros; simp_all; done) | (intros; grind)) ?_)
          refine hK _ ?_
          clear hK K)))
     all_goals (
      refine hK3 _ ?_; refine ST.seqK fun K5 hK5 => ?_; refine ST.regionK fun K hK => ?_; simp -implicitDefEqProofs; repeat (refine And.intro (by clear hK; first | omega | (intros; simp_all; done) | (intros; grind)) ?_)
      refine hK _ ?_; clear hK K; refine ST.cond _ rfl (by simp) ?_ ?_
      case' refine_2 =>
       intro hb10
       first
       | (exfalso; simp at hb10; done)
       | (exfalso; simp at hb10; omega)
       | (
        refine ST.skip ?_)
      rotate_right
      case' _ =>
       intro hb10
       first
       | (exfalso; simp at hb10; done)
       | (exfalso; simp at hb10; omega)
       | (
        refine ST.regionE fun K hK => ?_; simp -implicitDefEqProofs; repeat (refine And.intro (by clear hK; first | omega | (intros; simp_all; done) | (intros; grind)) ?_)
        refine hK _ ?_
        clear hK K)
      all_goals (
       refine hK5 _ ?_; refine ST.regionK fun K hK => ?_; simp -implicitDefEqProofs; repeat (refine And.intro (by clear hK; first | omega | (intros; simp_all; done) | (intros; grind)) ?_)
       fail
       simp -implicitDefEqProofs; repeat (refine And.intro (by clear hK; first | omega | (intros; simp_all; done) | (intros; grind)) ?_)
       refine hK _ ?_; clear hK K; refine ST.ret ?_
       simp [Ex.then, Ex.ib]))))
  rotate_right
  case' _ =>
   intro hb1
   first
   | (exfalso; simp at hb1; done)
   | (exfalso; simp at hb1; omega)
   | (
    refine ST.regionK fun K hK => ?_; simp -implicitDefEqProofs; repeat (refine And.intro (by clear hK; first | omega | (intros; simp_all; done) | (intros; grind)) ?_)
    refine hK _ ?_; clear hK K; refine ST.ret ?_
    simp [Ex.then, Ex.ib])
theorem itText_i (i : Item) : FnT gA tabA Tryd.prog 18 [.agg i.cl] (.str (itT i)) := by
  cases hok : itemOk i with
  | false => rw [itT_no (by simp [hok])]; exact itText_in i hok
  | true =>
    obtain ⟨kind, obj, v, ok⟩ := i; have hc := itemOk_kind hok
    simp only [] at hc; rcases hc with rfl | rfl | rfl | rfl | rfl | rfl | rfl | rfl | rfl | rfl
    · exact itText_i1 obj v ok hok
    · exact itText_i2 obj v ok hok
    · exact itText_i3 obj v ok hok
    · exact itText_i4 obj v ok hok
    · exact itText_i5 obj v ok hok
    · exact itText_i6 obj v ok hok
    · exact itText_i7 obj v ok hok
    · exact itText_i8 obj v ok hok
    · exact itText_i9 obj v ok hok
    · exact itText_i10 obj v ok hok
end HT
