import Derived.Test.YtjalahhkhcmjaaaDoorHLQC
/-
  My own texts (road H): HLQCS.
-/
set_option linter.unusedSimpArgs false
set_option linter.unusedVariables false
namespace HT
open Go Go.Proofs HK
set_option maxHeartbeats 8000000 in
theorem itText_s (i : Item) : Fn Tryd.prog 13 [.agg i.cl] (.str (itT i)) := by
  refine Fn.intro Tryd.func13 (by decide) rfl (rs := [.tmp 2]) rfl Tryd.ntmps13 (by simp) ?_; obtain ⟨kind, obj, v, ok⟩ := i; have z1 := numB_size obj
  have z2 := anyB_size v (w := elseB) (by decide)
  refine SW.rg fun K hK => ?_; simp -implicitDefEqProofs; repeat (refine And.intro (by clear hK; first | omega | (intros; simp_all; done) | (intros; grind)) ?_)
  refine hK _ ?_; clear hK K; refine SW.seqK fun K1 hK1 => ?_; refine SW.rg fun K hK => ?_; simp -implicitDefEqProofs; repeat (refine And.intro (by clear hK; first | omega | (intros; simp_all; done) | (intros; grind)) ?_)
  first
    | refine CallQ.fzE (itemOk_s ⟨kind, obj, v, ok⟩) (by simp) ?_
    | refine CallK.fzE (itemOk_s ⟨kind, obj, v, ok⟩) (by simp) ?_
  simp -implicitDefEqProofs; repeat (refine And.intro (by clear hK; first | omega | (intros; simp_all; done) | (intros; grind)) ?_)
  first
    | refine CallQG.fzE (by simp) (fun _ => isNum_s obj) (by simp) ?_
    | refine CallG.fzE (by simp) (fun _ => isNum_s obj) (by simp) ?_
    | refine CallQ.fzE (isNum_s obj) (by simp) ?_
    | refine CallK.fzE (isNum_s obj) (by simp) ?_
  simp -implicitDefEqProofs; repeat (refine And.intro (by clear hK; first | omega | (intros; simp_all; done) | (intros; grind)) ?_)
  first
    | refine CallQG.fzE (by simp) (fun _ => isNum_s v) (by simp) ?_
    | refine CallG.fzE (by simp) (fun _ => isNum_s v) (by simp) ?_
    | refine CallQ.fzE (isNum_s v) (by simp) ?_
    | refine CallK.fzE (isNum_s v) (by simp) ?_
  simp -implicitDefEqProofs; repeat (refine And.intro (by clear hK; first | omega | (intros; simp_all; done) | (intros; grind)) ?_)
  refine hK _ ?_; clear hK K; refine SW.cond _ rfl (by simp) ?_ ?_
  case' refine_2 =>
   intro hb1
   first
   | (exfalso; simp at hb1; done)
   | (exfalso; simp at hb1; omega)
   | (
    have hgo : (itemOk ⟨kind, obj, v, ok⟩ && isNumB obj && okA v) = true := by revert hb1; simp only [okA]; cases itemOk ⟨kind, obj, v, ok⟩ <;> cases isNumB obj <;> cases isNumB v <;> by_cases h1 : v = -1 <;> simp [h1]
    have hres := itT_yes (i := ⟨kind, obj, v, ok⟩) hgo
    have hok : itemOk ⟨kind, obj, v, ok⟩ = true := by simp only [Bool.and_eq_true] at hgo; exact hgo.1.1
    clear hgo hb1; refine SW.skip ?_; refine hK1 _ ?_; have hc := itemOk_kind (i := ⟨kind, obj, v, ok⟩) hok
    simp only [] at hc; rcases hc with rfl | rfl | rfl | rfl | rfl | rfl | rfl | rfl | rfl | rfl
    all_goals (
     refine SW.rg fun K hK => ?_; simp -implicitDefEqProofs [ByteArray.size_append, bsz, IntKind.wrap, IntKind.bits, IntKind.signed]; repeat (refine And.intro (by clear hK; first | omega | (intros; simp_all; done) | (intros; grind)) ?_)
     refine hK _ ?_; clear hK K; refine SW.seqK fun K2 hK2 => ?_; refine SW.rg fun K hK => ?_; simp -implicitDefEqProofs; repeat (refine And.intro (by clear hK; first | omega | (intros; simp_all; done) | (intros; grind)) ?_)
     refine hK _ ?_; clear hK K; refine SW.cond _ rfl (by simp) ?_ ?_
     case' refine_2 =>
      intro hb2
      first
      | (exfalso; simp at hb2; done)
      | (exfalso; simp at hb2; omega)
      | (
       refine SW.skip ?_)
     rotate_right
     case' _ =>
      intro hb2
      first
      | (exfalso; simp at hb2; done)
      | (exfalso; simp at hb2; omega)
      | (
       refine SW.regionE fun K hK => ?_; simp -implicitDefEqProofs [ByteArray.size_append, bsz, IntKind.wrap, IntKind.bits, IntKind.signed]
       repeat (refine And.intro (by clear hK; first | omega | (intros; simp_all; done) | (intros; grind)) ?_)
       first
         | refine CallQ.fzE (numT_s obj) (by simp) ?_
         | refine CallK.fzE (numT_s obj) (by simp) ?_
       simp -implicitDefEqProofs [ByteArray.size_append, bsz, IntKind.wrap, IntKind.bits, IntKind.signed]; repeat (refine And.intro (by clear hK; first | omega | (intros; simp_all; done) | (intros; grind)) ?_)
       refine hK _ ?_
       clear hK K)
     all_goals (
      refine hK2 _ ?_; refine SW.seqK fun K3 hK3 => ?_; refine SW.rg fun K hK => ?_; simp -implicitDefEqProofs; repeat (refine And.intro (by clear hK; first | omega | (intros; simp_all; done) | (intros; grind)) ?_)
      refine hK _ ?_; clear hK K; refine SW.block ?_; refine SW.seqK fun K4 hK4 => ?_; refine SW.rg fun K hK => ?_; simp -implicitDefEqProofs
      repeat (refine And.intro (by clear hK; first | omega | (intros; simp_all; done) | (intros; grind)) ?_)
      refine hK _ ?_; clear hK K; refine SW.cond _ rfl (by simp) ?_ ?_
      case' refine_2 =>
       intro hb3
       first
       | (exfalso; simp at hb3; done)
       | (exfalso; simp at hb3; omega)
       | (
        refine SW.rg fun K hK => ?_; simp -implicitDefEqProofs; repeat (refine And.intro (by clear hK; first | omega | (intros; simp_all; done) | (intros; grind)) ?_)
        refine hK _ ?_; clear hK K; refine SW.cond _ rfl (by simp) ?_ ?_
        case' refine_2 =>
         intro hb4
         first
         | (exfalso; simp at hb4; done)
         | (exfalso; simp at hb4; omega)
         | (
          refine SW.rg fun K hK => ?_; simp -implicitDefEqProofs; repeat (refine And.intro (by clear hK; first | omega | (intros; simp_all; done) | (intros; grind)) ?_)
          refine hK _ ?_; clear hK K; refine SW.cond _ rfl (by simp) ?_ ?_
          case' refine_2 =>
           intro hb5
           first
           | (exfalso; simp at hb5; done)
           | (exfalso; simp at hb5; omega)
           | (
            refine SW.rg fun K hK => ?_; simp -implicitDefEqProofs; repeat (refine And.intro (by clear hK; first | omega | (intros; simp_all; done) | (intros; grind)) ?_)
            refine hK _ ?_; clear hK K; refine SW.cond _ rfl (by simp) ?_ ?_
            case' refine_2 =>
             intro hb6
             first
             | (exfalso; simp at hb6; done)
             | (exfalso; simp at hb6; omega)
             | (
              refine SW.rg fun K hK => ?_; simp -implicitDefEqProofs; repeat (refine And.intro (by clear hK; first | omega | (intros; simp_all; done) | (intros; grind)) ?_)
              refine hK _ ?_; clear hK K; refine SW.cond _ rfl (by simp) ?_ ?_
              case' refine_2 =>
               intro hb7
               first
               | (exfalso; simp at hb7; done)
               | (exfalso; simp at hb7; omega)
               | (
                refine SW.regionE fun K hK => ?_; simp -implicitDefEqProofs; repeat (refine And.intro (by clear hK; first | omega | (intros; simp_all; done) | (intros; grind)) ?_)
                refine hK _ ?_
                clear hK K)
              rotate_right
              case' _ =>
               intro hb7
               first
               | (exfalso; simp at hb7; done)
               | (exfalso; simp at hb7; omega)
               | (
                refine SW.skip ?_))
            rotate_right
            case' _ =>
             intro hb6
             first
             | (exfalso; simp at hb6; done)
             | (exfalso; simp at hb6; omega)
             | (
              refine SW.skip ?_))
          rotate_right
          case' _ =>
           intro hb5
           first
           | (exfalso; simp at hb5; done)
           | (exfalso; simp at hb5; omega)
           | (
            refine SW.skip ?_))
        rotate_right
        case' _ =>
         intro hb4
         first
         | (exfalso; simp at hb4; done)
         | (exfalso; simp at hb4; omega)
         | (
          refine SW.skip ?_))
      rotate_right
      case' _ =>
       intro hb3
       first
       | (exfalso; simp at hb3; done)
       | (exfalso; simp at hb3; omega)
       | (
        refine SW.skip ?_)
      all_goals (
       refine hK4 _ ?_; refine SW.cond _ rfl (by simp) ?_ ?_
       case' refine_2 =>
        intro hb8
        first
        | (exfalso; simp at hb8; done)
        | (exfalso; simp at hb8; omega)
        | (
         refine SW.skip ?_)
       rotate_right
       case' _ =>
        intro hb8
        first
        | (exfalso; simp at hb8; done)
        | (exfalso; simp at hb8; omega)
        | (
         refine SW.rg fun K hK => ?_; simp -implicitDefEqProofs; repeat (refine And.intro (by clear hK; first | omega | (intros; simp_all; done) | (intros; grind)) ?_)
         first
           | refine CallQ.fzE (l05Num_s v elseB) (by simp) ?_
           | refine CallK.fzE (l05Num_s v elseB) (by simp) ?_
         simp -implicitDefEqProofs; repeat (refine And.intro (by clear hK; first | omega | (intros; simp_all; done) | (intros; grind)) ?_)
         refine hK _ ?_; clear hK K; refine SW.regionE fun K hK => ?_; simp -implicitDefEqProofs [ByteArray.size_append, bsz, IntKind.wrap, IntKind.bits, IntKind.signed]
         repeat (refine And.intro (by clear hK; first | omega | (intros; simp_all; done) | (intros; grind)) ?_)
         refine hK _ ?_
         clear hK K))
      all_goals (
       refine hK3 _ ?_; refine SW.seqK fun K5 hK5 => ?_; refine SW.rg fun K hK => ?_; simp -implicitDefEqProofs; repeat (refine And.intro (by clear hK; first | omega | (intros; simp_all; done) | (intros; grind)) ?_)
       refine hK _ ?_; clear hK K; refine SW.cond _ rfl (by simp) ?_ ?_
       case' refine_2 =>
        intro hb9
        first
        | (exfalso; simp at hb9; done)
        | (exfalso; simp at hb9; omega)
        | (
         refine SW.skip ?_)
       rotate_right
       case' _ =>
        intro hb9
        first
        | (exfalso; simp at hb9; done)
        | (exfalso; simp at hb9; omega)
        | (
         refine SW.regionE fun K hK => ?_; simp -implicitDefEqProofs [ByteArray.size_append, bsz, IntKind.wrap, IntKind.bits, IntKind.signed]
         repeat (refine And.intro (by clear hK; first | omega | (intros; simp_all; done) | (intros; grind)) ?_)
         refine hK _ ?_
         clear hK K)
       all_goals (
        refine hK5 _ ?_; refine SW.rg fun K hK => ?_; simp -implicitDefEqProofs; repeat (refine And.intro (by clear hK; first | omega | (intros; simp_all; done) | (intros; grind)) ?_)
        refine hK _ ?_; clear hK K; refine SW.ret ?_; simp [Ex.then, Ex.ib]
        all_goals first
          | (rw [hres]; done)
          | (rw [hres]; simp [itL, itW, kindsB, objB, valB, zerB, joinB, ByteArray.append_assoc]; done)
          | (rw [hres, spZero]; have h9 : ok = false := (by simpa using hb9); subst h9; simp [itL, itW, kindsB, objB, valB, zerB, joinB, ByteArray.append_assoc]; done)
          | (rw [hres]; have h9 : ok = true := (by simpa using hb9); subst h9; simp [itL, itW, kindsB, objB, valB, zerB, joinB, ByteArray.append_assoc]; done)
          | fail)))))
  rotate_right
  case' _ =>
   intro hb1
   first
   | (exfalso; simp at hb1; done)
   | (exfalso; simp at hb1; omega)
   | (
    have hres : itT ⟨kind, obj, v, ok⟩ = noB := itT_no (by revert hb1; simp only [okA]; cases itemOk ⟨kind, obj, v, ok⟩ <;> cases isNumB obj <;> cases isNumB v <;> by_cases h1 : v = -1 <;> simp [h1])
    refine SW.rg fun K hK => ?_; simp -implicitDefEqProofs; repeat (refine And.intro (by clear hK; first | omega | (intros; simp_all; done) | (intros; grind)) ?_)
    refine hK _ ?_; clear hK K; refine SW.ret ?_; simp [Ex.then, Ex.ib]
    all_goals first
      | (rw [hres]; done)
      | (rw [hres]; simp [itL, itW, kindsB, objB, valB, zerB, joinB, ByteArray.append_assoc]; done)
      | (rw [hres, spZero]; have h9 : ok = false := (by simpa using hb9); subst h9; simp [itL, itW, kindsB, objB, valB, zerB, joinB, ByteArray.append_assoc]; done)
      | (rw [hres]; have h9 : ok = true := (by simpa using hb9); subst h9; simp [itL, itW, kindsB, objB, valB, zerB, joinB, ByteArray.append_assoc]; done)
      | fail)
end HT
