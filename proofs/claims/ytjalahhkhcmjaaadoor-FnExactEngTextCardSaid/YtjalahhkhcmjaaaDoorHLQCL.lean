import Derived.Test.YtjalahhkhcmjaaaDoorHLQCI
/-
  My own texts (road H): HLQCL.
-/
set_option linter.unusedSimpArgs false
set_option linter.unusedVariables false
namespace HT
open Go Go.Proofs HK
set_option maxHeartbeats 1000000 in
theorem itText_i8 (obj v : Int) (ok : Bool) (hok : itemOk ⟨8, obj, v, ok⟩ = true) : FnT gA tabA Tryd.prog 18 [.agg (Item.cl ⟨8, obj, v, ok⟩)] (.str (itT ⟨8, obj, v, ok⟩)) := by
  refine FnT.intro Tryd.func18 (by decide) rfl (rs := [.tmp 2]) rfl Tryd.ntmps18 (by simp) ?_; have z1 := numB_size obj
  have z3 := numB_size v
  refine ST.regionK fun K hK => ?_; simp -implicitDefEqProofs; repeat (refine And.intro (by clear hK; first | omega | (intros; simp_all; done) | (intros; grind)) ?_)
  refine hK _ ?_; clear hK K; refine ST.seqK fun K1 hK1 => ?_; refine ST.regionK fun K hK => ?_; simp -implicitDefEqProofs; repeat (refine And.intro (by clear hK; first | omega | (intros; simp_all; done) | (intros; grind)) ?_)
  first
    | refine CallQ.fzE ((show Fn Tryd.prog 32 [.agg (Item.cl ⟨8, obj, v, ok⟩)] (.bool true) by have h := itemOk_i ⟨8, obj, v, ok⟩; rwa [hok] at h)) (by simp) ?_
    | refine CallK.fzE ((show Fn Tryd.prog 32 [.agg (Item.cl ⟨8, obj, v, ok⟩)] (.bool true) by have h := itemOk_i ⟨8, obj, v, ok⟩; rwa [hok] at h)) (by simp) ?_
  simp -implicitDefEqProofs; repeat (refine And.intro (by clear hK; first | omega | (intros; simp_all; done) | (intros; grind)) ?_)
  refine hK _ ?_; clear hK K; refine ST.cond _ rfl (by simp) ?_ ?_
  case' refine_2 =>
   intro hb1
   first
   | (exfalso; simp at hb1; done)
   | (exfalso; simp at hb1; omega)
   | (
    refine ST.skip ?_; refine hK1 _ ?_; refine ST.drawTK (G := (gA, tabA)) mixed [.q [(0, false), (1, false), (2, false), (3, false), (4, false), (5, false), (6, true), (7, false)]] (by kernel_rfl) rfl fun K hK => ?_
    simp -implicitDefEqProofs [IntKind.wrap, IntKind.bits, IntKind.signed]; repeat (refine And.intro (by clear hK; first | omega | (intros; simp_all; done) | (intros; grind)) ?_)
    refine CallQT.fzE kindsF (by simp) ?_; simp -implicitDefEqProofs [IntKind.wrap, IntKind.bits, IntKind.signed]; repeat (refine And.intro (by clear hK; first | omega | (intros; simp_all; done) | (intros; grind)) ?_)
    refine hK _ ?_; clear hK K; refine ST.seqK fun K2 hK2 => ?_; refine ST.regionK fun K hK => ?_; simp -implicitDefEqProofs; repeat (refine And.intro (by clear hK; first | omega | (intros; simp_all; done) | (intros; grind)) ?_)
    refine hK _ ?_; clear hK K; refine ST.cond _ rfl (by simp) ?_ ?_
    case' refine_2 =>
     intro hb2
     first
     | (exfalso; simp at hb2; done)
     | (exfalso; simp at hb2; omega)
     | (
      refine ST.skip ?_)
    rotate_right
    case' _ =>
     intro hb2
     first
     | (exfalso; simp at hb2; done)
     | (exfalso; simp at hb2; omega)
     | (
      refine ST.regionE fun K hK => ?_; simp -implicitDefEqProofs; repeat (refine And.intro (by clear hK; first | omega | (intros; simp_all; done) | (intros; grind)) ?_)
      first
        | refine CallQ.fzE (numT_i v) (by simp) ?_
        | refine CallK.fzE (numT_i v) (by simp) ?_
      simp -implicitDefEqProofs; repeat (refine And.intro (by clear hK; first | omega | (intros; simp_all; done) | (intros; grind)) ?_)
      refine hK _ ?_
      clear hK K)
    all_goals (
     refine hK2 _ ?_; refine ST.seqK fun K3 hK3 => ?_; refine ST.regionK fun K hK => ?_; simp -implicitDefEqProofs; repeat (refine And.intro (by clear hK; first | omega | (intros; simp_all; done) | (intros; grind)) ?_)
     refine hK _ ?_; clear hK K; refine ST.block ?_; refine ST.seqK fun K4 hK4 => ?_; refine ST.regionK fun K hK => ?_; simp -implicitDefEqProofs
     repeat (refine And.intro (by clear hK; first | omega | (intros; simp_all; done) | (intros; grind)) ?_)
     refine hK _ ?_; clear hK K; refine ST.cond _ rfl (by simp) ?_ ?_
     case' refine_2 =>
      intro hb3
      first
      | (exfalso; simp at hb3; done)
      | (exfalso; simp at hb3; omega)
      | (
       refine ST.regionK fun K hK => ?_; simp -implicitDefEqProofs; repeat (refine And.intro (by clear hK; first | omega | (intros; simp_all; done) | (intros; grind)) ?_)
       refine hK _ ?_; clear hK K; refine ST.cond _ rfl (by simp) ?_ ?_
       case' refine_2 =>
        intro hb4
        first
        | (exfalso; simp at hb4; done)
        | (exfalso; simp at hb4; omega)
        | (
         refine ST.regionK fun K hK => ?_; simp -implicitDefEqProofs; repeat (refine And.intro (by clear hK; first | omega | (intros; simp_all; done) | (intros; grind)) ?_)
         refine hK _ ?_; clear hK K; refine ST.cond _ rfl (by simp) ?_ ?_
         case' refine_2 =>
          intro hb5
          first
          | (exfalso; simp at hb5; done)
          | (exfalso; simp at hb5; omega)
          | (
           refine ST.regionK fun K hK => ?_; simp -implicitDefEqProofs; repeat (refine And.intro (by clear hK; first | omega | (intros; simp_all; done) | (intros; grind)) ?_)
           refine hK _ ?_; clear hK K; refine ST.cond _ rfl (by simp) ?_ ?_
           case' refine_2 =>
            intro hb6
            first
            | (exfalso; simp at hb6; done)
            | (exfalso; simp at hb6; omega)
            | (
             refine ST.regionK fun K hK => ?_; simp -implicitDefEqProofs; repeat (refine And.intro (by clear hK; first | omega | (intros; simp_all; done) | (intros; grind)) ?_)
             refine hK _ ?_; clear hK K; refine ST.cond _ rfl (by simp) ?_ ?_
             case' refine_2 =>
              intro hb7
              first
              | (exfalso; simp at hb7; done)
              | (exfalso; simp at hb7; omega)
              | (
               refine ST.regionE fun K hK => ?_; simp -implicitDefEqProofs; repeat (refine And.intro (by clear hK; first | omega | (intros; simp_all; done) | (intros; grind)) ?_)
               refine hK _ ?_
               clear hK K)
             rotate_right
             case' _ =>
              intro hb7
              first
              | (exfalso; simp at hb7; done)
              | (exfalso; simp at hb7; omega)
              | (
               refine ST.skip ?_))
           rotate_right
           case' _ =>
            intro hb6
            first
            | (exfalso; simp at hb6; done)
            | (exfalso; simp at hb6; omega)
            | (
             refine ST.skip ?_))
         rotate_right
         case' _ =>
          intro hb5
          first
          | (exfalso; simp at hb5; done)
          | (exfalso; simp at hb5; omega)
          | (
           refine ST.skip ?_))
       rotate_right
       case' _ =>
        intro hb4
        first
        | (exfalso; simp at hb4; done)
        | (exfalso; simp at hb4; omega)
        | (
         refine ST.skip ?_))
     rotate_right
     case' _ =>
      intro hb3
      first
      | (exfalso; simp at hb3; done)
      | (exfalso; simp at hb3; omega)
      | (
       refine ST.skip ?_)
     all_goals (
      refine hK4 _ ?_; refine ST.cond _ rfl (by simp) ?_ ?_
      case' refine_2 =>
       intro hb8
       first
       | (exfalso; simp at hb8; done)
       | (exfalso; simp at hb8; omega)
       | (
        refine ST.skip ?_)
      rotate_right
      case' _ =>
       intro hb8
       first
       | (exfalso; simp at hb8; done)
       | (exfalso; simp at hb8; omega)
       | (
        refine ST.regionK fun K hK => ?_; simp -implicitDefEqProofs; repeat (refine And.intro (by clear hK; first | omega | (intros; simp_all; done) | (intros; grind)) ?_)
        refine hK _ ?_; clear hK K; refine ST.cond _ rfl (by simp) ?_ ?_
        case' refine_2 =>
         intro hb9
         first
         | (exfalso; simp at hb9; done)
         | (exfalso; simp at hb9; omega)
         | (
          have kN : ¬ v = -1 := by simpa using hb9
          have hv : anyB v elseB = numB v := if_neg kN
          refine ST.regionE fun K hK => ?_; simp -implicitDefEqProofs; repeat (refine And.intro (by clear hK; first | omega | (intros; simp_all; done) | (intros; grind)) ?_)
          first
            | refine CallQ.fzE (numT_i v) (by simp) ?_
            | refine CallK.fzE (numT_i v) (by simp) ?_
          simp -implicitDefEqProofs; repeat (refine And.intro (by clear hK; first | omega | (intros; simp_all; done) | (intros; grind)) ?_)
          refine hK _ ?_
          clear hK K)
        rotate_right
        case' _ =>
         intro hb9
         first
         | (exfalso; simp at hb9; done)
         | (exfalso; simp at hb9; omega)
         | (
          have kE : v = -1 := by simpa using hb9
          have hv : anyB v elseB = elseB := if_pos kE
          refine ST.regionE fun K hK => ?_; simp -implicitDefEqProofs; repeat (refine And.intro (by clear hK; first | omega | (intros; simp_all; done) | (intros; grind)) ?_)
          refine hK _ ?_
          clear hK K)))
     all_goals (
      refine hK3 _ ?_; refine ST.seqK fun K5 hK5 => ?_; refine ST.regionK fun K hK => ?_; simp -implicitDefEqProofs; repeat (refine And.intro (by clear hK; first | omega | (intros; simp_all; done) | (intros; grind)) ?_)
      refine hK _ ?_; clear hK K; refine ST.cond _ rfl (by simp) ?_ ?_
      case' refine_2 =>
       intro hb10
       first
       | (exfalso; simp at hb10; done)
       | (exfalso; simp at hb10; omega)
       | (
        have kO := True.intro
        refine ST.skip ?_)
      rotate_right
      case' _ =>
       intro hb10
       first
       | (exfalso; simp at hb10; done)
       | (exfalso; simp at hb10; omega)
       | (
        have kZ : ok = false := by simpa using hb10
        have hz := kZ
        refine ST.regionE fun K hK => ?_; simp -implicitDefEqProofs; repeat (refine And.intro (by clear hK; first | omega | (intros; simp_all; done) | (intros; grind)) ?_)
        refine hK _ ?_
        clear hK K)
      all_goals (
       refine hK5 _ ?_; refine ST.regionK fun K hK => ?_; simp -implicitDefEqProofs; repeat (refine And.intro (by clear hK; first | omega | (intros; simp_all; done) | (intros; grind)) ?_)
       first
         | (have _ := kE; have kK : joinW [⟨#[112, 114, 105, 110, 116, 101, 100]⟩, elseB] spB = itT ⟨8, obj, v, ok⟩ := (by rw [← it_join (i := ⟨8, obj, v, ok⟩) hok]; simp [itL, itW, kindsB, objB, valB, zerB, hv]); refine CallS.mono (CallS.frame [3] (joined_i [⟨#[112, 114, 105, 110, 116, 101, 100]⟩, elseB] spB (by simp only [joinB, ByteArray.size_append, bsz]; simp <;> omega) (by simp)) (by simp) (by simp [lowN]) (by simp) (by simp) (by simp [renH]) (by simp) (by simp) ?_) ?_)
         | (have _ := kN; have kK : joinW [⟨#[112, 114, 105, 110, 116, 101, 100]⟩, numB v] spB = itT ⟨8, obj, v, ok⟩ := (by rw [← it_join (i := ⟨8, obj, v, ok⟩) hok]; simp [itL, itW, kindsB, objB, valB, zerB, hv]); refine CallS.mono (CallS.frame [3] (joined_i [⟨#[112, 114, 105, 110, 116, 101, 100]⟩, numB v] spB (by simp only [joinB, ByteArray.size_append, bsz]; simp <;> omega) (by simp)) (by simp) (by simp [lowN]) (by simp) (by simp) (by simp [renH]) (by simp) (by simp) ?_) ?_)
       · rintro o h' ⟨rfl, rfl⟩
         exact ⟨by simp, by simp [nfzB, lowN, nfz, strN], rfl, rfl⟩
       rintro o h' ⟨o0, h0, ⟨rfl, rfl⟩, rfl, rfl⟩
       simp -implicitDefEqProofs; repeat (refine And.intro (by clear hK; first | omega | (intros; simp_all; done) | (intros; grind)) ?_)
       refine hK _ ?_; clear hK K; refine ST.ret ?_; simp [Ex.then, Ex.ib]
       all_goals first
         | exact kK
         | fail))))
  rotate_right
  case' _ =>
   intro hb1
   first
   | (exfalso; simp at hb1; done)
   | (exfalso; simp at hb1; omega)
   | (
    refine ST.regionK fun K hK => ?_; simp -implicitDefEqProofs; repeat (refine And.intro (by clear hK; first | omega | (intros; simp_all; done) | (intros; grind)) ?_)
    refine hK _ ?_; clear hK K; refine ST.ret ?_; simp [Ex.then, Ex.ib]
    all_goals first
      | exact kK
      | fail)
set_option maxHeartbeats 1000000 in
theorem itText_i9 (obj v : Int) (ok : Bool) (hok : itemOk ⟨9, obj, v, ok⟩ = true) : FnT gA tabA Tryd.prog 18 [.agg (Item.cl ⟨9, obj, v, ok⟩)] (.str (itT ⟨9, obj, v, ok⟩)) := by
  refine FnT.intro Tryd.func18 (by decide) rfl (rs := [.tmp 2]) rfl Tryd.ntmps18 (by simp) ?_; have z1 := numB_size obj
  have z3 := numB_size v
  refine ST.regionK fun K hK => ?_; simp -implicitDefEqProofs; repeat (refine And.intro (by clear hK; first | omega | (intros; simp_all; done) | (intros; grind)) ?_)
  refine hK _ ?_; clear hK K; refine ST.seqK fun K1 hK1 => ?_; refine ST.regionK fun K hK => ?_; simp -implicitDefEqProofs; repeat (refine And.intro (by clear hK; first | omega | (intros; simp_all; done) | (intros; grind)) ?_)
  first
    | refine CallQ.fzE ((show Fn Tryd.prog 32 [.agg (Item.cl ⟨9, obj, v, ok⟩)] (.bool true) by have h := itemOk_i ⟨9, obj, v, ok⟩; rwa [hok] at h)) (by simp) ?_
    | refine CallK.fzE ((show Fn Tryd.prog 32 [.agg (Item.cl ⟨9, obj, v, ok⟩)] (.bool true) by have h := itemOk_i ⟨9, obj, v, ok⟩; rwa [hok] at h)) (by simp) ?_
  simp -implicitDefEqProofs; repeat (refine And.intro (by clear hK; first | omega | (intros; simp_all; done) | (intros; grind)) ?_)
  refine hK _ ?_; clear hK K; refine ST.cond _ rfl (by simp) ?_ ?_
  case' refine_2 =>
   intro hb1
   first
   | (exfalso; simp at hb1; done)
   | (exfalso; simp at hb1; omega)
   | (
    refine ST.skip ?_; refine hK1 _ ?_; refine ST.drawTK (G := (gA, tabA)) mixed [.q [(0, false), (1, false), (2, false), (3, false), (4, false), (5, false), (6, true), (7, false)]] (by kernel_rfl) rfl fun K hK => ?_
    simp -implicitDefEqProofs [IntKind.wrap, IntKind.bits, IntKind.signed]; repeat (refine And.intro (by clear hK; first | omega | (intros; simp_all; done) | (intros; grind)) ?_)
    refine CallQT.fzE kindsF (by simp) ?_; simp -implicitDefEqProofs [IntKind.wrap, IntKind.bits, IntKind.signed]; repeat (refine And.intro (by clear hK; first | omega | (intros; simp_all; done) | (intros; grind)) ?_)
    refine hK _ ?_; clear hK K; refine ST.seqK fun K2 hK2 => ?_; refine ST.regionK fun K hK => ?_; simp -implicitDefEqProofs; repeat (refine And.intro (by clear hK; first | omega | (intros; simp_all; done) | (intros; grind)) ?_)
    refine hK _ ?_; clear hK K; refine ST.cond _ rfl (by simp) ?_ ?_
    case' refine_2 =>
     intro hb2
     first
     | (exfalso; simp at hb2; done)
     | (exfalso; simp at hb2; omega)
     | (
      refine ST.skip ?_)
    rotate_right
    case' _ =>
     intro hb2
     first
     | (exfalso; simp at hb2; done)
     | (exfalso; simp at hb2; omega)
     | (
      refine ST.regionE fun K hK => ?_; simp -implicitDefEqProofs; repeat (refine And.intro (by clear hK; first | omega | (intros; simp_all; done) | (intros; grind)) ?_)
      first
        | refine CallQ.fzE (numT_i v) (by simp) ?_
        | refine CallK.fzE (numT_i v) (by simp) ?_
      simp -implicitDefEqProofs; repeat (refine And.intro (by clear hK; first | omega | (intros; simp_all; done) | (intros; grind)) ?_)
      refine hK _ ?_
      clear hK K)
    all_goals (
     refine hK2 _ ?_; refine ST.seqK fun K3 hK3 => ?_; refine ST.regionK fun K hK => ?_; simp -implicitDefEqProofs; repeat (refine And.intro (by clear hK; first | omega | (intros; simp_all; done) | (intros; grind)) ?_)
     refine hK _ ?_; clear hK K; refine ST.block ?_; refine ST.seqK fun K4 hK4 => ?_; refine ST.regionK fun K hK => ?_; simp -implicitDefEqProofs
     repeat (refine And.intro (by clear hK; first | omega | (intros; simp_all; done) | (intros; grind)) ?_)
     refine hK _ ?_; clear hK K; refine ST.cond _ rfl (by simp) ?_ ?_
     case' refine_2 =>
      intro hb3
      first
      | (exfalso; simp at hb3; done)
      | (exfalso; simp at hb3; omega)
      | (
       refine ST.regionK fun K hK => ?_; simp -implicitDefEqProofs; repeat (refine And.intro (by clear hK; first | omega | (intros; simp_all; done) | (intros; grind)) ?_)
       refine hK _ ?_; clear hK K; refine ST.cond _ rfl (by simp) ?_ ?_
       case' refine_2 =>
        intro hb4
        first
        | (exfalso; simp at hb4; done)
        | (exfalso; simp at hb4; omega)
        | (
         refine ST.regionK fun K hK => ?_; simp -implicitDefEqProofs; repeat (refine And.intro (by clear hK; first | omega | (intros; simp_all; done) | (intros; grind)) ?_)
         refine hK _ ?_; clear hK K; refine ST.cond _ rfl (by simp) ?_ ?_
         case' refine_2 =>
          intro hb5
          first
          | (exfalso; simp at hb5; done)
          | (exfalso; simp at hb5; omega)
          | (
           refine ST.regionK fun K hK => ?_; simp -implicitDefEqProofs; repeat (refine And.intro (by clear hK; first | omega | (intros; simp_all; done) | (intros; grind)) ?_)
           refine hK _ ?_; clear hK K; refine ST.cond _ rfl (by simp) ?_ ?_
           case' refine_2 =>
            intro hb6
            first
            | (exfalso; simp at hb6; done)
            | (exfalso; simp at hb6; omega)
            | (
             refine ST.regionK fun K hK => ?_; simp -implicitDefEqProofs; repeat (refine And.intro (by clear hK; first | omega | (intros; simp_all; done) | (intros; grind)) ?_)
             refine hK _ ?_; clear hK K; refine ST.cond _ rfl (by simp) ?_ ?_
             case' refine_2 =>
              intro hb7
              first
              | (exfalso; simp at hb7; done)
              | (exfalso; simp at hb7; omega)
              | (
               refine ST.regionE fun K hK => ?_; simp -implicitDefEqProofs; repeat (refine And.intro (by clear hK; first | omega | (intros; simp_all; done) | (intros; grind)) ?_)
               refine hK _ ?_
               clear hK K)
             rotate_right
             case' _ =>
              intro hb7
              first
              | (exfalso; simp at hb7; done)
              | (exfalso; simp at hb7; omega)
              | (
               refine ST.skip ?_))
           rotate_right
           case' _ =>
            intro hb6
            first
            | (exfalso; simp at hb6; done)
            | (exfalso; simp at hb6; omega)
            | (
             refine ST.skip ?_))
         rotate_right
         case' _ =>
          intro hb5
          first
          | (exfalso; simp at hb5; done)
          | (exfalso; simp at hb5; omega)
          | (
           refine ST.skip ?_))
       rotate_right
       case' _ =>
        intro hb4
        first
        | (exfalso; simp at hb4; done)
        | (exfalso; simp at hb4; omega)
        | (
         refine ST.skip ?_))
     rotate_right
     case' _ =>
      intro hb3
      first
      | (exfalso; simp at hb3; done)
      | (exfalso; simp at hb3; omega)
      | (
       refine ST.skip ?_)
     all_goals (
      refine hK4 _ ?_; refine ST.cond _ rfl (by simp) ?_ ?_
      case' refine_2 =>
       intro hb8
       first
       | (exfalso; simp at hb8; done)
       | (exfalso; simp at hb8; omega)
       | (
        refine ST.skip ?_)
      rotate_right
      case' _ =>
       intro hb8
       first
       | (exfalso; simp at hb8; done)
       | (exfalso; simp at hb8; omega)
       | (
        refine ST.regionK fun K hK => ?_; simp -implicitDefEqProofs; repeat (refine And.intro (by clear hK; first | omega | (intros; simp_all; done) | (intros; grind)) ?_)
        refine hK _ ?_; clear hK K; refine ST.cond _ rfl (by simp) ?_ ?_
        case' refine_2 =>
         intro hb9
         first
         | (exfalso; simp at hb9; done)
         | (exfalso; simp at hb9; omega)
         | (
          have kN : ¬ v = -1 := by simpa using hb9
          have hv : anyB v elseB = numB v := if_neg kN
          refine ST.regionE fun K hK => ?_; simp -implicitDefEqProofs; repeat (refine And.intro (by clear hK; first | omega | (intros; simp_all; done) | (intros; grind)) ?_)
          first
            | refine CallQ.fzE (numT_i v) (by simp) ?_
            | refine CallK.fzE (numT_i v) (by simp) ?_
          simp -implicitDefEqProofs; repeat (refine And.intro (by clear hK; first | omega | (intros; simp_all; done) | (intros; grind)) ?_)
          refine hK _ ?_
          clear hK K)
        rotate_right
        case' _ =>
         intro hb9
         first
         | (exfalso; simp at hb9; done)
         | (exfalso; simp at hb9; omega)
         | (
          have kE : v = -1 := by simpa using hb9
          have hv : anyB v elseB = elseB := if_pos kE
          refine ST.regionE fun K hK => ?_; simp -implicitDefEqProofs; repeat (refine And.intro (by clear hK; first | omega | (intros; simp_all; done) | (intros; grind)) ?_)
          refine hK _ ?_
          clear hK K)))
     all_goals (
      refine hK3 _ ?_; refine ST.seqK fun K5 hK5 => ?_; refine ST.regionK fun K hK => ?_; simp -implicitDefEqProofs; repeat (refine And.intro (by clear hK; first | omega | (intros; simp_all; done) | (intros; grind)) ?_)
      refine hK _ ?_; clear hK K; refine ST.cond _ rfl (by simp) ?_ ?_
      case' refine_2 =>
       intro hb10
       first
       | (exfalso; simp at hb10; done)
       | (exfalso; simp at hb10; omega)
       | (
        have kO := True.intro
        refine ST.skip ?_)
      rotate_right
      case' _ =>
       intro hb10
       first
       | (exfalso; simp at hb10; done)
       | (exfalso; simp at hb10; omega)
       | (
        have kZ : ok = false := by simpa using hb10
        have hz := kZ
        refine ST.regionE fun K hK => ?_; simp -implicitDefEqProofs; repeat (refine And.intro (by clear hK; first | omega | (intros; simp_all; done) | (intros; grind)) ?_)
        refine hK _ ?_
        clear hK K)
      all_goals (
       refine hK5 _ ?_; refine ST.regionK fun K hK => ?_; simp -implicitDefEqProofs; repeat (refine And.intro (by clear hK; first | omega | (intros; simp_all; done) | (intros; grind)) ?_)
       first
         | (have kK : joinW [⟨#[100, 111, 110, 101]⟩] spB = itT ⟨9, obj, v, ok⟩ := (by rw [← it_join (i := ⟨9, obj, v, ok⟩) hok]; simp [itL, itW, kindsB, objB, valB, zerB]); refine CallS.mono (CallS.frame [1] (joined_i [⟨#[100, 111, 110, 101]⟩] spB (by simp only [joinB, ByteArray.size_append, bsz]; simp <;> omega) (by simp)) (by simp) (by simp [lowN]) (by simp) (by simp) (by simp [renH]) (by simp) (by simp) ?_) ?_)
       · rintro o h' ⟨rfl, rfl⟩
         exact ⟨by simp, by simp [nfzB, lowN, nfz, strN], rfl, rfl⟩
       rintro o h' ⟨o0, h0, ⟨rfl, rfl⟩, rfl, rfl⟩
       simp -implicitDefEqProofs; repeat (refine And.intro (by clear hK; first | omega | (intros; simp_all; done) | (intros; grind)) ?_)
       refine hK _ ?_; clear hK K; refine ST.ret ?_; simp [Ex.then, Ex.ib]
       all_goals first
         | exact kK
         | fail))))
  rotate_right
  case' _ =>
   intro hb1
   first
   | (exfalso; simp at hb1; done)
   | (exfalso; simp at hb1; omega)
   | (
    refine ST.regionK fun K hK => ?_; simp -implicitDefEqProofs; repeat (refine And.intro (by clear hK; first | omega | (intros; simp_all; done) | (intros; grind)) ?_)
    refine hK _ ?_; clear hK K; refine ST.ret ?_; simp [Ex.then, Ex.ib]
    all_goals first
      | exact kK
      | fail)
set_option maxHeartbeats 1000000 in
theorem itText_i10 (obj v : Int) (ok : Bool) (hok : itemOk ⟨10, obj, v, ok⟩ = true) : FnT gA tabA Tryd.prog 18 [.agg (Item.cl ⟨10, obj, v, ok⟩)] (.str (itT ⟨10, obj, v, ok⟩)) := by
  refine FnT.intro Tryd.func18 (by decide) rfl (rs := [.tmp 2]) rfl Tryd.ntmps18 (by simp) ?_; have z1 := numB_size obj
  have z3 := numB_size v
  refine ST.regionK fun K hK => ?_; simp -implicitDefEqProofs; repeat (refine And.intro (by clear hK; first | omega | (intros; simp_all; done) | (intros; grind)) ?_)
  refine hK _ ?_; clear hK K; refine ST.seqK fun K1 hK1 => ?_; refine ST.regionK fun K hK => ?_; simp -implicitDefEqProofs; repeat (refine And.intro (by clear hK; first | omega | (intros; simp_all; done) | (intros; grind)) ?_)
  first
    | refine CallQ.fzE ((show Fn Tryd.prog 32 [.agg (Item.cl ⟨10, obj, v, ok⟩)] (.bool true) by have h := itemOk_i ⟨10, obj, v, ok⟩; rwa [hok] at h)) (by simp) ?_
    | refine CallK.fzE ((show Fn Tryd.prog 32 [.agg (Item.cl ⟨10, obj, v, ok⟩)] (.bool true) by have h := itemOk_i ⟨10, obj, v, ok⟩; rwa [hok] at h)) (by simp) ?_
  simp -implicitDefEqProofs; repeat (refine And.intro (by clear hK; first | omega | (intros; simp_all; done) | (intros; grind)) ?_)
  refine hK _ ?_; clear hK K; refine ST.cond _ rfl (by simp) ?_ ?_
  case' refine_2 =>
   intro hb1
   first
   | (exfalso; simp at hb1; done)
   | (exfalso; simp at hb1; omega)
   | (
    refine ST.skip ?_; refine hK1 _ ?_; refine ST.drawTK (G := (gA, tabA)) mixed [.q [(0, false), (1, false), (2, false), (3, false), (4, false), (5, false), (6, true), (7, false)]] (by kernel_rfl) rfl fun K hK => ?_
    simp -implicitDefEqProofs [IntKind.wrap, IntKind.bits, IntKind.signed]; repeat (refine And.intro (by clear hK; first | omega | (intros; simp_all; done) | (intros; grind)) ?_)
    refine CallQT.fzE kindsF (by simp) ?_; simp -implicitDefEqProofs [IntKind.wrap, IntKind.bits, IntKind.signed]; repeat (refine And.intro (by clear hK; first | omega | (intros; simp_all; done) | (intros; grind)) ?_)
    refine hK _ ?_; clear hK K; refine ST.seqK fun K2 hK2 => ?_; refine ST.regionK fun K hK => ?_; simp -implicitDefEqProofs; repeat (refine And.intro (by clear hK; first | omega | (intros; simp_all; done) | (intros; grind)) ?_)
    refine hK _ ?_; clear hK K; refine ST.cond _ rfl (by simp) ?_ ?_
    case' refine_2 =>
     intro hb2
     first
     | (exfalso; simp at hb2; done)
     | (exfalso; simp at hb2; omega)
     | (
      refine ST.skip ?_)
    rotate_right
    case' _ =>
     intro hb2
     first
     | (exfalso; simp at hb2; done)
     | (exfalso; simp at hb2; omega)
     | (
      refine ST.regionE fun K hK => ?_; simp -implicitDefEqProofs; repeat (refine And.intro (by clear hK; first | omega | (intros; simp_all; done) | (intros; grind)) ?_)
      first
        | refine CallQ.fzE (numT_i v) (by simp) ?_
        | refine CallK.fzE (numT_i v) (by simp) ?_
      simp -implicitDefEqProofs; repeat (refine And.intro (by clear hK; first | omega | (intros; simp_all; done) | (intros; grind)) ?_)
      refine hK _ ?_
      clear hK K)
    all_goals (
     refine hK2 _ ?_; refine ST.seqK fun K3 hK3 => ?_; refine ST.regionK fun K hK => ?_; simp -implicitDefEqProofs; repeat (refine And.intro (by clear hK; first | omega | (intros; simp_all; done) | (intros; grind)) ?_)
     refine hK _ ?_; clear hK K; refine ST.block ?_; refine ST.seqK fun K4 hK4 => ?_; refine ST.regionK fun K hK => ?_; simp -implicitDefEqProofs
     repeat (refine And.intro (by clear hK; first | omega | (intros; simp_all; done) | (intros; grind)) ?_)
     refine hK _ ?_; clear hK K; refine ST.cond _ rfl (by simp) ?_ ?_
     case' refine_2 =>
      intro hb3
      first
      | (exfalso; simp at hb3; done)
      | (exfalso; simp at hb3; omega)
      | (
       refine ST.regionK fun K hK => ?_; simp -implicitDefEqProofs; repeat (refine And.intro (by clear hK; first | omega | (intros; simp_all; done) | (intros; grind)) ?_)
       refine hK _ ?_; clear hK K; refine ST.cond _ rfl (by simp) ?_ ?_
       case' refine_2 =>
        intro hb4
        first
        | (exfalso; simp at hb4; done)
        | (exfalso; simp at hb4; omega)
        | (
         refine ST.regionK fun K hK => ?_; simp -implicitDefEqProofs; repeat (refine And.intro (by clear hK; first | omega | (intros; simp_all; done) | (intros; grind)) ?_)
         refine hK _ ?_; clear hK K; refine ST.cond _ rfl (by simp) ?_ ?_
         case' refine_2 =>
          intro hb5
          first
          | (exfalso; simp at hb5; done)
          | (exfalso; simp at hb5; omega)
          | (
           refine ST.regionK fun K hK => ?_; simp -implicitDefEqProofs; repeat (refine And.intro (by clear hK; first | omega | (intros; simp_all; done) | (intros; grind)) ?_)
           refine hK _ ?_; clear hK K; refine ST.cond _ rfl (by simp) ?_ ?_
           case' refine_2 =>
            intro hb6
            first
            | (exfalso; simp at hb6; done)
            | (exfalso; simp at hb6; omega)
            | (
             refine ST.regionK fun K hK => ?_; simp -implicitDefEqProofs; repeat (refine And.intro (by clear hK; first | omega | (intros; simp_all; done) | (intros; grind)) ?_)
             refine hK _ ?_; clear hK K; refine ST.cond _ rfl (by simp) ?_ ?_
             case' refine_2 =>
              intro hb7
              first
              | (exfalso; simp at hb7; done)
              | (exfalso; simp at hb7; omega)
              | (
               refine ST.regionE fun K hK => ?_; simp -implicitDefEqProofs; repeat (refine And.intro (by clear hK; first | omega | (intros; simp_all; done) | (intros; grind)) ?_)
               refine hK _ ?_
               clear hK K)
             rotate_right
             case' _ =>
              intro hb7
              first
              | (exfalso; simp at hb7; done)
              | (exfalso; simp at hb7; omega)
              | (
               refine ST.skip ?_))
           rotate_right
           case' _ =>
            intro hb6
            first
            | (exfalso; simp at hb6; done)
            | (exfalso; simp at hb6; omega)
            | (
             refine ST.skip ?_))
         rotate_right
         case' _ =>
          intro hb5
          first
          | (exfalso; simp at hb5; done)
          | (exfalso; simp at hb5; omega)
          | (
           refine ST.skip ?_))
       rotate_right
       case' _ =>
        intro hb4
        first
        | (exfalso; simp at hb4; done)
        | (exfalso; simp at hb4; omega)
        | (
         refine ST.skip ?_))
     rotate_right
     case' _ =>
      intro hb3
      first
      | (exfalso; simp at hb3; done)
      | (exfalso; simp at hb3; omega)
      | (
       refine ST.skip ?_)
     all_goals (
      refine hK4 _ ?_; refine ST.cond _ rfl (by simp) ?_ ?_
      case' refine_2 =>
       intro hb8
       first
       | (exfalso; simp at hb8; done)
       | (exfalso; simp at hb8; omega)
       | (
        refine ST.skip ?_)
      rotate_right
      case' _ =>
       intro hb8
       first
       | (exfalso; simp at hb8; done)
       | (exfalso; simp at hb8; omega)
       | (
        refine ST.regionK fun K hK => ?_; simp -implicitDefEqProofs; repeat (refine And.intro (by clear hK; first | omega | (intros; simp_all; done) | (intros; grind)) ?_)
        refine hK _ ?_; clear hK K; refine ST.cond _ rfl (by simp) ?_ ?_
        case' refine_2 =>
         intro hb9
         first
         | (exfalso; simp at hb9; done)
         | (exfalso; simp at hb9; omega)
         | (
          have kN : ¬ v = -1 := by simpa using hb9
          have hv : anyB v elseB = numB v := if_neg kN
          refine ST.regionE fun K hK => ?_; simp -implicitDefEqProofs; repeat (refine And.intro (by clear hK; first | omega | (intros; simp_all; done) | (intros; grind)) ?_)
          first
            | refine CallQ.fzE (numT_i v) (by simp) ?_
            | refine CallK.fzE (numT_i v) (by simp) ?_
          simp -implicitDefEqProofs; repeat (refine And.intro (by clear hK; first | omega | (intros; simp_all; done) | (intros; grind)) ?_)
          refine hK _ ?_
          clear hK K)
        rotate_right
        case' _ =>
         intro hb9
         first
         | (exfalso; simp at hb9; done)
         | (exfalso; simp at hb9; omega)
         | (
          have kE : v = -1 := by simpa using hb9
          have hv : anyB v elseB = elseB := if_pos kE
          refine ST.regionE fun K hK => ?_; simp -implicitDefEqProofs; repeat (refine And.intro (by clear hK; first | omega | (intros; simp_all; done) | (intros; grind)) ?_)
          refine hK _ ?_
          clear hK K)))
     all_goals (
      refine hK3 _ ?_; refine ST.seqK fun K5 hK5 => ?_; refine ST.regionK fun K hK => ?_; simp -implicitDefEqProofs; repeat (refine And.intro (by clear hK; first | omega | (intros; simp_all; done) | (intros; grind)) ?_)
      refine hK _ ?_; clear hK K; refine ST.cond _ rfl (by simp) ?_ ?_
      case' refine_2 =>
       intro hb10
       first
       | (exfalso; simp at hb10; done)
       | (exfalso; simp at hb10; omega)
       | (
        have kO := True.intro
        refine ST.skip ?_)
      rotate_right
      case' _ =>
       intro hb10
       first
       | (exfalso; simp at hb10; done)
       | (exfalso; simp at hb10; omega)
       | (
        have kZ : ok = false := by simpa using hb10
        have hz := kZ
        refine ST.regionE fun K hK => ?_; simp -implicitDefEqProofs; repeat (refine And.intro (by clear hK; first | omega | (intros; simp_all; done) | (intros; grind)) ?_)
        refine hK _ ?_
        clear hK K)
      all_goals (
       refine hK5 _ ?_; refine ST.regionK fun K hK => ?_; simp -implicitDefEqProofs; repeat (refine And.intro (by clear hK; first | omega | (intros; simp_all; done) | (intros; grind)) ?_)
       first
         | (have _ := kE; have kK : joinW [⟨#[100, 101, 97, 100]⟩, elseB] spB = itT ⟨10, obj, v, ok⟩ := (by rw [← it_join (i := ⟨10, obj, v, ok⟩) hok]; simp [itL, itW, kindsB, objB, valB, zerB, hv]); refine CallS.mono (CallS.frame [3] (joined_i [⟨#[100, 101, 97, 100]⟩, elseB] spB (by simp only [joinB, ByteArray.size_append, bsz]; simp <;> omega) (by simp)) (by simp) (by simp [lowN]) (by simp) (by simp) (by simp [renH]) (by simp) (by simp) ?_) ?_)
         | (have _ := kN; have kK : joinW [⟨#[100, 101, 97, 100]⟩, numB v] spB = itT ⟨10, obj, v, ok⟩ := (by rw [← it_join (i := ⟨10, obj, v, ok⟩) hok]; simp [itL, itW, kindsB, objB, valB, zerB, hv]); refine CallS.mono (CallS.frame [3] (joined_i [⟨#[100, 101, 97, 100]⟩, numB v] spB (by simp only [joinB, ByteArray.size_append, bsz]; simp <;> omega) (by simp)) (by simp) (by simp [lowN]) (by simp) (by simp) (by simp [renH]) (by simp) (by simp) ?_) ?_)
       · rintro o h' ⟨rfl, rfl⟩
         exact ⟨by simp, by simp [nfzB, lowN, nfz, strN], rfl, rfl⟩
       rintro o h' ⟨o0, h0, ⟨rfl, rfl⟩, rfl, rfl⟩
       simp -implicitDefEqProofs; repeat (refine And.intro (by clear hK; first | omega | (intros; simp_all; done) | (intros; grind)) ?_)
       refine hK _ ?_; clear hK K; refine ST.ret ?_; simp [Ex.then, Ex.ib]
       all_goals first
         | exact kK
         | fail))))
  rotate_right
  case' _ =>
   intro hb1
   first
   | (exfalso; simp at hb1; done)
   | (exfalso; simp at hb1; omega)
   | (
    refine ST.regionK fun K hK => ?_; simp -implicitDefEqProofs; repeat (refine And.intro (by clear hK; first | omega | (intros; simp_all; done) | (intros; grind)) ?_)
    refine hK _ ?_; clear hK K; refine ST.ret ?_; simp [Ex.then, Ex.ib]
    all_goals first
      | exact kK
      | fail)
end HT
