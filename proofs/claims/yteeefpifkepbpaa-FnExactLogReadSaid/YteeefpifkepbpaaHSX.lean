import Derived.Test.YteeefpifkepbpaaHSW4
import Derived.Test.YteeefpifkepbpaaHSC
/-
  My own texts (road H): HSX.
-/
set_option linter.unusedSimpArgs false
namespace HS
open Go Go.Proofs HK
set_option maxHeartbeats 16000000 in
theorem law_logRead0 (l : List Int) (_hb : ∀ x ∈ l, isB x) (p s : Int) (r : List Deed) (hr : r.length ≤ 3000) (hS : l.length ≤ 1048576 → HK.Fn Try.prog 52 [.fz (YS l)] (.tup [.agg [.int .i64 p, .own 4 (DS r)], .int .i64 s])) (hI : l.length ≤ 1048576 → HK.Fn Try.prog 47 [.fz (YS l)] (.tup [.agg [.int .i64 p, .own 4 (DS r)], .int .i64 s])) : Fn Try.prog 13 [.fz (YS l)] (.bool true) := by
  refine Fn.intro Try.func13 (by decide) rfl (rs := [.tmp 2]) rfl Try.ntmps13 (by simp) ?_; refine SW.rg fun K hK => ?_; simp -implicitDefEqProofs; repeat refine ⟨by omega, ?_⟩
  refine hK _ ?_; clear hK K; refine SW.seqK fun K1 hK1 => ?_; refine SW.rg fun K hK => ?_; simp -implicitDefEqProofs; repeat refine ⟨by omega, ?_⟩
  refine hK _ ?_; clear hK K; refine SW.cond _ rfl (by simp) ?_ ?_
  case' refine_2 =>
   intro hb1; have hl : l.length ≤ 1048576 := by simp at hb1; omega
   first
   | (exfalso; simp at hb1; done)
   | (exfalso; simp at hb1; omega)
   | (
    refine SW.skip ?_; refine hK1 _ ?_; refine SW.rg fun K hK => ?_; simp -implicitDefEqProofs; iterate 2 (try refine ⟨by omega, ?_⟩)
    first
      | refine CallQ.fz (toByteS_ok l hl) ?_
      | refine CallK.fz (toByteS_ok l hl) ?_
    simp -implicitDefEqProofs; iterate 2 (try refine ⟨by omega, ?_⟩)
    first
      | refine CallQ.fzE (hS hl) (by simp) ?_
      | refine CallK.fzE (hS hl) (by simp) ?_
    simp -implicitDefEqProofs; repeat refine ⟨by omega, ?_⟩
    refine hK _ ?_; clear hK K; refine SW.rg fun K hK => ?_; simp -implicitDefEqProofs; iterate 2 (try refine ⟨by omega, ?_⟩)
    refine CallK.im (toByteS_ok l hl) (YS_okI _) ?_; simp -implicitDefEqProofs; repeat refine ⟨by omega, ?_⟩
    refine hK _ ?_; clear hK K; refine SW.rg fun K hK => ?_; simp -implicitDefEqProofs; iterate 2 (try refine ⟨by omega, ?_⟩)
    refine CallK.imE (hI hl) (by simp) (by simp) ?_; simp -implicitDefEqProofs; repeat refine ⟨by omega, ?_⟩
    refine hK _ ?_; clear hK K; refine SW.seqK fun K2 hK2 => ?_; refine SW.rg fun K hK => ?_; simp -implicitDefEqProofs; iterate 2 (try refine ⟨by omega, ?_⟩)
    first
      | refine CallQG.fzE (by simp) (fun _ => eqLog_ok p r (by omega)) (by simp) ?_
      | refine CallG.fzE (by simp) (fun _ => eqLog_ok p r (by omega)) (by simp) ?_
      | refine CallQ.fzE (eqLog_ok p r (by omega)) (by simp) ?_
      | refine CallK.fzE (eqLog_ok p r (by omega)) (by simp) ?_
    simp -implicitDefEqProofs; repeat refine ⟨by omega, ?_⟩
    refine hK _ ?_; clear hK K; refine SW.cond _ rfl (by simp) ?_ ?_
    case' refine_2 =>
     intro hb2
     first
     | (exfalso; simp at hb2; done)
     | (exfalso; simp at hb2; omega)
     | (
      refine SW.skip ?_; refine hK2 _ ?_; refine SW.seqK fun K3 hK3 => ?_; refine SW.rg fun K hK => ?_; simp -implicitDefEqProofs; iterate 2 (try refine ⟨by omega, ?_⟩)
      first
        | refine CallQ.fz (toByteS_ok l hl) ?_
        | refine CallK.fz (toByteS_ok l hl) ?_
      simp -implicitDefEqProofs; iterate 2 (try refine ⟨by omega, ?_⟩)
      refine CallK.fzE (eqByteS_ok l (by omega)) (by simp) ?_; simp -implicitDefEqProofs; repeat refine ⟨by omega, ?_⟩
      refine hK _ ?_; clear hK K; refine SW.cond _ rfl (by simp) ?_ ?_
      case' refine_2 =>
       intro hb3
       first
       | (exfalso; simp at hb3; done)
       | (exfalso; simp at hb3; omega)
       | (
        refine SW.skip ?_; refine hK3 _ ?_; refine SW.rg fun K hK => ?_; simp -implicitDefEqProofs; repeat refine ⟨by omega, ?_⟩
        refine hK _ ?_; clear hK K; refine SW.rg fun K hK => ?_; simp -implicitDefEqProofs; iterate 2 (try refine ⟨by omega, ?_⟩)
        refine CallS.mono (mark_byteS' l 1 _ 1 _ rfl (by simp) rfl (by omega) (by omega) (by omega)) ?_
        rintro o h' ⟨rfl, rfl⟩
        simp -implicitDefEqProofs; repeat refine ⟨by omega, ?_⟩
        refine hK _ ?_; clear hK K; refine SW.seqK fun K4 hK4 => ?_; refine SW.rg fun K hK => ?_; simp -implicitDefEqProofs; iterate 2 (try refine ⟨by omega, ?_⟩)
        first
          | refine CallQG.fzE (by simp) (fun _ => eqLog_ok p r (by omega)) (by simp) ?_
          | refine CallG.fzE (by simp) (fun _ => eqLog_ok p r (by omega)) (by simp) ?_
          | refine CallQ.fzE (eqLog_ok p r (by omega)) (by simp) ?_
          | refine CallK.fzE (eqLog_ok p r (by omega)) (by simp) ?_
        simp -implicitDefEqProofs; repeat refine ⟨by omega, ?_⟩
        refine hK _ ?_; clear hK K; refine SW.cond _ rfl (by simp) ?_ ?_
        case' refine_2 =>
         intro hb4
         first
         | (exfalso; simp at hb4; done)
         | (exfalso; simp at hb4; omega)
         | (
          refine SW.skip ?_; refine hK4 _ ?_; refine SW.rg fun K hK => ?_; simp -implicitDefEqProofs; repeat refine ⟨by omega, ?_⟩
          refine hK _ ?_; clear hK K; refine SW.rg fun K hK => ?_; simp -implicitDefEqProofs; iterate 2 (try refine ⟨by omega, ?_⟩)
          refine CallS.mono (mark_log p r 1 _ 2 _ rfl (by simp) rfl (by omega) (by omega) (by omega)) ?_
          rintro o h' ⟨rfl, rfl⟩
          simp -implicitDefEqProofs; repeat refine ⟨by omega, ?_⟩
          refine hK _ ?_; clear hK K; refine SW.rg fun K hK => ?_; simp -implicitDefEqProofs; repeat refine ⟨by omega, ?_⟩
          refine hK _ ?_; clear hK K; refine SW.rg fun K hK => ?_; simp -implicitDefEqProofs; iterate 2 (try refine ⟨by omega, ?_⟩)
          refine CallK.fzE (held_log p r.length 1 (by omega) (by omega) (by omega)) (by simp) ?_; simp -implicitDefEqProofs; repeat refine ⟨by omega, ?_⟩
          refine hK _ ?_; clear hK K; refine SW.seqK fun K5 hK5 => ?_; refine SW.rg fun K hK => ?_; simp -implicitDefEqProofs; repeat refine ⟨by omega, ?_⟩
          refine hK _ ?_; clear hK K; refine SW.cond _ rfl (by simp) ?_ ?_
          case' refine_2 =>
           intro hb5
           first
           | (exfalso; simp at hb5; done)
           | (exfalso; simp at hb5; omega)
           | (
            refine SW.skip ?_; refine hK5 _ ?_; refine SW.seqK fun K6 hK6 => ?_; refine SW.rg fun K hK => ?_; simp -implicitDefEqProofs; repeat refine ⟨by omega, ?_⟩
            refine hK _ ?_; clear hK K; refine SW.cond _ rfl (by simp) ?_ ?_
            case' refine_2 =>
             intro hb6
             first
             | (exfalso; simp at hb6; done)
             | (exfalso; simp at hb6; omega)
             | (
              refine SW.skip ?_; refine hK6 _ ?_; refine SW.rg fun K hK => ?_; simp -implicitDefEqProofs; iterate 2 (try refine ⟨by omega, ?_⟩)
              first
                | refine CallQ.fz (toByteS_ok l hl) ?_
                | refine CallK.fz (toByteS_ok l hl) ?_
              simp -implicitDefEqProofs; iterate 2 (try refine ⟨by omega, ?_⟩)
              first
                | refine CallQ.fzE (hI hl) (by simp) ?_
                | refine CallK.fzE (hI hl) (by simp) ?_
              simp -implicitDefEqProofs; repeat refine ⟨by omega, ?_⟩
              refine hK _ ?_; clear hK K; refine SW.seqK fun K7 hK7 => ?_; refine SW.rg fun K hK => ?_; simp -implicitDefEqProofs; iterate 2 (try refine ⟨by omega, ?_⟩)
              first
                | refine CallQG.fzE (by simp) (fun _ => eqLog_ok p r (by omega)) (by simp) ?_
                | refine CallG.fzE (by simp) (fun _ => eqLog_ok p r (by omega)) (by simp) ?_
                | refine CallQ.fzE (eqLog_ok p r (by omega)) (by simp) ?_
                | refine CallK.fzE (eqLog_ok p r (by omega)) (by simp) ?_
              simp -implicitDefEqProofs; repeat refine ⟨by omega, ?_⟩
              refine hK _ ?_; clear hK K; refine SW.cond _ rfl (by simp) ?_ ?_
              case' refine_2 =>
               intro hb7
               first
               | (exfalso; simp at hb7; done)
               | (exfalso; simp at hb7; omega)
               | (
                refine SW.skip ?_; refine hK7 _ ?_; refine SW.rg fun K hK => ?_; simp -implicitDefEqProofs; repeat refine ⟨by omega, ?_⟩
                refine hK _ ?_; clear hK K; refine SW.rg fun K hK => ?_; simp -implicitDefEqProofs; iterate 2 (try refine ⟨by omega, ?_⟩)
                refine CallK.fzE (held_log p r.length 1 (by omega) (by omega) (by omega)) (by simp) ?_; simp -implicitDefEqProofs; repeat refine ⟨by omega, ?_⟩
                refine hK _ ?_; clear hK K; refine SW.seqK fun K8 hK8 => ?_; refine SW.rg fun K hK => ?_; simp -implicitDefEqProofs; repeat refine ⟨by omega, ?_⟩
                refine hK _ ?_; clear hK K; refine SW.cond _ rfl (by simp) ?_ ?_
                case' refine_2 =>
                 intro hb8
                 first
                 | (exfalso; simp at hb8; done)
                 | (exfalso; simp at hb8; omega)
                 | (
                  refine SW.skip ?_; refine hK8 _ ?_; refine SW.seqK fun K9 hK9 => ?_; refine SW.rg fun K hK => ?_; simp -implicitDefEqProofs; repeat refine ⟨by omega, ?_⟩
                  refine hK _ ?_; clear hK K; refine SW.cond _ rfl (by simp) ?_ ?_
                  case' refine_2 =>
                   intro hb9
                   first
                   | (exfalso; simp at hb9; done)
                   | (exfalso; simp at hb9; omega)
                   | (
                    refine SW.skip ?_; refine hK9 _ ?_; refine SW.rg fun K hK => ?_; simp -implicitDefEqProofs; repeat refine ⟨by omega, ?_⟩
                    refine hK _ ?_; clear hK K; refine SW.ret ?_; simp [Ex.then, Ex.ib]
                    all_goals first
                      | done
                      | (simp; done)
                      | fail)
                  rotate_right
                  case' _ =>
                   intro hb9
                   first
                   | (exfalso; simp at hb9; done)
                   | (exfalso; simp at hb9; omega)
                   | (
                    refine SW.rg fun K hK => ?_; simp -implicitDefEqProofs; repeat refine ⟨by omega, ?_⟩
                    refine hK _ ?_; clear hK K; refine SW.ret ?_; simp [Ex.then, Ex.ib]
                    all_goals first
                      | done
                      | (simp; done)
                      | fail))
                rotate_right
                case' _ =>
                 intro hb8
                 first
                 | (exfalso; simp at hb8; done)
                 | (exfalso; simp at hb8; omega)
                 | (
                  refine SW.rg fun K hK => ?_; simp -implicitDefEqProofs; repeat refine ⟨by omega, ?_⟩
                  refine hK _ ?_; clear hK K; refine SW.ret ?_; simp [Ex.then, Ex.ib]
                  all_goals first
                    | done
                    | (simp; done)
                    | fail))
              rotate_right
              case' _ =>
               intro hb7
               first
               | (exfalso; simp at hb7; done)
               | (exfalso; simp at hb7; omega)
               | (
                refine SW.rg fun K hK => ?_; simp -implicitDefEqProofs; repeat refine ⟨by omega, ?_⟩
                refine hK _ ?_; clear hK K; refine SW.ret ?_; simp [Ex.then, Ex.ib]
                all_goals first
                  | done
                  | (simp; done)
                  | fail))
            rotate_right
            case' _ =>
             intro hb6
             first
             | (exfalso; simp at hb6; done)
             | (exfalso; simp at hb6; omega)
             | (
              refine SW.rg fun K hK => ?_; simp -implicitDefEqProofs; repeat refine ⟨by omega, ?_⟩
              refine hK _ ?_; clear hK K; refine SW.ret ?_; simp [Ex.then, Ex.ib]
              all_goals first
                | done
                | (simp; done)
                | fail))
          rotate_right
          case' _ =>
           intro hb5
           first
           | (exfalso; simp at hb5; done)
           | (exfalso; simp at hb5; omega)
           | (
            refine SW.rg fun K hK => ?_; simp -implicitDefEqProofs; repeat refine ⟨by omega, ?_⟩
            refine hK _ ?_; clear hK K; refine SW.ret ?_; simp [Ex.then, Ex.ib]
            all_goals first
              | done
              | (simp; done)
              | fail))
        rotate_right
        case' _ =>
         intro hb4
         first
         | (exfalso; simp at hb4; done)
         | (exfalso; simp at hb4; omega)
         | (
          refine SW.rg fun K hK => ?_; simp -implicitDefEqProofs; repeat refine ⟨by omega, ?_⟩
          refine hK _ ?_; clear hK K; refine SW.ret ?_; simp [Ex.then, Ex.ib]
          all_goals first
            | done
            | (simp; done)
            | fail))
      rotate_right
      case' _ =>
       intro hb3
       first
       | (exfalso; simp at hb3; done)
       | (exfalso; simp at hb3; omega)
       | (
        refine SW.rg fun K hK => ?_; simp -implicitDefEqProofs; repeat refine ⟨by omega, ?_⟩
        refine hK _ ?_; clear hK K; refine SW.ret ?_; simp [Ex.then, Ex.ib]
        all_goals first
          | done
          | (simp; done)
          | fail))
    rotate_right
    case' _ =>
     intro hb2
     first
     | (exfalso; simp at hb2; done)
     | (exfalso; simp at hb2; omega)
     | (
      refine SW.rg fun K hK => ?_; simp -implicitDefEqProofs; repeat refine ⟨by omega, ?_⟩
      refine hK _ ?_; clear hK K; refine SW.ret ?_; simp [Ex.then, Ex.ib]
      all_goals first
        | done
        | (simp; done)
        | fail))
  rotate_right
  case' _ =>
   intro hb1
   first
   | (exfalso; simp at hb1; done)
   | (exfalso; simp at hb1; omega)
   | (
    refine SW.rg fun K hK => ?_; simp -implicitDefEqProofs; repeat refine ⟨by omega, ?_⟩
    refine hK _ ?_; clear hK K; refine SW.ret ?_; simp [Ex.then, Ex.ib]
    all_goals first
      | done
      | (simp; done)
      | fail)
theorem law_logRead (l : List Int) (hb : ∀ x ∈ l, isB x) : Fn Try.prog 13 [.fz (YS l)] (.bool true) :=
  law_logRead0 l hb _ _ _ (logR_len l) (fun hl => logRead_s l hl hb) (fun hl => logRead_i l hl hb)
end HS
