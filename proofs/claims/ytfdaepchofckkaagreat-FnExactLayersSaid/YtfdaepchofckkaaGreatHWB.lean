import Derived.Test.YtfdaepchofckkaaGreatHWA
/-
  My own texts (road H): HWB.
-/
set_option linter.unusedSimpArgs false
set_option linter.unusedVariables false
namespace HT
open Go Go.Proofs HK
set_option maxHeartbeats 1000000 in
theorem law_layers (a : Prog) (l : List Deed) (fa : a.fit) (fl : l.length ≤ maxLen) : Fn Tryz.prog 5 [.agg a.fr, .fz (DeedS l)] (.bool true) := by
  refine Fn.intro Tryz.func5 (by decide) rfl (rs := [.tmp 4]) rfl Tryz.ntmps5 (by simp) ?_
  have q1 := szR_cases a.sz 1048576
  have q2 := szR_cases l.length (szR a.sz 1048576)
  have qt := Prog.tw_le a
  refine SW.regionK fun K hK => ?_
  simp -implicitDefEqProofs
  repeat refine ⟨by omega, ?_⟩
  refine hK _ ?_
  clear hK K
  refine SW.regionK fun K hK => ?_
  simp -implicitDefEqProofs
  repeat refine ⟨by omega, ?_⟩
  refine hK _ ?_
  clear hK K
  refine SW.regionK fun K hK => ?_
  simp -implicitDefEqProofs
  first | refine ⟨by omega, by omega, ?_⟩ | refine ⟨by omega, ?_⟩ | skip
  refine CallK.fzE (szProg_ok a 1048576 fa (by omega) (by omega)) (by simp) ?_
  simp -implicitDefEqProofs
  repeat refine ⟨by omega, ?_⟩
  refine hK _ ?_
  clear hK K
  refine SW.seqK fun K1 hK1 => ?_
  refine SW.regionK fun K hK => ?_
  simp -implicitDefEqProofs
  repeat refine ⟨by omega, ?_⟩
  refine hK _ ?_
  clear hK K
  refine SW.cond _ rfl (by simp) ?_ ?_
  case' refine_2 =>
   intro hb1
   first
   | (exfalso; simp at hb1; done)
   | (exfalso; simp at hb1; omega)
   | (
    have n1 : 0 ≤ szR a.sz 1048576 := by simp at hb1; omega
    have ha : a.ok := Prog.sz_ok (by omega)
    have hW : a.tw ≤ 2 ^ 30 := by omega
    have hl0 : a.caps.length ≤ 2 ^ 30 := by have := ha.1; omega
    have hl1 : a.sels.length ≤ 2 ^ 30 := by have := ha.2.1; omega
    have hl2 : a.procs.length ≤ 2 ^ 30 := by have := ha.2.2.2.1; omega
    refine SW.skip ?_
    refine hK1 _ ?_
    refine SW.regionK fun K hK => ?_
    simp -implicitDefEqProofs
    first | refine ⟨by omega, by omega, ?_⟩ | refine ⟨by omega, ?_⟩ | skip
    refine CallK.fzE (szDeedS_ok l (szR a.sz 1048576) fl (by omega) (by omega)) (by simp) ?_
    simp -implicitDefEqProofs
    repeat refine ⟨by omega, ?_⟩
    refine hK _ ?_
    clear hK K
    refine SW.seqK fun K2 hK2 => ?_
    refine SW.regionK fun K hK => ?_
    simp -implicitDefEqProofs
    repeat refine ⟨by omega, ?_⟩
    refine hK _ ?_
    clear hK K
    refine SW.cond _ rfl (by simp) ?_ ?_
    case' refine_2 =>
     intro hb2
     first
     | (exfalso; simp at hb2; done)
     | (exfalso; simp at hb2; omega)
     | (
      have n2 : 0 ≤ szR l.length (szR a.sz 1048576) := by simp at hb2; omega
      have hlm : l.length ≤ 1048576 := by omega
      obtain ⟨R, hR⟩ : ∃ R, R = layers a l l.length := ⟨_, rfl⟩
      have hnl : R.length ≤ l.length := by rw [hR, layers_len]; omega
      have hcs := layers_s a l ha hlm
      have hci := layers_i a l ha hlm
      rw [← hR] at hcs hci
      refine SW.skip ?_
      refine hK2 _ ?_
      refine SW.regionK fun K hK => ?_
      simp -implicitDefEqProofs
      first | refine ⟨by omega, by omega, ?_⟩ | refine ⟨by omega, ?_⟩ | skip
      first
        | refine CallQ.fzE (toProg_ok a ha) (by simp) ?_
        | refine CallK.fzE (toProg_ok a ha) (by simp) ?_
      simp -implicitDefEqProofs
      first | refine ⟨by omega, by omega, ?_⟩ | refine ⟨by omega, ?_⟩ | skip
      first
        | refine CallQ.fzE (toDeedS_ok l hlm) (by simp) ?_
        | refine CallK.fzE (toDeedS_ok l hlm) (by simp) ?_
      simp -implicitDefEqProofs
      first | refine ⟨by omega, by omega, ?_⟩ | refine ⟨by omega, ?_⟩ | skip
      first
        | refine CallQ.fzE (hcs) (by simp) ?_
        | refine CallK.fzE (hcs) (by simp) ?_
      simp -implicitDefEqProofs
      repeat refine ⟨by omega, ?_⟩
      refine hK _ ?_
      clear hK K
      refine SW.regionK fun K hK => ?_
      simp -implicitDefEqProofs
      first | refine ⟨by omega, by omega, ?_⟩ | refine ⟨by omega, ?_⟩ | skip
      refine CallK.imE (toProg_ok a ha) (by simp) (Prog_oI a) ?_
      simp -implicitDefEqProofs
      repeat refine ⟨by omega, ?_⟩
      refine hK _ ?_
      clear hK K
      refine SW.regionK fun K hK => ?_
      simp -implicitDefEqProofs
      first | refine ⟨by omega, by omega, ?_⟩ | refine ⟨by omega, ?_⟩ | skip
      refine CallK.imE (toDeedS_ok l hlm) (by simp) (DeedS_okI _) ?_
      simp -implicitDefEqProofs
      repeat refine ⟨by omega, ?_⟩
      refine hK _ ?_
      clear hK K
      refine SW.regionK fun K hK => ?_
      simp -implicitDefEqProofs
      first | refine ⟨by omega, by omega, ?_⟩ | refine ⟨by omega, ?_⟩ | skip
      refine CallK.imE hci (by simp) (IntS_okI _) ?_
      simp -implicitDefEqProofs
      repeat refine ⟨by omega, ?_⟩
      refine hK _ ?_
      clear hK K
      refine SW.seqK fun K3 hK3 => ?_
      refine SW.regionK fun K hK => ?_
      simp -implicitDefEqProofs
      first | refine ⟨by omega, by omega, ?_⟩ | refine ⟨by omega, ?_⟩ | skip
      refine CallK.fzE (eqIntS_ok R (by omega)) (by simp) ?_
      simp -implicitDefEqProofs
      repeat refine ⟨by omega, ?_⟩
      refine hK _ ?_
      clear hK K
      refine SW.cond _ rfl (by simp) ?_ ?_
      case' refine_2 =>
       intro hb3
       first
       | (exfalso; simp at hb3; done)
       | (exfalso; simp at hb3; omega)
       | (
        refine SW.skip ?_
        refine hK3 _ ?_
        refine SW.seqK fun K4 hK4 => ?_
        refine SW.drawK mixed [.q [(0, false), (1, false), (2, false), (3, false), (4, false)]] (by kernel_rfl) rfl fun K hK => ?_
        simp -implicitDefEqProofs
        first | refine ⟨by omega, by omega, ?_⟩ | refine ⟨by omega, ?_⟩ | skip
        first
          | refine CallQ.fzE (toProg_ok a ha) (by simp) ?_
          | refine CallK.fzE (toProg_ok a ha) (by simp) ?_
        simp -implicitDefEqProofs
        first | refine ⟨by omega, by omega, ?_⟩ | refine ⟨by omega, ?_⟩ | skip
        refine CallQ.fzE (eqProg_ok a ha) (by simp) ?_
        simp -implicitDefEqProofs
        repeat refine ⟨by omega, ?_⟩
        refine hK _ ?_
        clear hK K
        refine SW.cond _ rfl (by simp) ?_ ?_
        case' refine_2 =>
         intro hb4
         first
         | (exfalso; simp at hb4; done)
         | (exfalso; simp at hb4; omega)
         | (
          refine SW.skip ?_
          refine hK4 _ ?_
          refine SW.seqK fun K5 hK5 => ?_
          refine SW.regionK fun K hK => ?_
          simp -implicitDefEqProofs
          first | refine ⟨by omega, by omega, ?_⟩ | refine ⟨by omega, ?_⟩ | skip
          first
            | refine CallQ.fzE (toDeedS_ok l hlm) (by simp) ?_
            | refine CallK.fzE (toDeedS_ok l hlm) (by simp) ?_
          simp -implicitDefEqProofs
          first | refine ⟨by omega, by omega, ?_⟩ | refine ⟨by omega, ?_⟩ | skip
          refine CallK.fzE (eqDeedS_ok l hlm) (by simp) ?_
          simp -implicitDefEqProofs
          repeat refine ⟨by omega, ?_⟩
          refine hK _ ?_
          clear hK K
          refine SW.cond _ rfl (by simp) ?_ ?_
          case' refine_2 =>
           intro hb5
           first
           | (exfalso; simp at hb5; done)
           | (exfalso; simp at hb5; omega)
           | (
            refine SW.skip ?_
            refine hK5 _ ?_
            refine SW.regionK fun K hK => ?_
            simp -implicitDefEqProofs
            repeat refine ⟨by omega, ?_⟩
            refine hK _ ?_
            clear hK K
            refine SW.regionK fun K hK => ?_
            simp -implicitDefEqProofs
            first | refine ⟨by omega, by omega, ?_⟩ | refine ⟨by omega, ?_⟩ | skip
            refine CallS.mono (mark_Prog a 1 _ 1 2 3 _ rfl (by simp) _ rfl (by simp) _ rfl (by simp) (by simp) hW hl0 hl1 hl2 (by omega) (by omega)) ?_
            rintro o h' ⟨rfl, m1, m2, rfl⟩
            simp -implicitDefEqProofs
            repeat refine ⟨by omega, ?_⟩
            refine hK _ ?_
            clear hK K
            refine SW.regionK fun K hK => ?_
            simp -implicitDefEqProofs
            first | refine ⟨by omega, by omega, ?_⟩ | refine ⟨by omega, ?_⟩ | skip
            refine CallS.mono (mark_DeedS l (1 + (a.tw : Int)) _ 5 _ rfl (by simp) (by omega) (by omega) (by omega)) ?_
            rintro o h' ⟨rfl, rfl⟩
            simp -implicitDefEqProofs
            repeat refine ⟨by omega, ?_⟩
            refine hK _ ?_
            clear hK K
            refine SW.seqK fun K6 hK6 => ?_
            refine SW.regionK fun K hK => ?_
            simp -implicitDefEqProofs
            first | refine ⟨by omega, by omega, ?_⟩ | refine ⟨by omega, ?_⟩ | skip
            refine CallG.fzE (by simp) (fun _ => eqIntS_ok R (by omega)) (by simp) ?_
            simp -implicitDefEqProofs
            repeat refine ⟨by omega, ?_⟩
            refine hK _ ?_
            clear hK K
            refine SW.cond _ rfl (by simp) ?_ ?_
            case' refine_2 =>
             intro hb6
             first
             | (exfalso; simp at hb6; done)
             | (exfalso; simp at hb6; omega)
             | (
              refine SW.skip ?_
              refine hK6 _ ?_
              refine SW.regionK fun K hK => ?_
              simp -implicitDefEqProofs
              repeat refine ⟨by omega, ?_⟩
              refine hK _ ?_
              clear hK K
              refine SW.regionK fun K hK => ?_
              simp -implicitDefEqProofs
              first | refine ⟨by omega, by omega, ?_⟩ | refine ⟨by omega, ?_⟩ | skip
              refine CallS.mono (mark_IntS R 1 _ 6 _ rfl (by simp) (by omega) (by omega) (by omega)) ?_
              rintro o h' ⟨rfl, rfl⟩
              simp -implicitDefEqProofs
              repeat refine ⟨by omega, ?_⟩
              refine hK _ ?_
              clear hK K
              refine SW.regionK fun K hK => ?_
              simp -implicitDefEqProofs
              repeat refine ⟨by omega, ?_⟩
              refine hK _ ?_
              clear hK K
              refine SW.regionK fun K hK => ?_
              simp -implicitDefEqProofs
              first | refine ⟨by omega, by omega, ?_⟩ | refine ⟨by omega, ?_⟩ | skip
              refine CallK.fzE (held_IntS R.length 1 (by omega) (by omega) (by omega)) (by simp) ?_
              simp -implicitDefEqProofs
              repeat refine ⟨by omega, ?_⟩
              refine hK _ ?_
              clear hK K
              refine SW.seqK fun K7 hK7 => ?_
              refine SW.regionK fun K hK => ?_
              simp -implicitDefEqProofs
              repeat refine ⟨by omega, ?_⟩
              refine hK _ ?_
              clear hK K
              refine SW.cond _ rfl (by simp) ?_ ?_
              case' refine_2 =>
               intro hb7
               first
               | (exfalso; simp at hb7; done)
               | (exfalso; simp at hb7; omega)
               | (
                refine SW.skip ?_
                refine hK7 _ ?_
                refine SW.seqK fun K8 hK8 => ?_
                refine SW.regionK fun K hK => ?_
                simp -implicitDefEqProofs
                repeat refine ⟨by omega, ?_⟩
                refine hK _ ?_
                clear hK K
                refine SW.cond _ rfl (by simp) ?_ ?_
                case' refine_2 =>
                 intro hb8
                 first
                 | (exfalso; simp at hb8; done)
                 | (exfalso; simp at hb8; omega)
                 | (
                  refine SW.skip ?_
                  refine hK8 _ ?_
                  refine SW.regionK fun K hK => ?_
                  simp -implicitDefEqProofs
                  first | refine ⟨by omega, by omega, ?_⟩ | refine ⟨by omega, ?_⟩ | skip
                  first
                    | refine CallQ.fzE (toProg_ok a ha) (by simp) ?_
                    | refine CallK.fzE (toProg_ok a ha) (by simp) ?_
                  simp -implicitDefEqProofs
                  first | refine ⟨by omega, by omega, ?_⟩ | refine ⟨by omega, ?_⟩ | skip
                  first
                    | refine CallQ.fzE (toDeedS_ok l hlm) (by simp) ?_
                    | refine CallK.fzE (toDeedS_ok l hlm) (by simp) ?_
                  simp -implicitDefEqProofs
                  first | refine ⟨by omega, by omega, ?_⟩ | refine ⟨by omega, ?_⟩ | skip
                  first
                    | refine CallQ.fzE (hci) (by simp) ?_
                    | refine CallK.fzE (hci) (by simp) ?_
                  simp -implicitDefEqProofs
                  repeat refine ⟨by omega, ?_⟩
                  refine hK _ ?_
                  clear hK K
                  refine SW.seqK fun K9 hK9 => ?_
                  refine SW.regionK fun K hK => ?_
                  simp -implicitDefEqProofs
                  first | refine ⟨by omega, by omega, ?_⟩ | refine ⟨by omega, ?_⟩ | skip
                  refine CallK.fzE (eqIntS_ok R (by omega)) (by simp) ?_
                  simp -implicitDefEqProofs
                  repeat refine ⟨by omega, ?_⟩
                  refine hK _ ?_
                  clear hK K
                  refine SW.cond _ rfl (by simp) ?_ ?_
                  case' refine_2 =>
                   intro hb9
                   first
                   | (exfalso; simp at hb9; done)
                   | (exfalso; simp at hb9; omega)
                   | (
                    refine SW.skip ?_
                    refine hK9 _ ?_
                    refine SW.regionK fun K hK => ?_
                    simp -implicitDefEqProofs
                    repeat refine ⟨by omega, ?_⟩
                    refine hK _ ?_
                    clear hK K
                    refine SW.regionK fun K hK => ?_
                    simp -implicitDefEqProofs
                    first | refine ⟨by omega, by omega, ?_⟩ | refine ⟨by omega, ?_⟩ | skip
                    refine CallK.fzE (held_IntS R.length 1 (by omega) (by omega) (by omega)) (by simp) ?_
                    simp -implicitDefEqProofs
                    repeat refine ⟨by omega, ?_⟩
                    refine hK _ ?_
                    clear hK K
                    refine SW.seqK fun K10 hK10 => ?_
                    refine SW.regionK fun K hK => ?_
                    simp -implicitDefEqProofs
                    repeat refine ⟨by omega, ?_⟩
                    refine hK _ ?_
                    clear hK K
                    refine SW.cond _ rfl (by simp) ?_ ?_
                    case' refine_2 =>
                     intro hb10
                     first
                     | (exfalso; simp at hb10; done)
                     | (exfalso; simp at hb10; omega)
                     | (
                      refine SW.skip ?_
                      refine hK10 _ ?_
                      refine SW.seqK fun K11 hK11 => ?_
                      refine SW.regionK fun K hK => ?_
                      simp -implicitDefEqProofs
                      repeat refine ⟨by omega, ?_⟩
                      refine hK _ ?_
                      clear hK K
                      refine SW.cond _ rfl (by simp) ?_ ?_
                      case' refine_2 =>
                       intro hb11
                       first
                       | (exfalso; simp at hb11; done)
                       | (exfalso; simp at hb11; omega)
                       | (
                        refine SW.skip ?_
                        refine hK11 _ ?_
                        refine SW.regionK fun K hK => ?_
                        simp -implicitDefEqProofs
                        repeat refine ⟨by omega, ?_⟩
                        refine hK _ ?_
                        clear hK K
                        refine SW.ret ?_
                        simp [Ex.then, Ex.inBlock])
                      rotate_right
                      case' _ =>
                       intro hb11
                       first
                       | (exfalso; simp at hb11; done)
                       | (exfalso; simp at hb11; omega)
                       | (
                        refine SW.regionK fun K hK => ?_
                        simp -implicitDefEqProofs
                        repeat refine ⟨by omega, ?_⟩
                        refine hK _ ?_
                        clear hK K
                        refine SW.ret ?_
                        simp [Ex.then, Ex.inBlock]))
                    rotate_right
                    case' _ =>
                     intro hb10
                     first
                     | (exfalso; simp at hb10; done)
                     | (exfalso; simp at hb10; omega)
                     | (
                      refine SW.regionK fun K hK => ?_
                      simp -implicitDefEqProofs
                      repeat refine ⟨by omega, ?_⟩
                      refine hK _ ?_
                      clear hK K
                      refine SW.ret ?_
                      simp [Ex.then, Ex.inBlock]))
                  rotate_right
                  case' _ =>
                   intro hb9
                   first
                   | (exfalso; simp at hb9; done)
                   | (exfalso; simp at hb9; omega)
                   | (
                    refine SW.regionK fun K hK => ?_
                    simp -implicitDefEqProofs
                    repeat refine ⟨by omega, ?_⟩
                    refine hK _ ?_
                    clear hK K
                    refine SW.ret ?_
                    simp [Ex.then, Ex.inBlock]))
                rotate_right
                case' _ =>
                 intro hb8
                 first
                 | (exfalso; simp at hb8; done)
                 | (exfalso; simp at hb8; omega)
                 | (
                  refine SW.regionK fun K hK => ?_
                  simp -implicitDefEqProofs
                  repeat refine ⟨by omega, ?_⟩
                  refine hK _ ?_
                  clear hK K
                  refine SW.ret ?_
                  simp [Ex.then, Ex.inBlock]))
              rotate_right
              case' _ =>
               intro hb7
               first
               | (exfalso; simp at hb7; done)
               | (exfalso; simp at hb7; omega)
               | (
                refine SW.regionK fun K hK => ?_
                simp -implicitDefEqProofs
                repeat refine ⟨by omega, ?_⟩
                refine hK _ ?_
                clear hK K
                refine SW.ret ?_
                simp [Ex.then, Ex.inBlock]))
            rotate_right
            case' _ =>
             intro hb6
             first
             | (exfalso; simp at hb6; done)
             | (exfalso; simp at hb6; omega)
             | (
              refine SW.regionK fun K hK => ?_
              simp -implicitDefEqProofs
              repeat refine ⟨by omega, ?_⟩
              refine hK _ ?_
              clear hK K
              refine SW.ret ?_
              simp [Ex.then, Ex.inBlock]))
          rotate_right
          case' _ =>
           intro hb5
           first
           | (exfalso; simp at hb5; done)
           | (exfalso; simp at hb5; omega)
           | (
            refine SW.regionK fun K hK => ?_
            simp -implicitDefEqProofs
            repeat refine ⟨by omega, ?_⟩
            refine hK _ ?_
            clear hK K
            refine SW.ret ?_
            simp [Ex.then, Ex.inBlock]))
        rotate_right
        case' _ =>
         intro hb4
         first
         | (exfalso; simp at hb4; done)
         | (exfalso; simp at hb4; omega)
         | (
          refine SW.regionK fun K hK => ?_
          simp -implicitDefEqProofs
          repeat refine ⟨by omega, ?_⟩
          refine hK _ ?_
          clear hK K
          refine SW.ret ?_
          simp [Ex.then, Ex.inBlock]))
      rotate_right
      case' _ =>
       intro hb3
       first
       | (exfalso; simp at hb3; done)
       | (exfalso; simp at hb3; omega)
       | (
        refine SW.regionK fun K hK => ?_
        simp -implicitDefEqProofs
        repeat refine ⟨by omega, ?_⟩
        refine hK _ ?_
        clear hK K
        refine SW.ret ?_
        simp [Ex.then, Ex.inBlock]))
    rotate_right
    case' _ =>
     intro hb2
     first
     | (exfalso; simp at hb2; done)
     | (exfalso; simp at hb2; omega)
     | (
      refine SW.regionK fun K hK => ?_
      simp -implicitDefEqProofs
      repeat refine ⟨by omega, ?_⟩
      refine hK _ ?_
      clear hK K
      refine SW.ret ?_
      simp [Ex.then, Ex.inBlock]))
  rotate_right
  case' _ =>
   intro hb1
   first
   | (exfalso; simp at hb1; done)
   | (exfalso; simp at hb1; omega)
   | (
    refine SW.regionK fun K hK => ?_
    simp -implicitDefEqProofs
    repeat refine ⟨by omega, ?_⟩
    refine hK _ ?_
    clear hK K
    refine SW.ret ?_
    simp [Ex.then, Ex.inBlock])
end HT
