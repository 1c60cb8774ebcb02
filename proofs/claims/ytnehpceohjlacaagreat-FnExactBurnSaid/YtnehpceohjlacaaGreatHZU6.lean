import Derived.Test.YtnehpceohjlacaaGreatHZU5
/-
  My own texts (road H): HZU6.
-/
set_option linter.unusedSimpArgs false
set_option linter.unusedVariables false
namespace HT
open Go Go.Proofs HK
set_option maxHeartbeats 1000000 in
theorem law_stepY (a : Prog) (b : Gor) (fa : a.fit) (fb : b.fit) (hc : (gorOk a b && isLoc a b) = true) : Fn Tryz.prog 3 [.agg a.fr, .agg b.fr] (.bool true) := by
  refine Fn.intro Tryz.func3 (by decide) rfl (rs := [.tmp 4]) rfl Tryz.ntmps3 (by simp) ?_
  have q1 := szR_cases a.sz 1048576
  have q2 := szR_cases b.sz (szR a.sz 1048576)
  have qt := Prog.tw_le a
  have qg := Gor.tw_le b
  refine SW.regionK fun K hK => ?_
  simp -implicitDefEqProofs
  repeat refine ⟨by omega, ?_⟩
  refine hK _ ?_
  clear hK K
  refine SW.regionK fun K hK => ?_
  simp -implicitDefEqProofs
  repeat refine ⟨by omega, ?_⟩
  refine hK _ ?_
  clear hK K
  refine SW.regionK fun K hK => ?_
  simp -implicitDefEqProofs
  first | refine ⟨by omega, by omega, ?_⟩ | refine ⟨by omega, ?_⟩ | skip
  refine CallK.fzE (szProg_ok a 1048576 fa (by omega) (by omega)) (by simp) ?_
  simp -implicitDefEqProofs
  repeat refine ⟨by omega, ?_⟩
  refine hK _ ?_
  clear hK K
  refine SW.seqK fun K1 hK1 => ?_
  refine SW.regionK fun K hK => ?_
  simp -implicitDefEqProofs
  repeat refine ⟨by omega, ?_⟩
  refine hK _ ?_
  clear hK K
  refine SW.cond _ rfl (by simp) ?_ ?_
  case' refine_2 =>
   intro hb1
   first
   | (exfalso; simp at hb1; done)
   | (exfalso; simp at hb1; omega)
   | (
    have n1 : 0 ≤ szR a.sz 1048576 := by simp at hb1; omega
    have ha : a.ok := Prog.sz_ok (by omega)
    have hW : a.tw ≤ 2 ^ 30 := by omega
    have hl0 : a.caps.length ≤ 2 ^ 30 := by have := ha.1; omega
    have hl1 : a.sels.length ≤ 2 ^ 30 := by have := ha.2.1; omega
    have hl2 : a.procs.length ≤ 2 ^ 30 := by have := ha.2.2.2.1; omega
    refine SW.skip ?_
    refine hK1 _ ?_
    refine SW.regionK fun K hK => ?_
    simp -implicitDefEqProofs
    first | refine ⟨by omega, by omega, ?_⟩ | refine ⟨by omega, ?_⟩ | skip
    refine CallK.fzE (szGor_ok b (szR a.sz 1048576) fb (by omega) (by omega)) (by simp) ?_
    simp -implicitDefEqProofs
    repeat refine ⟨by omega, ?_⟩
    refine hK _ ?_
    clear hK K
    refine SW.seqK fun K2 hK2 => ?_
    refine SW.regionK fun K hK => ?_
    simp -implicitDefEqProofs
    repeat refine ⟨by omega, ?_⟩
    refine hK _ ?_
    clear hK K
    refine SW.cond _ rfl (by simp) ?_ ?_
    case' refine_2 =>
     intro hb2
     first
     | (exfalso; simp at hb2; done)
     | (exfalso; simp at hb2; omega)
     | (
      have n2 : 0 ≤ szR b.sz (szR a.sz 1048576) := by simp at hb2; omega
      have hb : b.ok := Gor.sz_ok (by omega)
      have hzz : b.sz = b.regs.length + b.trace.length := rfl
      have hbz : b.regs.length + b.trace.length ≤ 1048576 := by omega
      have hWg : b.tw ≤ 2 ^ 30 := by omega
      have hg0 : b.regs.length ≤ 2 ^ 30 := by have := hb.1; omega
      have hg1 : b.trace.length ≤ 2 ^ 30 := by have := hb.2; omega
      have hk : gorOk a b = true := by simp only [Bool.and_eq_true] at hc; exact hc.1
      have hlc : isLoc a b = true := by simp only [Bool.and_eq_true] at hc; exact hc.2
      have hI := gor_inv hb hk
      have hGr : (stepG a b).regs.length = 6 := (inv_step hI (loc_sh hlc)).regs
      have hGt : (stepG a b).trace.length ≤ b.trace.length + 1 := (stepG_tr a b).1
      have hbr6 : b.regs.length = 6 := hI.regs
      have hTw : (((stepG a b).tw : Nat) : Int) = ((stepG a b).regs.length : Int) + 4 * ((stepG a b).trace.length : Int) := by simp only [Gor.tw]; omega
      have hGo : (stepG a b).ok := ⟨by omega, by omega⟩
      have hGw : (stepG a b).tw ≤ 2 ^ 30 := by simp only [Gor.tw]; omega
      have hG0 : (stepG a b).regs.length ≤ 2 ^ 30 := by omega
      have hG1 : (stepG a b).trace.length ≤ 2 ^ 30 := by omega
      refine SW.skip ?_
      refine hK2 _ ?_
      refine SW.drawWK mixed [(0, false), (1, false), (2, false), (3, false), (4, false), (5, false), (6, false), (7, false), (8, true)] 9 7 [.q [(10, false)]] (by kernel_rfl) rfl fun K hK => ?_
      simp -implicitDefEqProofs
      first | refine ⟨by omega, by omega, ?_⟩ | refine ⟨by omega, ?_⟩ | skip
      first
        | refine CallQ.fzE (toProg_ok a ha) (by simp) ?_
        | refine CallK.fzE (toProg_ok a ha) (by simp) ?_
      simp -implicitDefEqProofs
      first | refine ⟨by omega, by omega, ?_⟩ | refine ⟨by omega, ?_⟩ | skip
      first
        | refine CallQ.fzE (toGor_ok b hb) (by simp) ?_
        | refine CallK.fzE (toGor_ok b hb) (by simp) ?_
      simp -implicitDefEqProofs
      first | refine ⟨by omega, by omega, ?_⟩ | refine ⟨by omega, ?_⟩ | skip
      first
        | refine CallQ.fzE (stepY_s a b ha hb hc) (by simp) ?_
        | refine CallK.fzE (stepY_s a b ha hb hc) (by simp) ?_
      simp -implicitDefEqProofs
      repeat refine ⟨by omega, ?_⟩
      refine hK _ ?_
      clear hK K
      refine SW.regionK fun K hK => ?_
      simp -implicitDefEqProofs
      first | refine ⟨by omega, by omega, ?_⟩ | refine ⟨by omega, ?_⟩ | skip
      refine CallK.imE (toProg_ok a ha) (by simp) (Prog_oI a) ?_
      simp -implicitDefEqProofs
      repeat refine ⟨by omega, ?_⟩
      refine hK _ ?_
      clear hK K
      refine SW.regionK fun K hK => ?_
      simp -implicitDefEqProofs
      first | refine ⟨by omega, by omega, ?_⟩ | refine ⟨by omega, ?_⟩ | skip
      refine CallK.imE (toGor_ok b hb) (by simp) (Gor_oI b) ?_
      simp -implicitDefEqProofs
      repeat refine ⟨by omega, ?_⟩
      refine hK _ ?_
      clear hK K
      refine SW.regionK fun K hK => ?_
      simp -implicitDefEqProofs
      first | refine ⟨by omega, by omega, ?_⟩ | refine ⟨by omega, ?_⟩ | skip
      refine CallK.imE (stepY_i a b ha hb hc) (by simp) (by simp) ?_
      simp -implicitDefEqProofs
      repeat refine ⟨by omega, ?_⟩
      refine hK _ ?_
      clear hK K
      refine SW.seqK fun K3 hK3 => ?_
      refine SW.regionK fun K hK => ?_
      simp -implicitDefEqProofs
      first | refine ⟨by omega, by omega, ?_⟩ | refine ⟨by omega, ?_⟩ | skip
      refine CallK.fzE (eqGor_ok (stepG a b) hGo) (by simp) ?_
      simp -implicitDefEqProofs
      repeat refine ⟨by omega, ?_⟩
      refine hK _ ?_
      clear hK K
      refine SW.cond _ rfl (by simp) ?_ ?_
      case' refine_2 =>
       intro hb3
       first
       | (exfalso; simp at hb3; done)
       | (exfalso; simp at hb3; omega)
       | (
        refine SW.skip ?_
        refine hK3 _ ?_
        refine SW.seqK fun K4 hK4 => ?_
        refine SW.drawK mixed [.q [(0, false), (1, false), (2, false), (3, false), (4, false)]] (by kernel_rfl) rfl fun K hK => ?_
        simp -implicitDefEqProofs
        first | refine ⟨by omega, by omega, ?_⟩ | refine ⟨by omega, ?_⟩ | skip
        first
          | refine CallQ.fzE (toProg_ok a ha) (by simp) ?_
          | refine CallK.fzE (toProg_ok a ha) (by simp) ?_
        simp -implicitDefEqProofs
        first | refine ⟨by omega, by omega, ?_⟩ | refine ⟨by omega, ?_⟩ | skip
        refine CallQ.fzE (eqProg_ok a ha) (by simp) ?_
        simp -implicitDefEqProofs
        repeat refine ⟨by omega, ?_⟩
        refine hK _ ?_
        clear hK K
        refine SW.cond _ rfl (by simp) ?_ ?_
        case' refine_2 =>
         intro hb4
         first
         | (exfalso; simp at hb4; done)
         | (exfalso; simp at hb4; omega)
         | (
          refine SW.skip ?_
          refine hK4 _ ?_
          refine SW.seqK fun K5 hK5 => ?_
          refine SW.drawK mixed [.q [(0, false), (1, false), (2, false), (3, false), (4, false)]] (by kernel_rfl) rfl fun K hK => ?_
          simp -implicitDefEqProofs
          first | refine ⟨by omega, by omega, ?_⟩ | refine ⟨by omega, ?_⟩ | skip
          first
            | refine CallQ.fzE (toGor_ok b hb) (by simp) ?_
            | refine CallK.fzE (toGor_ok b hb) (by simp) ?_
          simp -implicitDefEqProofs
          first | refine ⟨by omega, by omega, ?_⟩ | refine ⟨by omega, ?_⟩ | skip
          refine CallQ.fzE (eqGor_ok b hb) (by simp) ?_
          simp -implicitDefEqProofs
          repeat refine ⟨by omega, ?_⟩
          refine hK _ ?_
          clear hK K
          refine SW.cond _ rfl (by simp) ?_ ?_
          case' refine_2 =>
           intro hb5
           first
           | (exfalso; simp at hb5; done)
           | (exfalso; simp at hb5; omega)
           | (
            refine SW.skip ?_
            refine hK5 _ ?_
            refine SW.regionK fun K hK => ?_
            simp -implicitDefEqProofs
            repeat refine ⟨by omega, ?_⟩
            refine hK _ ?_
            clear hK K
            refine SW.regionK fun K hK => ?_
            simp -implicitDefEqProofs
            first | refine ⟨by omega, by omega, ?_⟩ | refine ⟨by omega, ?_⟩ | skip
            refine CallS.mono (mark_Prog a 1 _ 3 4 5 _ rfl (by simp) _ rfl (by simp) _ rfl (by simp) (by simp) hW hl0 hl1 hl2 (by omega) (by omega)) ?_
            rintro o h' ⟨rfl, m1, m2, rfl⟩
            simp -implicitDefEqProofs
            repeat refine ⟨by omega, ?_⟩
            refine hK _ ?_
            clear hK K
            refine SW.regionK fun K hK => ?_
            simp -implicitDefEqProofs
            first | refine ⟨by omega, by omega, ?_⟩ | refine ⟨by omega, ?_⟩ | skip
            refine CallS.mono (mark_Gor b (1 + (a.tw : Int)) _ 7 8 _ rfl (by simp) _ rfl (by simp) (by simp) hWg hg0 hg1 (by omega) (by omega)) ?_
            rintro o h' ⟨rfl, rfl⟩
            simp -implicitDefEqProofs
            repeat refine ⟨by omega, ?_⟩
            refine hK _ ?_
            clear hK K
            refine SW.seqK fun K6 hK6 => ?_
            refine SW.regionK fun K hK => ?_
            simp -implicitDefEqProofs
            first | refine ⟨by omega, by omega, ?_⟩ | refine ⟨by omega, ?_⟩ | skip
            refine CallG.fzE (by simp) (fun _ => eqGor_ok (stepG a b) hGo) (by simp) ?_
            simp -implicitDefEqProofs
            repeat refine ⟨by omega, ?_⟩
            refine hK _ ?_
            clear hK K
            refine SW.cond _ rfl (by simp) ?_ ?_
            case' refine_2 =>
             intro hb6
             first
             | (exfalso; simp at hb6; done)
             | (exfalso; simp at hb6; omega)
             | (
              refine SW.skip ?_
              refine hK6 _ ?_
              refine SW.regionK fun K hK => ?_
              simp -implicitDefEqProofs
              repeat refine ⟨by omega, ?_⟩
              refine hK _ ?_
              clear hK K
              refine SW.regionK fun K hK => ?_
              simp -implicitDefEqProofs
              first | refine ⟨by omega, by omega, ?_⟩ | refine ⟨by omega, ?_⟩ | skip
              refine CallS.mono (mark_Gor (stepG a b) 1 _ 10 11 _ rfl (by simp) _ rfl (by simp) (by simp) hGw hG0 hG1 (by omega) (by omega)) ?_
              rintro o h' ⟨rfl, rfl⟩
              simp -implicitDefEqProofs
              repeat refine ⟨by omega, ?_⟩
              refine hK _ ?_
              clear hK K
              refine SW.regionK fun K hK => ?_
              simp -implicitDefEqProofs
              repeat refine ⟨by omega, ?_⟩
              refine hK _ ?_
              clear hK K
              refine SW.regionK fun K hK => ?_
              simp -implicitDefEqProofs
              first | refine ⟨by omega, by omega, ?_⟩ | refine ⟨by omega, ?_⟩ | skip
              refine CallK.fzE (held_Gor (stepG a b) (stepG a b).regs.length (stepG a b).trace.length (by omega) (by omega)) (by simp) ?_
              simp -implicitDefEqProofs
              repeat refine ⟨by omega, ?_⟩
              refine hK _ ?_
              clear hK K
              refine SW.seqK fun K7 hK7 => ?_
              refine SW.regionK fun K hK => ?_
              simp -implicitDefEqProofs
              repeat refine ⟨by omega, ?_⟩
              refine hK _ ?_
              clear hK K
              refine SW.cond _ rfl (by simp) ?_ ?_
              case' refine_2 =>
               intro hb7
               first
               | (exfalso; simp at hb7; done)
               | (exfalso; simp at hb7; omega)
               | (
                refine SW.skip ?_
                refine hK7 _ ?_
                refine SW.seqK fun K8 hK8 => ?_
                refine SW.regionK fun K hK => ?_
                simp -implicitDefEqProofs
                repeat refine ⟨by omega, ?_⟩
                refine hK _ ?_
                clear hK K
                refine SW.cond _ rfl (by simp) ?_ ?_
                case' refine_2 =>
                 intro hb8
                 first
                 | (exfalso; simp at hb8; done)
                 | (exfalso; simp at hb8; omega)
                 | (
                  refine SW.skip ?_
                  refine hK8 _ ?_
                  refine SW.drawWK mixed [(0, false), (1, false), (2, false), (3, false), (4, false), (5, false), (6, false), (7, false), (8, true)] 9 7 [.q [(10, false)]] (by kernel_rfl) rfl fun K hK => ?_
                  simp -implicitDefEqProofs
                  first | refine ⟨by omega, by omega, ?_⟩ | refine ⟨by omega, ?_⟩ | skip
                  first
                    | refine CallQ.fzE (toProg_ok a ha) (by simp) ?_
                    | refine CallK.fzE (toProg_ok a ha) (by simp) ?_
                  simp -implicitDefEqProofs
                  first | refine ⟨by omega, by omega, ?_⟩ | refine ⟨by omega, ?_⟩ | skip
                  first
                    | refine CallQ.fzE (toGor_ok b hb) (by simp) ?_
                    | refine CallK.fzE (toGor_ok b hb) (by simp) ?_
                  simp -implicitDefEqProofs
                  first | refine ⟨by omega, by omega, ?_⟩ | refine ⟨by omega, ?_⟩ | skip
                  first
                    | refine CallQ.fzE (stepY_i a b ha hb hc) (by simp) ?_
                    | refine CallK.fzE (stepY_i a b ha hb hc) (by simp) ?_
                  simp -implicitDefEqProofs
                  repeat refine ⟨by omega, ?_⟩
                  refine hK _ ?_
                  clear hK K
                  refine SW.seqK fun K9 hK9 => ?_
                  refine SW.regionK fun K hK => ?_
                  simp -implicitDefEqProofs
                  first | refine ⟨by omega, by omega, ?_⟩ | refine ⟨by omega, ?_⟩ | skip
                  refine CallK.fzE (eqGor_ok (stepG a b) hGo) (by simp) ?_
                  simp -implicitDefEqProofs
                  repeat refine ⟨by omega, ?_⟩
                  refine hK _ ?_
                  clear hK K
                  refine SW.cond _ rfl (by simp) ?_ ?_
                  case' refine_2 =>
                   intro hb9
                   first
                   | (exfalso; simp at hb9; done)
                   | (exfalso; simp at hb9; omega)
                   | (
                    refine SW.skip ?_
                    refine hK9 _ ?_
                    refine SW.regionK fun K hK => ?_
                    simp -implicitDefEqProofs
                    repeat refine ⟨by omega, ?_⟩
                    refine hK _ ?_
                    clear hK K
                    refine SW.regionK fun K hK => ?_
                    simp -implicitDefEqProofs
                    first | refine ⟨by omega, by omega, ?_⟩ | refine ⟨by omega, ?_⟩ | skip
                    refine CallK.fzE (held_Gor (stepG a b) (stepG a b).regs.length (stepG a b).trace.length (by omega) (by omega)) (by simp) ?_
                    simp -implicitDefEqProofs
                    repeat refine ⟨by omega, ?_⟩
                    refine hK _ ?_
                    clear hK K
                    refine SW.seqK fun K10 hK10 => ?_
                    refine SW.regionK fun K hK => ?_
                    simp -implicitDefEqProofs
                    repeat refine ⟨by omega, ?_⟩
                    refine hK _ ?_
                    clear hK K
                    refine SW.cond _ rfl (by simp) ?_ ?_
                    case' refine_2 =>
                     intro hb10
                     first
                     | (exfalso; simp at hb10; done)
                     | (exfalso; simp at hb10; omega)
                     | (
                      refine SW.skip ?_
                      refine hK10 _ ?_
                      refine SW.seqK fun K11 hK11 => ?_
                      refine SW.regionK fun K hK => ?_
                      simp -implicitDefEqProofs
                      repeat refine ⟨by omega, ?_⟩
                      refine hK _ ?_
                      clear hK K
                      refine SW.cond _ rfl (by simp) ?_ ?_
                      case' refine_2 =>
                       intro hb11
                       first
                       | (exfalso; simp at hb11; done)
                       | (exfalso; simp at hb11; omega)
                       | (
                        refine SW.skip ?_
                        refine hK11 _ ?_
                        refine SW.regionK fun K hK => ?_
                        simp -implicitDefEqProofs
                        repeat refine ⟨by omega, ?_⟩
                        refine hK _ ?_
                        clear hK K
                        refine SW.ret ?_
                        simp [Ex.then, Ex.inBlock])
                      rotate_right
                      case' _ =>
                       intro hb11
                       first
                       | (exfalso; simp at hb11; done)
                       | (exfalso; simp at hb11; omega)
                       | (
                        refine SW.regionK fun K hK => ?_
                        simp -implicitDefEqProofs
                        repeat refine ⟨by omega, ?_⟩
                        refine hK _ ?_
                        clear hK K
                        refine SW.ret ?_
                        simp [Ex.then, Ex.inBlock]))
                    rotate_right
                    case' _ =>
                     intro hb10
                     first
                     | (exfalso; simp at hb10; done)
                     | (exfalso; simp at hb10; omega)
                     | (
                      refine SW.regionK fun K hK => ?_
                      simp -implicitDefEqProofs
                      repeat refine ⟨by omega, ?_⟩
                      refine hK _ ?_
                      clear hK K
                      refine SW.ret ?_
                      simp [Ex.then, Ex.inBlock]))
                  rotate_right
                  case' _ =>
                   intro hb9
                   first
                   | (exfalso; simp at hb9; done)
                   | (exfalso; simp at hb9; omega)
                   | (
                    refine SW.regionK fun K hK => ?_
                    simp -implicitDefEqProofs
                    repeat refine ⟨by omega, ?_⟩
                    refine hK _ ?_
                    clear hK K
                    refine SW.ret ?_
                    simp [Ex.then, Ex.inBlock]))
                rotate_right
                case' _ =>
                 intro hb8
                 first
                 | (exfalso; simp at hb8; done)
                 | (exfalso; simp at hb8; omega)
                 | (
                  refine SW.regionK fun K hK => ?_
                  simp -implicitDefEqProofs
                  repeat refine ⟨by omega, ?_⟩
                  refine hK _ ?_
                  clear hK K
                  refine SW.ret ?_
                  simp [Ex.then, Ex.inBlock]))
              rotate_right
              case' _ =>
               intro hb7
               first
               | (exfalso; simp at hb7; done)
               | (exfalso; simp at hb7; omega)
               | (
                refine SW.regionK fun K hK => ?_
                simp -implicitDefEqProofs
                repeat refine ⟨by omega, ?_⟩
                refine hK _ ?_
                clear hK K
                refine SW.ret ?_
                simp [Ex.then, Ex.inBlock]))
            rotate_right
            case' _ =>
             intro hb6
             first
             | (exfalso; simp at hb6; done)
             | (exfalso; simp at hb6; omega)
             | (
              refine SW.regionK fun K hK => ?_
              simp -implicitDefEqProofs
              repeat refine ⟨by omega, ?_⟩
              refine hK _ ?_
              clear hK K
              refine SW.ret ?_
              simp [Ex.then, Ex.inBlock]))
          rotate_right
          case' _ =>
           intro hb5
           first
           | (exfalso; simp at hb5; done)
           | (exfalso; simp at hb5; omega)
           | (
            refine SW.regionK fun K hK => ?_
            simp -implicitDefEqProofs
            repeat refine ⟨by omega, ?_⟩
            refine hK _ ?_
            clear hK K
            refine SW.ret ?_
            simp [Ex.then, Ex.inBlock]))
        rotate_right
        case' _ =>
         intro hb4
         first
         | (exfalso; simp at hb4; done)
         | (exfalso; simp at hb4; omega)
         | (
          refine SW.regionK fun K hK => ?_
          simp -implicitDefEqProofs
          repeat refine ⟨by omega, ?_⟩
          refine hK _ ?_
          clear hK K
          refine SW.ret ?_
          simp [Ex.then, Ex.inBlock]))
      rotate_right
      case' _ =>
       intro hb3
       first
       | (exfalso; simp at hb3; done)
       | (exfalso; simp at hb3; omega)
       | (
        refine SW.regionK fun K hK => ?_
        simp -implicitDefEqProofs
        repeat refine ⟨by omega, ?_⟩
        refine hK _ ?_
        clear hK K
        refine SW.ret ?_
        simp [Ex.then, Ex.inBlock]))
    rotate_right
    case' _ =>
     intro hb2
     first
     | (exfalso; simp at hb2; done)
     | (exfalso; simp at hb2; omega)
     | (
      refine SW.regionK fun K hK => ?_
      simp -implicitDefEqProofs
      repeat refine ⟨by omega, ?_⟩
      refine hK _ ?_
      clear hK K
      refine SW.ret ?_
      simp [Ex.then, Ex.inBlock]))
  rotate_right
  case' _ =>
   intro hb1
   first
   | (exfalso; simp at hb1; done)
   | (exfalso; simp at hb1; omega)
   | (
    refine SW.regionK fun K hK => ?_
    simp -implicitDefEqProofs
    repeat refine ⟨by omega, ?_⟩
    refine hK _ ?_
    clear hK K
    refine SW.ret ?_
    simp [Ex.then, Ex.inBlock])
set_option maxHeartbeats 1000000 in
theorem law_stepN (a : Prog) (b : Gor) (fa : a.fit) (fb : b.fit) (hc : (gorOk a b && isLoc a b) = false) : Fn Tryz.prog 3 [.agg a.fr, .agg b.fr] (.bool true) := by
  refine Fn.intro Tryz.func3 (by decide) rfl (rs := [.tmp 4]) rfl Tryz.ntmps3 (by simp) ?_
  have q1 := szR_cases a.sz 1048576
  have q2 := szR_cases b.sz (szR a.sz 1048576)
  have qt := Prog.tw_le a
  have qg := Gor.tw_le b
  refine SW.regionK fun K hK => ?_
  simp -implicitDefEqProofs
  repeat refine ⟨by omega, ?_⟩
  refine hK _ ?_
  clear hK K
  refine SW.regionK fun K hK => ?_
  simp -implicitDefEqProofs
  repeat refine ⟨by omega, ?_⟩
  refine hK _ ?_
  clear hK K
  refine SW.regionK fun K hK => ?_
  simp -implicitDefEqProofs
  first | refine ⟨by omega, by omega, ?_⟩ | refine ⟨by omega, ?_⟩ | skip
  refine CallK.fzE (szProg_ok a 1048576 fa (by omega) (by omega)) (by simp) ?_
  simp -implicitDefEqProofs
  repeat refine ⟨by omega, ?_⟩
  refine hK _ ?_
  clear hK K
  refine SW.seqK fun K1 hK1 => ?_
  refine SW.regionK fun K hK => ?_
  simp -implicitDefEqProofs
  repeat refine ⟨by omega, ?_⟩
  refine hK _ ?_
  clear hK K
  refine SW.cond _ rfl (by simp) ?_ ?_
  case' refine_2 =>
   intro hb1
   first
   | (exfalso; simp at hb1; done)
   | (exfalso; simp at hb1; omega)
   | (
    have n1 : 0 ≤ szR a.sz 1048576 := by simp at hb1; omega
    have ha : a.ok := Prog.sz_ok (by omega)
    have hW : a.tw ≤ 2 ^ 30 := by omega
    have hl0 : a.caps.length ≤ 2 ^ 30 := by have := ha.1; omega
    have hl1 : a.sels.length ≤ 2 ^ 30 := by have := ha.2.1; omega
    have hl2 : a.procs.length ≤ 2 ^ 30 := by have := ha.2.2.2.1; omega
    refine SW.skip ?_
    refine hK1 _ ?_
    refine SW.regionK fun K hK => ?_
    simp -implicitDefEqProofs
    first | refine ⟨by omega, by omega, ?_⟩ | refine ⟨by omega, ?_⟩ | skip
    refine CallK.fzE (szGor_ok b (szR a.sz 1048576) fb (by omega) (by omega)) (by simp) ?_
    simp -implicitDefEqProofs
    repeat refine ⟨by omega, ?_⟩
    refine hK _ ?_
    clear hK K
    refine SW.seqK fun K2 hK2 => ?_
    refine SW.regionK fun K hK => ?_
    simp -implicitDefEqProofs
    repeat refine ⟨by omega, ?_⟩
    refine hK _ ?_
    clear hK K
    refine SW.cond _ rfl (by simp) ?_ ?_
    case' refine_2 =>
     intro hb2
     first
     | (exfalso; simp at hb2; done)
     | (exfalso; simp at hb2; omega)
     | (
      have n2 : 0 ≤ szR b.sz (szR a.sz 1048576) := by simp at hb2; omega
      have hb : b.ok := Gor.sz_ok (by omega)
      have hzz : b.sz = b.regs.length + b.trace.length := rfl
      have hbz : b.regs.length + b.trace.length ≤ 1048576 := by omega
      have hWg : b.tw ≤ 2 ^ 30 := by omega
      have hg0 : b.regs.length ≤ 2 ^ 30 := by have := hb.1; omega
      have hg1 : b.trace.length ≤ 2 ^ 30 := by have := hb.2; omega
      refine SW.skip ?_
      refine hK2 _ ?_
      refine SW.drawWK mixed [(0, false), (1, false), (2, false), (3, false), (4, false), (5, false), (6, false), (7, false), (8, true)] 9 7 [.q [(10, false)]] (by kernel_rfl) rfl fun K hK => ?_
      simp -implicitDefEqProofs
      first | refine ⟨by omega, by omega, ?_⟩ | refine ⟨by omega, ?_⟩ | skip
      first
        | refine CallQ.fzE (toProg_ok a ha) (by simp) ?_
        | refine CallK.fzE (toProg_ok a ha) (by simp) ?_
      simp -implicitDefEqProofs
      first | refine ⟨by omega, by omega, ?_⟩ | refine ⟨by omega, ?_⟩ | skip
      first
        | refine CallQ.fzE (toGor_ok b hb) (by simp) ?_
        | refine CallK.fzE (toGor_ok b hb) (by simp) ?_
      simp -implicitDefEqProofs
      first | refine ⟨by omega, by omega, ?_⟩ | refine ⟨by omega, ?_⟩ | skip
      first
        | refine CallQ.fzE (stepN_s a b ha hb hc) (by simp) ?_
        | refine CallK.fzE (stepN_s a b ha hb hc) (by simp) ?_
      simp -implicitDefEqProofs
      repeat refine ⟨by omega, ?_⟩
      refine hK _ ?_
      clear hK K
      refine SW.regionK fun K hK => ?_
      simp -implicitDefEqProofs
      first | refine ⟨by omega, by omega, ?_⟩ | refine ⟨by omega, ?_⟩ | skip
      refine CallK.imE (toProg_ok a ha) (by simp) (Prog_oI a) ?_
      simp -implicitDefEqProofs
      repeat refine ⟨by omega, ?_⟩
      refine hK _ ?_
      clear hK K
      refine SW.regionK fun K hK => ?_
      simp -implicitDefEqProofs
      first | refine ⟨by omega, by omega, ?_⟩ | refine ⟨by omega, ?_⟩ | skip
      refine CallK.imE (toGor_ok b hb) (by simp) (Gor_oI b) ?_
      simp -implicitDefEqProofs
      repeat refine ⟨by omega, ?_⟩
      refine hK _ ?_
      clear hK K
      refine SW.regionK fun K hK => ?_
      simp -implicitDefEqProofs
      first | refine ⟨by omega, by omega, ?_⟩ | refine ⟨by omega, ?_⟩ | skip
      first
        | refine CallQ.fzE (stepN_i a b ha hb hc) (by simp) ?_
        | refine CallK.fzE (stepN_i a b ha hb hc) (by simp) ?_
      simp -implicitDefEqProofs
      repeat refine ⟨by omega, ?_⟩
      refine hK _ ?_
      clear hK K
      refine SW.seqK fun K3 hK3 => ?_
      refine SW.regionK fun K hK => ?_
      simp -implicitDefEqProofs
      first | refine ⟨by omega, by omega, ?_⟩ | refine ⟨by omega, ?_⟩ | skip
      refine CallK.fzE (eqGor_nil) (by simp) ?_
      simp -implicitDefEqProofs
      repeat refine ⟨by omega, ?_⟩
      refine hK _ ?_
      clear hK K
      refine SW.cond _ rfl (by simp) ?_ ?_
      case' refine_2 =>
       intro hb3
       first
       | (exfalso; simp at hb3; done)
       | (exfalso; simp at hb3; omega)
       | (
        refine SW.skip ?_
        refine hK3 _ ?_
        refine SW.seqK fun K4 hK4 => ?_
        refine SW.drawK mixed [.q [(0, false), (1, false), (2, false), (3, false), (4, false)]] (by kernel_rfl) rfl fun K hK => ?_
        simp -implicitDefEqProofs
        first | refine ⟨by omega, by omega, ?_⟩ | refine ⟨by omega, ?_⟩ | skip
        first
          | refine CallQ.fzE (toProg_ok a ha) (by simp) ?_
          | refine CallK.fzE (toProg_ok a ha) (by simp) ?_
        simp -implicitDefEqProofs
        first | refine ⟨by omega, by omega, ?_⟩ | refine ⟨by omega, ?_⟩ | skip
        refine CallQ.fzE (eqProg_ok a ha) (by simp) ?_
        simp -implicitDefEqProofs
        repeat refine ⟨by omega, ?_⟩
        refine hK _ ?_
        clear hK K
        refine SW.cond _ rfl (by simp) ?_ ?_
        case' refine_2 =>
         intro hb4
         first
         | (exfalso; simp at hb4; done)
         | (exfalso; simp at hb4; omega)
         | (
          refine SW.skip ?_
          refine hK4 _ ?_
          refine SW.seqK fun K5 hK5 => ?_
          refine SW.drawK mixed [.q [(0, false), (1, false), (2, false), (3, false), (4, false)]] (by kernel_rfl) rfl fun K hK => ?_
          simp -implicitDefEqProofs
          first | refine ⟨by omega, by omega, ?_⟩ | refine ⟨by omega, ?_⟩ | skip
          first
            | refine CallQ.fzE (toGor_ok b hb) (by simp) ?_
            | refine CallK.fzE (toGor_ok b hb) (by simp) ?_
          simp -implicitDefEqProofs
          first | refine ⟨by omega, by omega, ?_⟩ | refine ⟨by omega, ?_⟩ | skip
          refine CallQ.fzE (eqGor_ok b hb) (by simp) ?_
          simp -implicitDefEqProofs
          repeat refine ⟨by omega, ?_⟩
          refine hK _ ?_
          clear hK K
          refine SW.cond _ rfl (by simp) ?_ ?_
          case' refine_2 =>
           intro hb5
           first
           | (exfalso; simp at hb5; done)
           | (exfalso; simp at hb5; omega)
           | (
            refine SW.skip ?_
            refine hK5 _ ?_
            refine SW.regionK fun K hK => ?_
            simp -implicitDefEqProofs
            repeat refine ⟨by omega, ?_⟩
            refine hK _ ?_
            clear hK K
            refine SW.regionK fun K hK => ?_
            simp -implicitDefEqProofs
            first | refine ⟨by omega, by omega, ?_⟩ | refine ⟨by omega, ?_⟩ | skip
            refine CallS.mono (mark_Prog a 1 _ 3 4 5 _ rfl (by simp) _ rfl (by simp) _ rfl (by simp) (by simp) hW hl0 hl1 hl2 (by omega) (by omega)) ?_
            rintro o h' ⟨rfl, m1, m2, rfl⟩
            simp -implicitDefEqProofs
            repeat refine ⟨by omega, ?_⟩
            refine hK _ ?_
            clear hK K
            refine SW.regionK fun K hK => ?_
            simp -implicitDefEqProofs
            first | refine ⟨by omega, by omega, ?_⟩ | refine ⟨by omega, ?_⟩ | skip
            refine CallS.mono (mark_Gor b (1 + (a.tw : Int)) _ 7 8 _ rfl (by simp) _ rfl (by simp) (by simp) hWg hg0 hg1 (by omega) (by omega)) ?_
            rintro o h' ⟨rfl, rfl⟩
            simp -implicitDefEqProofs
            repeat refine ⟨by omega, ?_⟩
            refine hK _ ?_
            clear hK K
            refine SW.seqK fun K6 hK6 => ?_
            refine SW.regionK fun K hK => ?_
            simp -implicitDefEqProofs
            first | refine ⟨by omega, by omega, ?_⟩ | refine ⟨by omega, ?_⟩ | skip
            refine CallG.fzE (by simp) (fun _ => eqGor_nil) (by simp) ?_
            simp -implicitDefEqProofs
            repeat refine ⟨by omega, ?_⟩
            refine hK _ ?_
            clear hK K
            refine SW.cond _ rfl (by simp) ?_ ?_
            case' refine_2 =>
             intro hb6
             first
             | (exfalso; simp at hb6; done)
             | (exfalso; simp at hb6; omega)
             | (
              refine SW.skip ?_
              refine hK6 _ ?_
              refine SW.regionK fun K hK => ?_
              simp -implicitDefEqProofs
              repeat refine ⟨by omega, ?_⟩
              refine hK _ ?_
              clear hK K
              refine SW.regionK fun K hK => ?_
              simp -implicitDefEqProofs
              first | refine ⟨by omega, by omega, ?_⟩ | refine ⟨by omega, ?_⟩ | skip
              refine CallS.mono (mark_Gor_nil _ 1) ?_
              rintro o h' ⟨rfl, rfl⟩
              simp -implicitDefEqProofs
              repeat refine ⟨by omega, ?_⟩
              refine hK _ ?_
              clear hK K
              refine SW.regionK fun K hK => ?_
              simp -implicitDefEqProofs
              repeat refine ⟨by omega, ?_⟩
              refine hK _ ?_
              clear hK K
              refine SW.regionK fun K hK => ?_
              simp -implicitDefEqProofs
              first | refine ⟨by omega, by omega, ?_⟩ | refine ⟨by omega, ?_⟩ | skip
              refine CallK.fzE (held_Gor_nil) (by simp) ?_
              simp -implicitDefEqProofs
              repeat refine ⟨by omega, ?_⟩
              refine hK _ ?_
              clear hK K
              refine SW.seqK fun K7 hK7 => ?_
              refine SW.regionK fun K hK => ?_
              simp -implicitDefEqProofs
              repeat refine ⟨by omega, ?_⟩
              refine hK _ ?_
              clear hK K
              refine SW.cond _ rfl (by simp) ?_ ?_
              case' refine_2 =>
               intro hb7
               first
               | (exfalso; simp at hb7; done)
               | (exfalso; simp at hb7; omega)
               | (
                refine SW.skip ?_
                refine hK7 _ ?_
                refine SW.seqK fun K8 hK8 => ?_
                refine SW.regionK fun K hK => ?_
                simp -implicitDefEqProofs
                repeat refine ⟨by omega, ?_⟩
                refine hK _ ?_
                clear hK K
                refine SW.cond _ rfl (by simp) ?_ ?_
                case' refine_2 =>
                 intro hb8
                 first
                 | (exfalso; simp at hb8; done)
                 | (exfalso; simp at hb8; omega)
                 | (
                  refine SW.skip ?_
                  refine hK8 _ ?_
                  refine SW.drawWK mixed [(0, false), (1, false), (2, false), (3, false), (4, false), (5, false), (6, false), (7, false), (8, true)] 9 7 [.q [(10, false)]] (by kernel_rfl) rfl fun K hK => ?_
                  simp -implicitDefEqProofs
                  first | refine ⟨by omega, by omega, ?_⟩ | refine ⟨by omega, ?_⟩ | skip
                  first
                    | refine CallQ.fzE (toProg_ok a ha) (by simp) ?_
                    | refine CallK.fzE (toProg_ok a ha) (by simp) ?_
                  simp -implicitDefEqProofs
                  first | refine ⟨by omega, by omega, ?_⟩ | refine ⟨by omega, ?_⟩ | skip
                  first
                    | refine CallQ.fzE (toGor_ok b hb) (by simp) ?_
                    | refine CallK.fzE (toGor_ok b hb) (by simp) ?_
                  simp -implicitDefEqProofs
                  first | refine ⟨by omega, by omega, ?_⟩ | refine ⟨by omega, ?_⟩ | skip
                  first
                    | refine CallQ.fzE (stepN_i a b ha hb hc) (by simp) ?_
                    | refine CallK.fzE (stepN_i a b ha hb hc) (by simp) ?_
                  simp -implicitDefEqProofs
                  repeat refine ⟨by omega, ?_⟩
                  refine hK _ ?_
                  clear hK K
                  refine SW.seqK fun K9 hK9 => ?_
                  refine SW.regionK fun K hK => ?_
                  simp -implicitDefEqProofs
                  first | refine ⟨by omega, by omega, ?_⟩ | refine ⟨by omega, ?_⟩ | skip
                  refine CallK.fzE (eqGor_nil) (by simp) ?_
                  simp -implicitDefEqProofs
                  repeat refine ⟨by omega, ?_⟩
                  refine hK _ ?_
                  clear hK K
                  refine SW.cond _ rfl (by simp) ?_ ?_
                  case' refine_2 =>
                   intro hb9
                   first
                   | (exfalso; simp at hb9; done)
                   | (exfalso; simp at hb9; omega)
                   | (
                    refine SW.skip ?_
                    refine hK9 _ ?_
                    refine SW.regionK fun K hK => ?_
                    simp -implicitDefEqProofs
                    repeat refine ⟨by omega, ?_⟩
                    refine hK _ ?_
                    clear hK K
                    refine SW.regionK fun K hK => ?_
                    simp -implicitDefEqProofs
                    first | refine ⟨by omega, by omega, ?_⟩ | refine ⟨by omega, ?_⟩ | skip
                    refine CallK.fzE (held_Gor_nil) (by simp) ?_
                    simp -implicitDefEqProofs
                    repeat refine ⟨by omega, ?_⟩
                    refine hK _ ?_
                    clear hK K
                    refine SW.seqK fun K10 hK10 => ?_
                    refine SW.regionK fun K hK => ?_
                    simp -implicitDefEqProofs
                    repeat refine ⟨by omega, ?_⟩
                    refine hK _ ?_
                    clear hK K
                    refine SW.cond _ rfl (by simp) ?_ ?_
                    case' refine_2 =>
                     intro hb10
                     first
                     | (exfalso; simp at hb10; done)
                     | (exfalso; simp at hb10; omega)
                     | (
                      refine SW.skip ?_
                      refine hK10 _ ?_
                      refine SW.seqK fun K11 hK11 => ?_
                      refine SW.regionK fun K hK => ?_
                      simp -implicitDefEqProofs
                      repeat refine ⟨by omega, ?_⟩
                      refine hK _ ?_
                      clear hK K
                      refine SW.cond _ rfl (by simp) ?_ ?_
                      case' refine_2 =>
                       intro hb11
                       first
                       | (exfalso; simp at hb11; done)
                       | (exfalso; simp at hb11; omega)
                       | (
                        refine SW.skip ?_
                        refine hK11 _ ?_
                        refine SW.regionK fun K hK => ?_
                        simp -implicitDefEqProofs
                        repeat refine ⟨by omega, ?_⟩
                        refine hK _ ?_
                        clear hK K
                        refine SW.ret ?_
                        simp [Ex.then, Ex.inBlock])
                      rotate_right
                      case' _ =>
                       intro hb11
                       first
                       | (exfalso; simp at hb11; done)
                       | (exfalso; simp at hb11; omega)
                       | (
                        refine SW.regionK fun K hK => ?_
                        simp -implicitDefEqProofs
                        repeat refine ⟨by omega, ?_⟩
                        refine hK _ ?_
                        clear hK K
                        refine SW.ret ?_
                        simp [Ex.then, Ex.inBlock]))
                    rotate_right
                    case' _ =>
                     intro hb10
                     first
                     | (exfalso; simp at hb10; done)
                     | (exfalso; simp at hb10; omega)
                     | (
                      refine SW.regionK fun K hK => ?_
                      simp -implicitDefEqProofs
                      repeat refine ⟨by omega, ?_⟩
                      refine hK _ ?_
                      clear hK K
                      refine SW.ret ?_
                      simp [Ex.then, Ex.inBlock]))
                  rotate_right
                  case' _ =>
                   intro hb9
                   first
                   | (exfalso; simp at hb9; done)
                   | (exfalso; simp at hb9; omega)
                   | (
                    refine SW.regionK fun K hK => ?_
                    simp -implicitDefEqProofs
                    repeat refine ⟨by omega, ?_⟩
                    refine hK _ ?_
                    clear hK K
                    refine SW.ret ?_
                    simp [Ex.then, Ex.inBlock]))
                rotate_right
                case' _ =>
                 intro hb8
                 first
                 | (exfalso; simp at hb8; done)
                 | (exfalso; simp at hb8; omega)
                 | (
                  refine SW.regionK fun K hK => ?_
                  simp -implicitDefEqProofs
                  repeat refine ⟨by omega, ?_⟩
                  refine hK _ ?_
                  clear hK K
                  refine SW.ret ?_
                  simp [Ex.then, Ex.inBlock]))
              rotate_right
              case' _ =>
               intro hb7
               first
               | (exfalso; simp at hb7; done)
               | (exfalso; simp at hb7; omega)
               | (
                refine SW.regionK fun K hK => ?_
                simp -implicitDefEqProofs
                repeat refine ⟨by omega, ?_⟩
                refine hK _ ?_
                clear hK K
                refine SW.ret ?_
                simp [Ex.then, Ex.inBlock]))
            rotate_right
            case' _ =>
             intro hb6
             first
             | (exfalso; simp at hb6; done)
             | (exfalso; simp at hb6; omega)
             | (
              refine SW.regionK fun K hK => ?_
              simp -implicitDefEqProofs
              repeat refine ⟨by omega, ?_⟩
              refine hK _ ?_
              clear hK K
              refine SW.ret ?_
              simp [Ex.then, Ex.inBlock]))
          rotate_right
          case' _ =>
           intro hb5
           first
           | (exfalso; simp at hb5; done)
           | (exfalso; simp at hb5; omega)
           | (
            refine SW.regionK fun K hK => ?_
            simp -implicitDefEqProofs
            repeat refine ⟨by omega, ?_⟩
            refine hK _ ?_
            clear hK K
            refine SW.ret ?_
            simp [Ex.then, Ex.inBlock]))
        rotate_right
        case' _ =>
         intro hb4
         first
         | (exfalso; simp at hb4; done)
         | (exfalso; simp at hb4; omega)
         | (
          refine SW.regionK fun K hK => ?_
          simp -implicitDefEqProofs
          repeat refine ⟨by omega, ?_⟩
          refine hK _ ?_
          clear hK K
          refine SW.ret ?_
          simp [Ex.then, Ex.inBlock]))
      rotate_right
      case' _ =>
       intro hb3
       first
       | (exfalso; simp at hb3; done)
       | (exfalso; simp at hb3; omega)
       | (
        refine SW.regionK fun K hK => ?_
        simp -implicitDefEqProofs
        repeat refine ⟨by omega, ?_⟩
        refine hK _ ?_
        clear hK K
        refine SW.ret ?_
        simp [Ex.then, Ex.inBlock]))
    rotate_right
    case' _ =>
     intro hb2
     first
     | (exfalso; simp at hb2; done)
     | (exfalso; simp at hb2; omega)
     | (
      refine SW.regionK fun K hK => ?_
      simp -implicitDefEqProofs
      repeat refine ⟨by omega, ?_⟩
      refine hK _ ?_
      clear hK K
      refine SW.ret ?_
      simp [Ex.then, Ex.inBlock]))
  rotate_right
  case' _ =>
   intro hb1
   first
   | (exfalso; simp at hb1; done)
   | (exfalso; simp at hb1; omega)
   | (
    refine SW.regionK fun K hK => ?_
    simp -implicitDefEqProofs
    repeat refine ⟨by omega, ?_⟩
    refine hK _ ?_
    clear hK K
    refine SW.ret ?_
    simp [Ex.then, Ex.inBlock])
theorem law_stepLocal (a : Prog) (b : Gor) (fa : a.fit) (fb : b.fit) : Fn Tryz.prog 3 [.agg a.fr, .agg b.fr] (.bool true) := by
  cases hc : (gorOk a b && isLoc a b) with
  | true => exact law_stepY a b fa fb hc
  | false => exact law_stepN a b fa fb hc
set_option maxHeartbeats 1000000 in
theorem law_burnY (a : Prog) (b : Gor) (most : Int) (fa : a.fit) (fb : b.fit) (hk : gorOk a b = true) : Fn Tryz.prog 4 [.agg a.fr, .agg b.fr, .int .i64 most] (.bool true) := by
  refine Fn.intro Tryz.func4 (by decide) rfl (rs := [.tmp 6]) rfl Tryz.ntmps4 (by simp) ?_
  have q1 := szR_cases a.sz 1048576
  have q2 := szR_cases b.sz (szR a.sz 1048576)
  have qt := Prog.tw_le a
  have qg := Gor.tw_le b
  refine SW.regionK fun K hK => ?_
  simp -implicitDefEqProofs
  repeat refine ⟨by omega, ?_⟩
  refine hK _ ?_
  clear hK K
  refine SW.regionK fun K hK => ?_
  simp -implicitDefEqProofs
  repeat refine ⟨by omega, ?_⟩
  refine hK _ ?_
  clear hK K
  refine SW.regionK fun K hK => ?_
  simp -implicitDefEqProofs
  first | refine ⟨by omega, by omega, ?_⟩ | refine ⟨by omega, ?_⟩ | skip
  refine CallK.fzE (szProg_ok a 1048576 fa (by omega) (by omega)) (by simp) ?_
  simp -implicitDefEqProofs
  repeat refine ⟨by omega, ?_⟩
  refine hK _ ?_
  clear hK K
  refine SW.seqK fun K1 hK1 => ?_
  refine SW.regionK fun K hK => ?_
  simp -implicitDefEqProofs
  repeat refine ⟨by omega, ?_⟩
  refine hK _ ?_
  clear hK K
  refine SW.cond _ rfl (by simp) ?_ ?_
  case' refine_2 =>
   intro hb1
   first
   | (exfalso; simp at hb1; done)
   | (exfalso; simp at hb1; omega)
   | (
    have n1 : 0 ≤ szR a.sz 1048576 := by simp at hb1; omega
    have ha : a.ok := Prog.sz_ok (by omega)
    have hW : a.tw ≤ 2 ^ 30 := by omega
    have hl0 : a.caps.length ≤ 2 ^ 30 := by have := ha.1; omega
    have hl1 : a.sels.length ≤ 2 ^ 30 := by have := ha.2.1; omega
    have hl2 : a.procs.length ≤ 2 ^ 30 := by have := ha.2.2.2.1; omega
    refine SW.skip ?_
    refine hK1 _ ?_
    refine SW.regionK fun K hK => ?_
    simp -implicitDefEqProofs
    first | refine ⟨by omega, by omega, ?_⟩ | refine ⟨by omega, ?_⟩ | skip
    refine CallK.fzE (szGor_ok b (szR a.sz 1048576) fb (by omega) (by omega)) (by simp) ?_
    simp -implicitDefEqProofs
    repeat refine ⟨by omega, ?_⟩
    refine hK _ ?_
    clear hK K
    refine SW.seqK fun K2 hK2 => ?_
    refine SW.regionK fun K hK => ?_
    simp -implicitDefEqProofs
    repeat refine ⟨by omega, ?_⟩
    refine hK _ ?_
    clear hK K
    refine SW.cond _ rfl (by simp) ?_ ?_
    case' refine_2 =>
     intro hb2
     first
     | (exfalso; simp at hb2; done)
     | (exfalso; simp at hb2; omega)
     | (
      have n2 : 0 ≤ szR b.sz (szR a.sz 1048576) := by simp at hb2; omega
      have hb : b.ok := Gor.sz_ok (by omega)
      have hzz : b.sz = b.regs.length + b.trace.length := rfl
      have hbz : b.regs.length + b.trace.length ≤ 1048576 := by omega
      have hWg : b.tw ≤ 2 ^ 30 := by omega
      have hg0 : b.regs.length ≤ 2 ^ 30 := by have := hb.1; omega
      have hg1 : b.trace.length ≤ 2 ^ 30 := by have := hb.2; omega
      have hI := gor_inv hb hk
      have hGr : (burnR a most 2000 b 0).1.regs.length = 6 := (burn_inv hI).regs
      have hGt : (burnR a most 2000 b 0).1.trace.length ≤ b.trace.length + 1 := burn_tr
      have hbr6 : b.regs.length = 6 := hI.regs
      have hTw : (((burnR a most 2000 b 0).1.tw : Nat) : Int) = ((burnR a most 2000 b 0).1.regs.length : Int) + 4 * ((burnR a most 2000 b 0).1.trace.length : Int) := by simp only [Gor.tw]; omega
      have hGo : (burnR a most 2000 b 0).1.ok := ⟨by omega, by omega⟩
      have hGw : (burnR a most 2000 b 0).1.tw ≤ 2 ^ 30 := by simp only [Gor.tw]; omega
      have hG0 : (burnR a most 2000 b 0).1.regs.length ≤ 2 ^ 30 := by omega
      have hG1 : (burnR a most 2000 b 0).1.trace.length ≤ 2 ^ 30 := by omega
      refine SW.skip ?_
      refine hK2 _ ?_
      refine SW.drawWK mixed [(0, false), (1, false), (2, false), (3, false), (4, false), (5, false), (6, false), (7, false), (8, false), (9, true)] 10 8 [.q [(11, false)]] (by kernel_rfl) rfl fun K hK => ?_
      simp -implicitDefEqProofs
      first | refine ⟨by omega, by omega, ?_⟩ | refine ⟨by omega, ?_⟩ | skip
      first
        | refine CallQ.fzE (toProg_ok a ha) (by simp) ?_
        | refine CallK.fzE (toProg_ok a ha) (by simp) ?_
      simp -implicitDefEqProofs
      first | refine ⟨by omega, by omega, ?_⟩ | refine ⟨by omega, ?_⟩ | skip
      first
        | refine CallQ.fzE (toGor_ok b hb) (by simp) ?_
        | refine CallK.fzE (toGor_ok b hb) (by simp) ?_
      simp -implicitDefEqProofs
      first | refine ⟨by omega, by omega, ?_⟩ | refine ⟨by omega, ?_⟩ | skip
      first
        | refine CallQ.fzE (burnY_s a b most ha hb hk) (by simp) ?_
        | refine CallK.fzE (burnY_s a b most ha hb hk) (by simp) ?_
      simp -implicitDefEqProofs
      repeat refine ⟨by omega, ?_⟩
      refine hK _ ?_
      clear hK K
      refine SW.regionK fun K hK => ?_
      simp -implicitDefEqProofs
      first | refine ⟨by omega, by omega, ?_⟩ | refine ⟨by omega, ?_⟩ | skip
      refine CallK.imE (toProg_ok a ha) (by simp) (Prog_oI a) ?_
      simp -implicitDefEqProofs
      repeat refine ⟨by omega, ?_⟩
      refine hK _ ?_
      clear hK K
      refine SW.regionK fun K hK => ?_
      simp -implicitDefEqProofs
      first | refine ⟨by omega, by omega, ?_⟩ | refine ⟨by omega, ?_⟩ | skip
      refine CallK.imE (toGor_ok b hb) (by simp) (Gor_oI b) ?_
      simp -implicitDefEqProofs
      repeat refine ⟨by omega, ?_⟩
      refine hK _ ?_
      clear hK K
      refine SW.regionK fun K hK => ?_
      simp -implicitDefEqProofs
      first | refine ⟨by omega, by omega, ?_⟩ | refine ⟨by omega, ?_⟩ | skip
      refine CallK.imE (burnY_i a b most ha hb hk) (by simp) (by simp) ?_
      simp -implicitDefEqProofs
      repeat refine ⟨by omega, ?_⟩
      refine hK _ ?_
      clear hK K
      refine SW.seqK fun K3 hK3 => ?_
      refine SW.regionK fun K hK => ?_
      simp -implicitDefEqProofs
      first | refine ⟨by omega, by omega, ?_⟩ | refine ⟨by omega, ?_⟩ | skip
      refine CallK.fzE (eqGor_ok (burnR a most 2000 b 0).1 hGo) (by simp) ?_
      simp -implicitDefEqProofs
      repeat refine ⟨by omega, ?_⟩
      refine hK _ ?_
      clear hK K
      refine SW.cond _ rfl (by simp) ?_ ?_
      case' refine_2 =>
       intro hb3
       first
       | (exfalso; simp at hb3; done)
       | (exfalso; simp at hb3; omega)
       | (
        refine SW.skip ?_
        refine hK3 _ ?_
        refine SW.seqK fun K4 hK4 => ?_
        refine SW.drawK mixed [.q [(0, false), (1, false), (2, false), (3, false), (4, false)]] (by kernel_rfl) rfl fun K hK => ?_
        simp -implicitDefEqProofs
        first | refine ⟨by omega, by omega, ?_⟩ | refine ⟨by omega, ?_⟩ | skip
        first
          | refine CallQ.fzE (toProg_ok a ha) (by simp) ?_
          | refine CallK.fzE (toProg_ok a ha) (by simp) ?_
        simp -implicitDefEqProofs
        first | refine ⟨by omega, by omega, ?_⟩ | refine ⟨by omega, ?_⟩ | skip
        refine CallQ.fzE (eqProg_ok a ha) (by simp) ?_
        simp -implicitDefEqProofs
        repeat refine ⟨by omega, ?_⟩
        refine hK _ ?_
        clear hK K
        refine SW.cond _ rfl (by simp) ?_ ?_
        case' refine_2 =>
         intro hb4
         first
         | (exfalso; simp at hb4; done)
         | (exfalso; simp at hb4; omega)
         | (
          refine SW.skip ?_
          refine hK4 _ ?_
          refine SW.seqK fun K5 hK5 => ?_
          refine SW.drawK mixed [.q [(0, false), (1, false), (2, false), (3, false), (4, false)]] (by kernel_rfl) rfl fun K hK => ?_
          simp -implicitDefEqProofs
          first | refine ⟨by omega, by omega, ?_⟩ | refine ⟨by omega, ?_⟩ | skip
          first
            | refine CallQ.fzE (toGor_ok b hb) (by simp) ?_
            | refine CallK.fzE (toGor_ok b hb) (by simp) ?_
          simp -implicitDefEqProofs
          first | refine ⟨by omega, by omega, ?_⟩ | refine ⟨by omega, ?_⟩ | skip
          refine CallQ.fzE (eqGor_ok b hb) (by simp) ?_
          simp -implicitDefEqProofs
          repeat refine ⟨by omega, ?_⟩
          refine hK _ ?_
          clear hK K
          refine SW.cond _ rfl (by simp) ?_ ?_
          case' refine_2 =>
           intro hb5
           first
           | (exfalso; simp at hb5; done)
           | (exfalso; simp at hb5; omega)
           | (
            refine SW.skip ?_
            refine hK5 _ ?_
            refine SW.regionK fun K hK => ?_
            simp -implicitDefEqProofs
            repeat refine ⟨by omega, ?_⟩
            refine hK _ ?_
            clear hK K
            refine SW.regionK fun K hK => ?_
            simp -implicitDefEqProofs
            first | refine ⟨by omega, by omega, ?_⟩ | refine ⟨by omega, ?_⟩ | skip
            refine CallS.mono (mark_Prog a 1 _ 3 4 5 _ rfl (by simp) _ rfl (by simp) _ rfl (by simp) (by simp) hW hl0 hl1 hl2 (by omega) (by omega)) ?_
            rintro o h' ⟨rfl, m1, m2, rfl⟩
            simp -implicitDefEqProofs
            repeat refine ⟨by omega, ?_⟩
            refine hK _ ?_
            clear hK K
            refine SW.regionK fun K hK => ?_
            simp -implicitDefEqProofs
            first | refine ⟨by omega, by omega, ?_⟩ | refine ⟨by omega, ?_⟩ | skip
            refine CallS.mono (mark_Gor b (1 + (a.tw : Int)) _ 7 8 _ rfl (by simp) _ rfl (by simp) (by simp) hWg hg0 hg1 (by omega) (by omega)) ?_
            rintro o h' ⟨rfl, rfl⟩
            simp -implicitDefEqProofs
            repeat refine ⟨by omega, ?_⟩
            refine hK _ ?_
            clear hK K
            refine SW.seqK fun K6 hK6 => ?_
            refine SW.regionK fun K hK => ?_
            simp -implicitDefEqProofs
            first | refine ⟨by omega, by omega, ?_⟩ | refine ⟨by omega, ?_⟩ | skip
            refine CallG.fzE (by simp) (fun _ => eqGor_ok (burnR a most 2000 b 0).1 hGo) (by simp) ?_
            simp -implicitDefEqProofs
            repeat refine ⟨by omega, ?_⟩
            refine hK _ ?_
            clear hK K
            refine SW.cond _ rfl (by simp) ?_ ?_
            case' refine_2 =>
             intro hb6
             first
             | (exfalso; simp at hb6; done)
             | (exfalso; simp at hb6; omega)
             | (
              refine SW.skip ?_
              refine hK6 _ ?_
              refine SW.regionK fun K hK => ?_
              simp -implicitDefEqProofs
              repeat refine ⟨by omega, ?_⟩
              refine hK _ ?_
              clear hK K
              refine SW.regionK fun K hK => ?_
              simp -implicitDefEqProofs
              first | refine ⟨by omega, by omega, ?_⟩ | refine ⟨by omega, ?_⟩ | skip
              refine CallS.mono (mark_Gor (burnR a most 2000 b 0).1 1 _ 10 11 _ rfl (by simp) _ rfl (by simp) (by simp) hGw hG0 hG1 (by omega) (by omega)) ?_
              rintro o h' ⟨rfl, rfl⟩
              simp -implicitDefEqProofs
              repeat refine ⟨by omega, ?_⟩
              refine hK _ ?_
              clear hK K
              refine SW.regionK fun K hK => ?_
              simp -implicitDefEqProofs
              repeat refine ⟨by omega, ?_⟩
              refine hK _ ?_
              clear hK K
              refine SW.regionK fun K hK => ?_
              simp -implicitDefEqProofs
              first | refine ⟨by omega, by omega, ?_⟩ | refine ⟨by omega, ?_⟩ | skip
              refine CallK.fzE (held_Gor (burnR a most 2000 b 0).1 (burnR a most 2000 b 0).1.regs.length (burnR a most 2000 b 0).1.trace.length (by omega) (by omega)) (by simp) ?_
              simp -implicitDefEqProofs
              repeat refine ⟨by omega, ?_⟩
              refine hK _ ?_
              clear hK K
              refine SW.seqK fun K7 hK7 => ?_
              refine SW.regionK fun K hK => ?_
              simp -implicitDefEqProofs
              repeat refine ⟨by omega, ?_⟩
              refine hK _ ?_
              clear hK K
              refine SW.cond _ rfl (by simp) ?_ ?_
              case' refine_2 =>
               intro hb7
               first
               | (exfalso; simp at hb7; done)
               | (exfalso; simp at hb7; omega)
               | (
                refine SW.skip ?_
                refine hK7 _ ?_
                refine SW.seqK fun K8 hK8 => ?_
                refine SW.regionK fun K hK => ?_
                simp -implicitDefEqProofs
                repeat refine ⟨by omega, ?_⟩
                refine hK _ ?_
                clear hK K
                refine SW.cond _ rfl (by simp) ?_ ?_
                case' refine_2 =>
                 intro hb8
                 first
                 | (exfalso; simp at hb8; done)
                 | (exfalso; simp at hb8; omega)
                 | (
                  refine SW.skip ?_
                  refine hK8 _ ?_
                  refine SW.drawWK mixed [(0, false), (1, false), (2, false), (3, false), (4, false), (5, false), (6, false), (7, false), (8, false), (9, true)] 10 8 [.q [(11, false)]] (by kernel_rfl) rfl fun K hK => ?_
                  simp -implicitDefEqProofs
                  first | refine ⟨by omega, by omega, ?_⟩ | refine ⟨by omega, ?_⟩ | skip
                  first
                    | refine CallQ.fzE (toProg_ok a ha) (by simp) ?_
                    | refine CallK.fzE (toProg_ok a ha) (by simp) ?_
                  simp -implicitDefEqProofs
                  first | refine ⟨by omega, by omega, ?_⟩ | refine ⟨by omega, ?_⟩ | skip
                  first
                    | refine CallQ.fzE (toGor_ok b hb) (by simp) ?_
                    | refine CallK.fzE (toGor_ok b hb) (by simp) ?_
                  simp -implicitDefEqProofs
                  first | refine ⟨by omega, by omega, ?_⟩ | refine ⟨by omega, ?_⟩ | skip
                  first
                    | refine CallQ.fzE (burnY_i a b most ha hb hk) (by simp) ?_
                    | refine CallK.fzE (burnY_i a b most ha hb hk) (by simp) ?_
                  simp -implicitDefEqProofs
                  repeat refine ⟨by omega, ?_⟩
                  refine hK _ ?_
                  clear hK K
                  refine SW.seqK fun K9 hK9 => ?_
                  refine SW.regionK fun K hK => ?_
                  simp -implicitDefEqProofs
                  first | refine ⟨by omega, by omega, ?_⟩ | refine ⟨by omega, ?_⟩ | skip
                  refine CallK.fzE (eqGor_ok (burnR a most 2000 b 0).1 hGo) (by simp) ?_
                  simp -implicitDefEqProofs
                  repeat refine ⟨by omega, ?_⟩
                  refine hK _ ?_
                  clear hK K
                  refine SW.cond _ rfl (by simp) ?_ ?_
                  case' refine_2 =>
                   intro hb9
                   first
                   | (exfalso; simp at hb9; done)
                   | (exfalso; simp at hb9; omega)
                   | (
                    refine SW.skip ?_
                    refine hK9 _ ?_
                    refine SW.regionK fun K hK => ?_
                    simp -implicitDefEqProofs
                    repeat refine ⟨by omega, ?_⟩
                    refine hK _ ?_
                    clear hK K
                    refine SW.regionK fun K hK => ?_
                    simp -implicitDefEqProofs
                    first | refine ⟨by omega, by omega, ?_⟩ | refine ⟨by omega, ?_⟩ | skip
                    refine CallK.fzE (held_Gor (burnR a most 2000 b 0).1 (burnR a most 2000 b 0).1.regs.length (burnR a most 2000 b 0).1.trace.length (by omega) (by omega)) (by simp) ?_
                    simp -implicitDefEqProofs
                    repeat refine ⟨by omega, ?_⟩
                    refine hK _ ?_
                    clear hK K
                    refine SW.seqK fun K10 hK10 => ?_
                    refine SW.regionK fun K hK => ?_
                    simp -implicitDefEqProofs
                    repeat refine ⟨by omega, ?_⟩
                    refine hK _ ?_
                    clear hK K
                    refine SW.cond _ rfl (by simp) ?_ ?_
                    case' refine_2 =>
                     intro hb10
                     first
                     | (exfalso; simp at hb10; done)
                     | (exfalso; simp at hb10; omega)
                     | (
                      refine SW.skip ?_
                      refine hK10 _ ?_
                      refine SW.seqK fun K11 hK11 => ?_
                      refine SW.regionK fun K hK => ?_
                      simp -implicitDefEqProofs
                      repeat refine ⟨by omega, ?_⟩
                      refine hK _ ?_
                      clear hK K
                      refine SW.cond _ rfl (by simp) ?_ ?_
                      case' refine_2 =>
                       intro hb11
                       first
                       | (exfalso; simp at hb11; done)
                       | (exfalso; simp at hb11; omega)
                       | (
                        refine SW.skip ?_
                        refine hK11 _ ?_
                        refine SW.regionK fun K hK => ?_
                        simp -implicitDefEqProofs
                        repeat refine ⟨by omega, ?_⟩
                        refine hK _ ?_
                        clear hK K
                        refine SW.ret ?_
                        simp [Ex.then, Ex.inBlock])
                      rotate_right
                      case' _ =>
                       intro hb11
                       first
                       | (exfalso; simp at hb11; done)
                       | (exfalso; simp at hb11; omega)
                       | (
                        refine SW.regionK fun K hK => ?_
                        simp -implicitDefEqProofs
                        repeat refine ⟨by omega, ?_⟩
                        refine hK _ ?_
                        clear hK K
                        refine SW.ret ?_
                        simp [Ex.then, Ex.inBlock]))
                    rotate_right
                    case' _ =>
                     intro hb10
                     first
                     | (exfalso; simp at hb10; done)
                     | (exfalso; simp at hb10; omega)
                     | (
                      refine SW.regionK fun K hK => ?_
                      simp -implicitDefEqProofs
                      repeat refine ⟨by omega, ?_⟩
                      refine hK _ ?_
                      clear hK K
                      refine SW.ret ?_
                      simp [Ex.then, Ex.inBlock]))
                  rotate_right
                  case' _ =>
                   intro hb9
                   first
                   | (exfalso; simp at hb9; done)
                   | (exfalso; simp at hb9; omega)
                   | (
                    refine SW.regionK fun K hK => ?_
                    simp -implicitDefEqProofs
                    repeat refine ⟨by omega, ?_⟩
                    refine hK _ ?_
                    clear hK K
                    refine SW.ret ?_
                    simp [Ex.then, Ex.inBlock]))
                rotate_right
                case' _ =>
                 intro hb8
                 first
                 | (exfalso; simp at hb8; done)
                 | (exfalso; simp at hb8; omega)
                 | (
                  refine SW.regionK fun K hK => ?_
                  simp -implicitDefEqProofs
                  repeat refine ⟨by omega, ?_⟩
                  refine hK _ ?_
                  clear hK K
                  refine SW.ret ?_
                  simp [Ex.then, Ex.inBlock]))
              rotate_right
              case' _ =>
               intro hb7
               first
               | (exfalso; simp at hb7; done)
               | (exfalso; simp at hb7; omega)
               | (
                refine SW.regionK fun K hK => ?_
                simp -implicitDefEqProofs
                repeat refine ⟨by omega, ?_⟩
                refine hK _ ?_
                clear hK K
                refine SW.ret ?_
                simp [Ex.then, Ex.inBlock]))
            rotate_right
            case' _ =>
             intro hb6
             first
             | (exfalso; simp at hb6; done)
             | (exfalso; simp at hb6; omega)
             | (
              refine SW.regionK fun K hK => ?_
              simp -implicitDefEqProofs
              repeat refine ⟨by omega, ?_⟩
              refine hK _ ?_
              clear hK K
              refine SW.ret ?_
              simp [Ex.then, Ex.inBlock]))
          rotate_right
          case' _ =>
           intro hb5
           first
           | (exfalso; simp at hb5; done)
           | (exfalso; simp at hb5; omega)
           | (
            refine SW.regionK fun K hK => ?_
            simp -implicitDefEqProofs
            repeat refine ⟨by omega, ?_⟩
            refine hK _ ?_
            clear hK K
            refine SW.ret ?_
            simp [Ex.then, Ex.inBlock]))
        rotate_right
        case' _ =>
         intro hb4
         first
         | (exfalso; simp at hb4; done)
         | (exfalso; simp at hb4; omega)
         | (
          refine SW.regionK fun K hK => ?_
          simp -implicitDefEqProofs
          repeat refine ⟨by omega, ?_⟩
          refine hK _ ?_
          clear hK K
          refine SW.ret ?_
          simp [Ex.then, Ex.inBlock]))
      rotate_right
      case' _ =>
       intro hb3
       first
       | (exfalso; simp at hb3; done)
       | (exfalso; simp at hb3; omega)
       | (
        refine SW.regionK fun K hK => ?_
        simp -implicitDefEqProofs
        repeat refine ⟨by omega, ?_⟩
        refine hK _ ?_
        clear hK K
        refine SW.ret ?_
        simp [Ex.then, Ex.inBlock]))
    rotate_right
    case' _ =>
     intro hb2
     first
     | (exfalso; simp at hb2; done)
     | (exfalso; simp at hb2; omega)
     | (
      refine SW.regionK fun K hK => ?_
      simp -implicitDefEqProofs
      repeat refine ⟨by omega, ?_⟩
      refine hK _ ?_
      clear hK K
      refine SW.ret ?_
      simp [Ex.then, Ex.inBlock]))
  rotate_right
  case' _ =>
   intro hb1
   first
   | (exfalso; simp at hb1; done)
   | (exfalso; simp at hb1; omega)
   | (
    refine SW.regionK fun K hK => ?_
    simp -implicitDefEqProofs
    repeat refine ⟨by omega, ?_⟩
    refine hK _ ?_
    clear hK K
    refine SW.ret ?_
    simp [Ex.then, Ex.inBlock])
set_option maxHeartbeats 1000000 in
theorem law_burnN (a : Prog) (b : Gor) (most : Int) (fa : a.fit) (fb : b.fit) (hk : gorOk a b = false) : Fn Tryz.prog 4 [.agg a.fr, .agg b.fr, .int .i64 most] (.bool true) := by
  refine Fn.intro Tryz.func4 (by decide) rfl (rs := [.tmp 6]) rfl Tryz.ntmps4 (by simp) ?_
  have q1 := szR_cases a.sz 1048576
  have q2 := szR_cases b.sz (szR a.sz 1048576)
  have qt := Prog.tw_le a
  have qg := Gor.tw_le b
  refine SW.regionK fun K hK => ?_
  simp -implicitDefEqProofs
  repeat refine ⟨by omega, ?_⟩
  refine hK _ ?_
  clear hK K
  refine SW.regionK fun K hK => ?_
  simp -implicitDefEqProofs
  repeat refine ⟨by omega, ?_⟩
  refine hK _ ?_
  clear hK K
  refine SW.regionK fun K hK => ?_
  simp -implicitDefEqProofs
  first | refine ⟨by omega, by omega, ?_⟩ | refine ⟨by omega, ?_⟩ | skip
  refine CallK.fzE (szProg_ok a 1048576 fa (by omega) (by omega)) (by simp) ?_
  simp -implicitDefEqProofs
  repeat refine ⟨by omega, ?_⟩
  refine hK _ ?_
  clear hK K
  refine SW.seqK fun K1 hK1 => ?_
  refine SW.regionK fun K hK => ?_
  simp -implicitDefEqProofs
  repeat refine ⟨by omega, ?_⟩
  refine hK _ ?_
  clear hK K
  refine SW.cond _ rfl (by simp) ?_ ?_
  case' refine_2 =>
   intro hb1
   first
   | (exfalso; simp at hb1; done)
   | (exfalso; simp at hb1; omega)
   | (
    have n1 : 0 ≤ szR a.sz 1048576 := by simp at hb1; omega
    have ha : a.ok := Prog.sz_ok (by omega)
    have hW : a.tw ≤ 2 ^ 30 := by omega
    have hl0 : a.caps.length ≤ 2 ^ 30 := by have := ha.1; omega
    have hl1 : a.sels.length ≤ 2 ^ 30 := by have := ha.2.1; omega
    have hl2 : a.procs.length ≤ 2 ^ 30 := by have := ha.2.2.2.1; omega
    refine SW.skip ?_
    refine hK1 _ ?_
    refine SW.regionK fun K hK => ?_
    simp -implicitDefEqProofs
    first | refine ⟨by omega, by omega, ?_⟩ | refine ⟨by omega, ?_⟩ | skip
    refine CallK.fzE (szGor_ok b (szR a.sz 1048576) fb (by omega) (by omega)) (by simp) ?_
    simp -implicitDefEqProofs
    repeat refine ⟨by omega, ?_⟩
    refine hK _ ?_
    clear hK K
    refine SW.seqK fun K2 hK2 => ?_
    refine SW.regionK fun K hK => ?_
    simp -implicitDefEqProofs
    repeat refine ⟨by omega, ?_⟩
    refine hK _ ?_
    clear hK K
    refine SW.cond _ rfl (by simp) ?_ ?_
    case' refine_2 =>
     intro hb2
     first
     | (exfalso; simp at hb2; done)
     | (exfalso; simp at hb2; omega)
     | (
      have n2 : 0 ≤ szR b.sz (szR a.sz 1048576) := by simp at hb2; omega
      have hb : b.ok := Gor.sz_ok (by omega)
      have hzz : b.sz = b.regs.length + b.trace.length := rfl
      have hbz : b.regs.length + b.trace.length ≤ 1048576 := by omega
      have hWg : b.tw ≤ 2 ^ 30 := by omega
      have hg0 : b.regs.length ≤ 2 ^ 30 := by have := hb.1; omega
      have hg1 : b.trace.length ≤ 2 ^ 30 := by have := hb.2; omega
      refine SW.skip ?_
      refine hK2 _ ?_
      refine SW.drawWK mixed [(0, false), (1, false), (2, false), (3, false), (4, false), (5, false), (6, false), (7, false), (8, false), (9, true)] 10 8 [.q [(11, false)]] (by kernel_rfl) rfl fun K hK => ?_
      simp -implicitDefEqProofs
      first | refine ⟨by omega, by omega, ?_⟩ | refine ⟨by omega, ?_⟩ | skip
      first
        | refine CallQ.fzE (toProg_ok a ha) (by simp) ?_
        | refine CallK.fzE (toProg_ok a ha) (by simp) ?_
      simp -implicitDefEqProofs
      first | refine ⟨by omega, by omega, ?_⟩ | refine ⟨by omega, ?_⟩ | skip
      first
        | refine CallQ.fzE (toGor_ok b hb) (by simp) ?_
        | refine CallK.fzE (toGor_ok b hb) (by simp) ?_
      simp -implicitDefEqProofs
      first | refine ⟨by omega, by omega, ?_⟩ | refine ⟨by omega, ?_⟩ | skip
      first
        | refine CallQ.fzE (burnN_s a b most ha hb hk) (by simp) ?_
        | refine CallK.fzE (burnN_s a b most ha hb hk) (by simp) ?_
      simp -implicitDefEqProofs
      repeat refine ⟨by omega, ?_⟩
      refine hK _ ?_
      clear hK K
      refine SW.regionK fun K hK => ?_
      simp -implicitDefEqProofs
      first | refine ⟨by omega, by omega, ?_⟩ | refine ⟨by omega, ?_⟩ | skip
      refine CallK.imE (toProg_ok a ha) (by simp) (Prog_oI a) ?_
      simp -implicitDefEqProofs
      repeat refine ⟨by omega, ?_⟩
      refine hK _ ?_
      clear hK K
      refine SW.regionK fun K hK => ?_
      simp -implicitDefEqProofs
      first | refine ⟨by omega, by omega, ?_⟩ | refine ⟨by omega, ?_⟩ | skip
      refine CallK.imE (toGor_ok b hb) (by simp) (Gor_oI b) ?_
      simp -implicitDefEqProofs
      repeat refine ⟨by omega, ?_⟩
      refine hK _ ?_
      clear hK K
      refine SW.regionK fun K hK => ?_
      simp -implicitDefEqProofs
      first | refine ⟨by omega, by omega, ?_⟩ | refine ⟨by omega, ?_⟩ | skip
      first
        | refine CallQ.fzE (burnN_i a b most ha hb hk) (by simp) ?_
        | refine CallK.fzE (burnN_i a b most ha hb hk) (by simp) ?_
      simp -implicitDefEqProofs
      repeat refine ⟨by omega, ?_⟩
      refine hK _ ?_
      clear hK K
      refine SW.seqK fun K3 hK3 => ?_
      refine SW.regionK fun K hK => ?_
      simp -implicitDefEqProofs
      first | refine ⟨by omega, by omega, ?_⟩ | refine ⟨by omega, ?_⟩ | skip
      refine CallK.fzE (eqGor_nil) (by simp) ?_
      simp -implicitDefEqProofs
      repeat refine ⟨by omega, ?_⟩
      refine hK _ ?_
      clear hK K
      refine SW.cond _ rfl (by simp) ?_ ?_
      case' refine_2 =>
       intro hb3
       first
       | (exfalso; simp at hb3; done)
       | (exfalso; simp at hb3; omega)
       | (
        refine SW.skip ?_
        refine hK3 _ ?_
        refine SW.seqK fun K4 hK4 => ?_
        refine SW.drawK mixed [.q [(0, false), (1, false), (2, false), (3, false), (4, false)]] (by kernel_rfl) rfl fun K hK => ?_
        simp -implicitDefEqProofs
        first | refine ⟨by omega, by omega, ?_⟩ | refine ⟨by omega, ?_⟩ | skip
        first
          | refine CallQ.fzE (toProg_ok a ha) (by simp) ?_
          | refine CallK.fzE (toProg_ok a ha) (by simp) ?_
        simp -implicitDefEqProofs
        first | refine ⟨by omega, by omega, ?_⟩ | refine ⟨by omega, ?_⟩ | skip
        refine CallQ.fzE (eqProg_ok a ha) (by simp) ?_
        simp -implicitDefEqProofs
        repeat refine ⟨by omega, ?_⟩
        refine hK _ ?_
        clear hK K
        refine SW.cond _ rfl (by simp) ?_ ?_
        case' refine_2 =>
         intro hb4
         first
         | (exfalso; simp at hb4; done)
         | (exfalso; simp at hb4; omega)
         | (
          refine SW.skip ?_
          refine hK4 _ ?_
          refine SW.seqK fun K5 hK5 => ?_
          refine SW.drawK mixed [.q [(0, false), (1, false), (2, false), (3, false), (4, false)]] (by kernel_rfl) rfl fun K hK => ?_
          simp -implicitDefEqProofs
          first | refine ⟨by omega, by omega, ?_⟩ | refine ⟨by omega, ?_⟩ | skip
          first
            | refine CallQ.fzE (toGor_ok b hb) (by simp) ?_
            | refine CallK.fzE (toGor_ok b hb) (by simp) ?_
          simp -implicitDefEqProofs
          first | refine ⟨by omega, by omega, ?_⟩ | refine ⟨by omega, ?_⟩ | skip
          refine CallQ.fzE (eqGor_ok b hb) (by simp) ?_
          simp -implicitDefEqProofs
          repeat refine ⟨by omega, ?_⟩
          refine hK _ ?_
          clear hK K
          refine SW.cond _ rfl (by simp) ?_ ?_
          case' refine_2 =>
           intro hb5
           first
           | (exfalso; simp at hb5; done)
           | (exfalso; simp at hb5; omega)
           | (
            refine SW.skip ?_
            refine hK5 _ ?_
            refine SW.regionK fun K hK => ?_
            simp -implicitDefEqProofs
            repeat refine ⟨by omega, ?_⟩
            refine hK _ ?_
            clear hK K
            refine SW.regionK fun K hK => ?_
            simp -implicitDefEqProofs
            first | refine ⟨by omega, by omega, ?_⟩ | refine ⟨by omega, ?_⟩ | skip
            refine CallS.mono (mark_Prog a 1 _ 3 4 5 _ rfl (by simp) _ rfl (by simp) _ rfl (by simp) (by simp) hW hl0 hl1 hl2 (by omega) (by omega)) ?_
            rintro o h' ⟨rfl, m1, m2, rfl⟩
            simp -implicitDefEqProofs
            repeat refine ⟨by omega, ?_⟩
            refine hK _ ?_
            clear hK K
            refine SW.regionK fun K hK => ?_
            simp -implicitDefEqProofs
            first | refine ⟨by omega, by omega, ?_⟩ | refine ⟨by omega, ?_⟩ | skip
            refine CallS.mono (mark_Gor b (1 + (a.tw : Int)) _ 7 8 _ rfl (by simp) _ rfl (by simp) (by simp) hWg hg0 hg1 (by omega) (by omega)) ?_
            rintro o h' ⟨rfl, rfl⟩
            simp -implicitDefEqProofs
            repeat refine ⟨by omega, ?_⟩
            refine hK _ ?_
            clear hK K
            refine SW.seqK fun K6 hK6 => ?_
            refine SW.regionK fun K hK => ?_
            simp -implicitDefEqProofs
            first | refine ⟨by omega, by omega, ?_⟩ | refine ⟨by omega, ?_⟩ | skip
            refine CallG.fzE (by simp) (fun _ => eqGor_nil) (by simp) ?_
            simp -implicitDefEqProofs
            repeat refine ⟨by omega, ?_⟩
            refine hK _ ?_
            clear hK K
            refine SW.cond _ rfl (by simp) ?_ ?_
            case' refine_2 =>
             intro hb6
             first
             | (exfalso; simp at hb6; done)
             | (exfalso; simp at hb6; omega)
             | (
              refine SW.skip ?_
              refine hK6 _ ?_
              refine SW.regionK fun K hK => ?_
              simp -implicitDefEqProofs
              repeat refine ⟨by omega, ?_⟩
              refine hK _ ?_
              clear hK K
              refine SW.regionK fun K hK => ?_
              simp -implicitDefEqProofs
              first | refine ⟨by omega, by omega, ?_⟩ | refine ⟨by omega, ?_⟩ | skip
              refine CallS.mono (mark_Gor_nil _ 1) ?_
              rintro o h' ⟨rfl, rfl⟩
              simp -implicitDefEqProofs
              repeat refine ⟨by omega, ?_⟩
              refine hK _ ?_
              clear hK K
              refine SW.regionK fun K hK => ?_
              simp -implicitDefEqProofs
              repeat refine ⟨by omega, ?_⟩
              refine hK _ ?_
              clear hK K
              refine SW.regionK fun K hK => ?_
              simp -implicitDefEqProofs
              first | refine ⟨by omega, by omega, ?_⟩ | refine ⟨by omega, ?_⟩ | skip
              refine CallK.fzE (held_Gor_nil) (by simp) ?_
              simp -implicitDefEqProofs
              repeat refine ⟨by omega, ?_⟩
              refine hK _ ?_
              clear hK K
              refine SW.seqK fun K7 hK7 => ?_
              refine SW.regionK fun K hK => ?_
              simp -implicitDefEqProofs
              repeat refine ⟨by omega, ?_⟩
              refine hK _ ?_
              clear hK K
              refine SW.cond _ rfl (by simp) ?_ ?_
              case' refine_2 =>
               intro hb7
               first
               | (exfalso; simp at hb7; done)
               | (exfalso; simp at hb7; omega)
               | (
                refine SW.skip ?_
                refine hK7 _ ?_
                refine SW.seqK fun K8 hK8 => ?_
                refine SW.regionK fun K hK => ?_
                simp -implicitDefEqProofs
                repeat refine ⟨by omega, ?_⟩
                refine hK _ ?_
                clear hK K
                refine SW.cond _ rfl (by simp) ?_ ?_
                case' refine_2 =>
                 intro hb8
                 first
                 | (exfalso; simp at hb8; done)
                 | (exfalso; simp at hb8; omega)
                 | (
                  refine SW.skip ?_
                  refine hK8 _ ?_
                  refine SW.drawWK mixed [(0, false), (1, false), (2, false), (3, false), (4, false), (5, false), (6, false), (7, false), (8, false), (9, true)] 10 8 [.q [(11, false)]] (by kernel_rfl) rfl fun K hK => ?_
                  simp -implicitDefEqProofs
                  first | refine ⟨by omega, by omega, ?_⟩ | refine ⟨by omega, ?_⟩ | skip
                  first
                    | refine CallQ.fzE (toProg_ok a ha) (by simp) ?_
                    | refine CallK.fzE (toProg_ok a ha) (by simp) ?_
                  simp -implicitDefEqProofs
                  first | refine ⟨by omega, by omega, ?_⟩ | refine ⟨by omega, ?_⟩ | skip
                  first
                    | refine CallQ.fzE (toGor_ok b hb) (by simp) ?_
                    | refine CallK.fzE (toGor_ok b hb) (by simp) ?_
                  simp -implicitDefEqProofs
                  first | refine ⟨by omega, by omega, ?_⟩ | refine ⟨by omega, ?_⟩ | skip
                  first
                    | refine CallQ.fzE (burnN_i a b most ha hb hk) (by simp) ?_
                    | refine CallK.fzE (burnN_i a b most ha hb hk) (by simp) ?_
                  simp -implicitDefEqProofs
                  repeat refine ⟨by omega, ?_⟩
                  refine hK _ ?_
                  clear hK K
                  refine SW.seqK fun K9 hK9 => ?_
                  refine SW.regionK fun K hK => ?_
                  simp -implicitDefEqProofs
                  first | refine ⟨by omega, by omega, ?_⟩ | refine ⟨by omega, ?_⟩ | skip
                  refine CallK.fzE (eqGor_nil) (by simp) ?_
                  simp -implicitDefEqProofs
                  repeat refine ⟨by omega, ?_⟩
                  refine hK _ ?_
                  clear hK K
                  refine SW.cond _ rfl (by simp) ?_ ?_
                  case' refine_2 =>
                   intro hb9
                   first
                   | (exfalso; simp at hb9; done)
                   | (exfalso; simp at hb9; omega)
                   | (
                    refine SW.skip ?_
                    refine hK9 _ ?_
                    refine SW.regionK fun K hK => ?_
                    simp -implicitDefEqProofs
                    repeat refine ⟨by omega, ?_⟩
                    refine hK _ ?_
                    clear hK K
                    refine SW.regionK fun K hK => ?_
                    simp -implicitDefEqProofs
                    first | refine ⟨by omega, by omega, ?_⟩ | refine ⟨by omega, ?_⟩ | skip
                    refine CallK.fzE (held_Gor_nil) (by simp) ?_
                    simp -implicitDefEqProofs
                    repeat refine ⟨by omega, ?_⟩
                    refine hK _ ?_
                    clear hK K
                    refine SW.seqK fun K10 hK10 => ?_
                    refine SW.regionK fun K hK => ?_
                    simp -implicitDefEqProofs
                    repeat refine ⟨by omega, ?_⟩
                    refine hK _ ?_
                    clear hK K
                    refine SW.cond _ rfl (by simp) ?_ ?_
                    case' refine_2 =>
                     intro hb10
                     first
                     | (exfalso; simp at hb10; done)
                     | (exfalso; simp at hb10; omega)
                     | (
                      refine SW.skip ?_
                      refine hK10 _ ?_
                      refine SW.seqK fun K11 hK11 => ?_
                      refine SW.regionK fun K hK => ?_
                      simp -implicitDefEqProofs
                      repeat refine ⟨by omega, ?_⟩
                      refine hK _ ?_
                      clear hK K
                      refine SW.cond _ rfl (by simp) ?_ ?_
                      case' refine_2 =>
                       intro hb11
                       first
                       | (exfalso; simp at hb11; done)
                       | (exfalso; simp at hb11; omega)
                       | (
                        refine SW.skip ?_
                        refine hK11 _ ?_
                        refine SW.regionK fun K hK => ?_
                        simp -implicitDefEqProofs
                        repeat refine ⟨by omega, ?_⟩
                        refine hK _ ?_
                        clear hK K
                        refine SW.ret ?_
                        simp [Ex.then, Ex.inBlock])
                      rotate_right
                      case' _ =>
                       intro hb11
                       first
                       | (exfalso; simp at hb11; done)
                       | (exfalso; simp at hb11; omega)
                       | (
                        refine SW.regionK fun K hK => ?_
                        simp -implicitDefEqProofs
                        repeat refine ⟨by omega, ?_⟩
                        refine hK _ ?_
                        clear hK K
                        refine SW.ret ?_
                        simp [Ex.then, Ex.inBlock]))
                    rotate_right
                    case' _ =>
                     intro hb10
                     first
                     | (exfalso; simp at hb10; done)
                     | (exfalso; simp at hb10; omega)
                     | (
                      refine SW.regionK fun K hK => ?_
                      simp -implicitDefEqProofs
                      repeat refine ⟨by omega, ?_⟩
                      refine hK _ ?_
                      clear hK K
                      refine SW.ret ?_
                      simp [Ex.then, Ex.inBlock]))
                  rotate_right
                  case' _ =>
                   intro hb9
                   first
                   | (exfalso; simp at hb9; done)
                   | (exfalso; simp at hb9; omega)
                   | (
                    refine SW.regionK fun K hK => ?_
                    simp -implicitDefEqProofs
                    repeat refine ⟨by omega, ?_⟩
                    refine hK _ ?_
                    clear hK K
                    refine SW.ret ?_
                    simp [Ex.then, Ex.inBlock]))
                rotate_right
                case' _ =>
                 intro hb8
                 first
                 | (exfalso; simp at hb8; done)
                 | (exfalso; simp at hb8; omega)
                 | (
                  refine SW.regionK fun K hK => ?_
                  simp -implicitDefEqProofs
                  repeat refine ⟨by omega, ?_⟩
                  refine hK _ ?_
                  clear hK K
                  refine SW.ret ?_
                  simp [Ex.then, Ex.inBlock]))
              rotate_right
              case' _ =>
               intro hb7
               first
               | (exfalso; simp at hb7; done)
               | (exfalso; simp at hb7; omega)
               | (
                refine SW.regionK fun K hK => ?_
                simp -implicitDefEqProofs
                repeat refine ⟨by omega, ?_⟩
                refine hK _ ?_
                clear hK K
                refine SW.ret ?_
                simp [Ex.then, Ex.inBlock]))
            rotate_right
            case' _ =>
             intro hb6
             first
             | (exfalso; simp at hb6; done)
             | (exfalso; simp at hb6; omega)
             | (
              refine SW.regionK fun K hK => ?_
              simp -implicitDefEqProofs
              repeat refine ⟨by omega, ?_⟩
              refine hK _ ?_
              clear hK K
              refine SW.ret ?_
              simp [Ex.then, Ex.inBlock]))
          rotate_right
          case' _ =>
           intro hb5
           first
           | (exfalso; simp at hb5; done)
           | (exfalso; simp at hb5; omega)
           | (
            refine SW.regionK fun K hK => ?_
            simp -implicitDefEqProofs
            repeat refine ⟨by omega, ?_⟩
            refine hK _ ?_
            clear hK K
            refine SW.ret ?_
            simp [Ex.then, Ex.inBlock]))
        rotate_right
        case' _ =>
         intro hb4
         first
         | (exfalso; simp at hb4; done)
         | (exfalso; simp at hb4; omega)
         | (
          refine SW.regionK fun K hK => ?_
          simp -implicitDefEqProofs
          repeat refine ⟨by omega, ?_⟩
          refine hK _ ?_
          clear hK K
          refine SW.ret ?_
          simp [Ex.then, Ex.inBlock]))
      rotate_right
      case' _ =>
       intro hb3
       first
       | (exfalso; simp at hb3; done)
       | (exfalso; simp at hb3; omega)
       | (
        refine SW.regionK fun K hK => ?_
        simp -implicitDefEqProofs
        repeat refine ⟨by omega, ?_⟩
        refine hK _ ?_
        clear hK K
        refine SW.ret ?_
        simp [Ex.then, Ex.inBlock]))
    rotate_right
    case' _ =>
     intro hb2
     first
     | (exfalso; simp at hb2; done)
     | (exfalso; simp at hb2; omega)
     | (
      refine SW.regionK fun K hK => ?_
      simp -implicitDefEqProofs
      repeat refine ⟨by omega, ?_⟩
      refine hK _ ?_
      clear hK K
      refine SW.ret ?_
      simp [Ex.then, Ex.inBlock]))
  rotate_right
  case' _ =>
   intro hb1
   first
   | (exfalso; simp at hb1; done)
   | (exfalso; simp at hb1; omega)
   | (
    refine SW.regionK fun K hK => ?_
    simp -implicitDefEqProofs
    repeat refine ⟨by omega, ?_⟩
    refine hK _ ?_
    clear hK K
    refine SW.ret ?_
    simp [Ex.then, Ex.inBlock])
theorem law_burn (a : Prog) (b : Gor) (most : Int) (fa : a.fit) (fb : b.fit) : Fn Tryz.prog 4 [.agg a.fr, .agg b.fr, .int .i64 most] (.bool true) := by
  cases hk : gorOk a b with
  | true => exact law_burnY a b most fa fb hk
  | false => exact law_burnN a b most fa fb hk
end HT
