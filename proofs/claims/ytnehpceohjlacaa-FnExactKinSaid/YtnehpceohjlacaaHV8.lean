import Derived.Test.YtnehpceohjlacaaHV7
import Derived.Test.YtnehpceohjlacaaHT7G
/-
  My own texts (road H): HV8.
-/
set_option linter.unusedSimpArgs false
set_option linter.unusedVariables false
namespace HT
open Go Go.Proofs HK
theorem kin_lenS {p : Prog} {ch : Int} (hp : progOk p = true) : (kin p ch).length ≤ 1048576 := by
  have h := kin_len (ch := ch) hp
  simp only [progOk, headOk, Bool.and_eq_true, decide_eq_true_eq] at hp
  omega
theorem kin_out {p : Prog} {ch : Int} (hin : inCh p ch = false) : kin p ch = [] := by
  unfold kin
  rw [hin]; rfl
theorem kinE_s (p : Prog) (ch : Int) (h : p.ok) (hp : progOk p = true) (hi : inCh p ch = false) : Fn Try.prog 24 [.agg p.fr, .int .i64 ch] (.own 1 (IntS [])) := by
  have h1 := kinY_s p ch h hp
  rwa [kin_out hi] at h1
set_option maxHeartbeats 1000000 in
theorem law_kinY (a : Prog) (n : Int) (fa : a.fit) (hc : progOk a = true) (hi : inCh a n = true) : Fn Try.prog 5 [.agg a.fr, .int .i64 n] (.bool true) := by
  refine Fn.intro Try.func5 (by decide) rfl (rs := [.tmp 4]) rfl Try.ntmps5 (by simp) ?_
  have q1 := szR_cases a.sz 1048576
  have qt := Prog.tw_le a
  have hkl := kin_lenS (ch := n) hc
  refine SW.regionK fun K hK => ?_
  simp -implicitDefEqProofs
  repeat refine ⟨by omega, ?_⟩
  refine hK _ ?_
  clear hK K
  refine SW.regionK fun K hK => ?_
  simp -implicitDefEqProofs
  repeat refine ⟨by omega, ?_⟩
  refine hK _ ?_
  clear hK K
  refine SW.regionK fun K hK => ?_
  simp -implicitDefEqProofs
  first | refine ⟨by omega, by omega, ?_⟩ | refine ⟨by omega, ?_⟩ | skip
  refine CallK.fzE (szProg_ok a 1048576 fa (by omega) (by omega)) (by simp) ?_
  simp -implicitDefEqProofs
  repeat refine ⟨by omega, ?_⟩
  refine hK _ ?_
  clear hK K
  refine SW.seqK fun K1 hK1 => ?_
  refine SW.regionK fun K hK => ?_
  simp -implicitDefEqProofs
  repeat refine ⟨by omega, ?_⟩
  refine hK _ ?_
  clear hK K
  refine SW.cond _ rfl (by simp) ?_ ?_
  case' refine_2 =>
   intro hb1
   first
   | (exfalso; simp at hb1; done)
   | (exfalso; simp at hb1; omega)
   | (
    have n1 : 0 ≤ szR a.sz 1048576 := by simp at hb1; omega
    have ha : a.ok := Prog.sz_ok (by omega)
    have hW : a.tw ≤ 2 ^ 30 := by omega
    have hl0 : a.caps.length ≤ 2 ^ 30 := by have := ha.1; omega
    have hl1 : a.sels.length ≤ 2 ^ 30 := by have := ha.2.1; omega
    have hl2 : a.procs.length ≤ 2 ^ 30 := by have := ha.2.2.2.1; omega
    refine SW.skip ?_
    refine hK1 _ ?_
    refine SW.regionK fun K hK => ?_
    simp -implicitDefEqProofs
    first | refine ⟨by omega, by omega, ?_⟩ | refine ⟨by omega, ?_⟩ | skip
    first
      | refine CallQ.fzE (toProg_ok a ha) (by simp) ?_
      | refine CallK.fzE (toProg_ok a ha) (by simp) ?_
    simp -implicitDefEqProofs
    first | refine ⟨by omega, by omega, ?_⟩ | refine ⟨by omega, ?_⟩ | skip
    first
      | refine CallQ.fzE (kinY_s a n ha hc) (by simp) ?_
      | refine CallK.fzE (kinY_s a n ha hc) (by simp) ?_
    simp -implicitDefEqProofs
    repeat refine ⟨by omega, ?_⟩
    refine hK _ ?_
    clear hK K
    refine SW.regionK fun K hK => ?_
    simp -implicitDefEqProofs
    first | refine ⟨by omega, by omega, ?_⟩ | refine ⟨by omega, ?_⟩ | skip
    refine CallK.imE (toProg_ok a ha) (by simp) (Prog_oI a) ?_
    simp -implicitDefEqProofs
    repeat refine ⟨by omega, ?_⟩
    refine hK _ ?_
    clear hK K
    refine SW.regionK fun K hK => ?_
    simp -implicitDefEqProofs
    first | refine ⟨by omega, by omega, ?_⟩ | refine ⟨by omega, ?_⟩ | skip
    refine CallK.imE (kin_iY a n ha hc hi) (by simp) (IntS_okI _) ?_
    simp -implicitDefEqProofs
    repeat refine ⟨by omega, ?_⟩
    refine hK _ ?_
    clear hK K
    refine SW.seqK fun K2 hK2 => ?_
    refine SW.regionK fun K hK => ?_
    simp -implicitDefEqProofs
    first | refine ⟨by omega, by omega, ?_⟩ | refine ⟨by omega, ?_⟩ | skip
    refine CallK.fzE (eqIntS_ok (kin a n) (by omega)) (by simp) ?_
    simp -implicitDefEqProofs
    repeat refine ⟨by omega, ?_⟩
    refine hK _ ?_
    clear hK K
    refine SW.cond _ rfl (by simp) ?_ ?_
    case' refine_2 =>
     intro hb2
     first
     | (exfalso; simp at hb2; done)
     | (exfalso; simp at hb2; omega)
     | (
      refine SW.skip ?_
      refine hK2 _ ?_
      refine SW.seqK fun K3 hK3 => ?_
      refine SW.drawK mixed [.q [(0, false), (1, false), (2, false), (3, false), (4, false)]] (by kernel_rfl) rfl fun K hK => ?_
      simp -implicitDefEqProofs
      first | refine ⟨by omega, by omega, ?_⟩ | refine ⟨by omega, ?_⟩ | skip
      first
        | refine CallQ.fzE (toProg_ok a ha) (by simp) ?_
        | refine CallK.fzE (toProg_ok a ha) (by simp) ?_
      simp -implicitDefEqProofs
      first | refine ⟨by omega, by omega, ?_⟩ | refine ⟨by omega, ?_⟩ | skip
      refine CallQ.fzE (eqProg_ok a ha) (by simp) ?_
      simp -implicitDefEqProofs
      repeat refine ⟨by omega, ?_⟩
      refine hK _ ?_
      clear hK K
      refine SW.cond _ rfl (by simp) ?_ ?_
      case' refine_2 =>
       intro hb3
       first
       | (exfalso; simp at hb3; done)
       | (exfalso; simp at hb3; omega)
       | (
        refine SW.skip ?_
        refine hK3 _ ?_
        refine SW.regionK fun K hK => ?_
        simp -implicitDefEqProofs
        repeat refine ⟨by omega, ?_⟩
        refine hK _ ?_
        clear hK K
        refine SW.regionK fun K hK => ?_
        simp -implicitDefEqProofs
        first | refine ⟨by omega, by omega, ?_⟩ | refine ⟨by omega, ?_⟩ | skip
        refine CallS.mono (mark_Prog a 1 _ 1 2 3 _ rfl (by simp) _ rfl (by simp) _ rfl (by simp) (by simp) hW hl0 hl1 hl2 (by omega) (by omega)) ?_
        rintro o h' ⟨rfl, m1, m2, rfl⟩
        simp -implicitDefEqProofs
        repeat refine ⟨by omega, ?_⟩
        refine hK _ ?_
        clear hK K
        refine SW.seqK fun K4 hK4 => ?_
        refine SW.regionK fun K hK => ?_
        simp -implicitDefEqProofs
        first | refine ⟨by omega, by omega, ?_⟩ | refine ⟨by omega, ?_⟩ | skip
        refine CallG.fzE (by simp) (fun _ => eqIntS_ok (kin a n) (by omega)) (by simp) ?_
        simp -implicitDefEqProofs
        repeat refine ⟨by omega, ?_⟩
        refine hK _ ?_
        clear hK K
        refine SW.cond _ rfl (by simp) ?_ ?_
        case' refine_2 =>
         intro hb4
         first
         | (exfalso; simp at hb4; done)
         | (exfalso; simp at hb4; omega)
         | (
          refine SW.skip ?_
          refine hK4 _ ?_
          refine SW.regionK fun K hK => ?_
          simp -implicitDefEqProofs
          repeat refine ⟨by omega, ?_⟩
          refine hK _ ?_
          clear hK K
          refine SW.regionK fun K hK => ?_
          simp -implicitDefEqProofs
          first | refine ⟨by omega, by omega, ?_⟩ | refine ⟨by omega, ?_⟩ | skip
          refine CallS.mono (mark_IntS (kin a n) 1 _ 5 _ rfl (by simp) (by omega) (by omega) (by omega)) ?_
          rintro o h' ⟨rfl, rfl⟩
          simp -implicitDefEqProofs
          repeat refine ⟨by omega, ?_⟩
          refine hK _ ?_
          clear hK K
          refine SW.regionK fun K hK => ?_
          simp -implicitDefEqProofs
          repeat refine ⟨by omega, ?_⟩
          refine hK _ ?_
          clear hK K
          refine SW.regionK fun K hK => ?_
          simp -implicitDefEqProofs
          first | refine ⟨by omega, by omega, ?_⟩ | refine ⟨by omega, ?_⟩ | skip
          refine CallK.fzE (held_IntS (kin a n).length 1 (by omega) (by omega) (by omega)) (by simp) ?_
          simp -implicitDefEqProofs
          repeat refine ⟨by omega, ?_⟩
          refine hK _ ?_
          clear hK K
          refine SW.seqK fun K5 hK5 => ?_
          refine SW.regionK fun K hK => ?_
          simp -implicitDefEqProofs
          repeat refine ⟨by omega, ?_⟩
          refine hK _ ?_
          clear hK K
          refine SW.cond _ rfl (by simp) ?_ ?_
          case' refine_2 =>
           intro hb5
           first
           | (exfalso; simp at hb5; done)
           | (exfalso; simp at hb5; omega)
           | (
            refine SW.skip ?_
            refine hK5 _ ?_
            refine SW.seqK fun K6 hK6 => ?_
            refine SW.regionK fun K hK => ?_
            simp -implicitDefEqProofs
            repeat refine ⟨by omega, ?_⟩
            refine hK _ ?_
            clear hK K
            refine SW.cond _ rfl (by simp) ?_ ?_
            case' refine_2 =>
             intro hb6
             first
             | (exfalso; simp at hb6; done)
             | (exfalso; simp at hb6; omega)
             | (
              refine SW.skip ?_
              refine hK6 _ ?_
              refine SW.regionK fun K hK => ?_
              simp -implicitDefEqProofs
              first | refine ⟨by omega, by omega, ?_⟩ | refine ⟨by omega, ?_⟩ | skip
              first
                | refine CallQ.fzE (toProg_ok a ha) (by simp) ?_
                | refine CallK.fzE (toProg_ok a ha) (by simp) ?_
              simp -implicitDefEqProofs
              first | refine ⟨by omega, by omega, ?_⟩ | refine ⟨by omega, ?_⟩ | skip
              first
                | refine CallQ.fzE (kin_iY a n ha hc hi) (by simp) ?_
                | refine CallK.fzE (kin_iY a n ha hc hi) (by simp) ?_
              simp -implicitDefEqProofs
              repeat refine ⟨by omega, ?_⟩
              refine hK _ ?_
              clear hK K
              refine SW.seqK fun K7 hK7 => ?_
              refine SW.regionK fun K hK => ?_
              simp -implicitDefEqProofs
              first | refine ⟨by omega, by omega, ?_⟩ | refine ⟨by omega, ?_⟩ | skip
              refine CallK.fzE (eqIntS_ok (kin a n) (by omega)) (by simp) ?_
              simp -implicitDefEqProofs
              repeat refine ⟨by omega, ?_⟩
              refine hK _ ?_
              clear hK K
              refine SW.cond _ rfl (by simp) ?_ ?_
              case' refine_2 =>
               intro hb7
               first
               | (exfalso; simp at hb7; done)
               | (exfalso; simp at hb7; omega)
               | (
                refine SW.skip ?_
                refine hK7 _ ?_
                refine SW.regionK fun K hK => ?_
                simp -implicitDefEqProofs
                repeat refine ⟨by omega, ?_⟩
                refine hK _ ?_
                clear hK K
                refine SW.regionK fun K hK => ?_
                simp -implicitDefEqProofs
                first | refine ⟨by omega, by omega, ?_⟩ | refine ⟨by omega, ?_⟩ | skip
                refine CallK.fzE (held_IntS (kin a n).length 1 (by omega) (by omega) (by omega)) (by simp) ?_
                simp -implicitDefEqProofs
                repeat refine ⟨by omega, ?_⟩
                refine hK _ ?_
                clear hK K
                refine SW.seqK fun K8 hK8 => ?_
                refine SW.regionK fun K hK => ?_
                simp -implicitDefEqProofs
                repeat refine ⟨by omega, ?_⟩
                refine hK _ ?_
                clear hK K
                refine SW.cond _ rfl (by simp) ?_ ?_
                case' refine_2 =>
                 intro hb8
                 first
                 | (exfalso; simp at hb8; done)
                 | (exfalso; simp at hb8; omega)
                 | (
                  refine SW.skip ?_
                  refine hK8 _ ?_
                  refine SW.seqK fun K9 hK9 => ?_
                  refine SW.regionK fun K hK => ?_
                  simp -implicitDefEqProofs
                  repeat refine ⟨by omega, ?_⟩
                  refine hK _ ?_
                  clear hK K
                  refine SW.cond _ rfl (by simp) ?_ ?_
                  case' refine_2 =>
                   intro hb9
                   first
                   | (exfalso; simp at hb9; done)
                   | (exfalso; simp at hb9; omega)
                   | (
                    refine SW.skip ?_
                    refine hK9 _ ?_
                    refine SW.regionK fun K hK => ?_
                    simp -implicitDefEqProofs
                    repeat refine ⟨by omega, ?_⟩
                    refine hK _ ?_
                    clear hK K
                    refine SW.ret ?_
                    simp [Ex.then, Ex.inBlock])
                  rotate_right
                  case' _ =>
                   intro hb9
                   first
                   | (exfalso; simp at hb9; done)
                   | (exfalso; simp at hb9; omega)
                   | (
                    refine SW.regionK fun K hK => ?_
                    simp -implicitDefEqProofs
                    repeat refine ⟨by omega, ?_⟩
                    refine hK _ ?_
                    clear hK K
                    refine SW.ret ?_
                    simp [Ex.then, Ex.inBlock]))
                rotate_right
                case' _ =>
                 intro hb8
                 first
                 | (exfalso; simp at hb8; done)
                 | (exfalso; simp at hb8; omega)
                 | (
                  refine SW.regionK fun K hK => ?_
                  simp -implicitDefEqProofs
                  repeat refine ⟨by omega, ?_⟩
                  refine hK _ ?_
                  clear hK K
                  refine SW.ret ?_
                  simp [Ex.then, Ex.inBlock]))
              rotate_right
              case' _ =>
               intro hb7
               first
               | (exfalso; simp at hb7; done)
               | (exfalso; simp at hb7; omega)
               | (
                refine SW.regionK fun K hK => ?_
                simp -implicitDefEqProofs
                repeat refine ⟨by omega, ?_⟩
                refine hK _ ?_
                clear hK K
                refine SW.ret ?_
                simp [Ex.then, Ex.inBlock]))
            rotate_right
            case' _ =>
             intro hb6
             first
             | (exfalso; simp at hb6; done)
             | (exfalso; simp at hb6; omega)
             | (
              refine SW.regionK fun K hK => ?_
              simp -implicitDefEqProofs
              repeat refine ⟨by omega, ?_⟩
              refine hK _ ?_
              clear hK K
              refine SW.ret ?_
              simp [Ex.then, Ex.inBlock]))
          rotate_right
          case' _ =>
           intro hb5
           first
           | (exfalso; simp at hb5; done)
           | (exfalso; simp at hb5; omega)
           | (
            refine SW.regionK fun K hK => ?_
            simp -implicitDefEqProofs
            repeat refine ⟨by omega, ?_⟩
            refine hK _ ?_
            clear hK K
            refine SW.ret ?_
            simp [Ex.then, Ex.inBlock]))
        rotate_right
        case' _ =>
         intro hb4
         first
         | (exfalso; simp at hb4; done)
         | (exfalso; simp at hb4; omega)
         | (
          refine SW.regionK fun K hK => ?_
          simp -implicitDefEqProofs
          repeat refine ⟨by omega, ?_⟩
          refine hK _ ?_
          clear hK K
          refine SW.ret ?_
          simp [Ex.then, Ex.inBlock]))
      rotate_right
      case' _ =>
       intro hb3
       first
       | (exfalso; simp at hb3; done)
       | (exfalso; simp at hb3; omega)
       | (
        refine SW.regionK fun K hK => ?_
        simp -implicitDefEqProofs
        repeat refine ⟨by omega, ?_⟩
        refine hK _ ?_
        clear hK K
        refine SW.ret ?_
        simp [Ex.then, Ex.inBlock]))
    rotate_right
    case' _ =>
     intro hb2
     first
     | (exfalso; simp at hb2; done)
     | (exfalso; simp at hb2; omega)
     | (
      refine SW.regionK fun K hK => ?_
      simp -implicitDefEqProofs
      repeat refine ⟨by omega, ?_⟩
      refine hK _ ?_
      clear hK K
      refine SW.ret ?_
      simp [Ex.then, Ex.inBlock]))
  rotate_right
  case' _ =>
   intro hb1
   first
   | (exfalso; simp at hb1; done)
   | (exfalso; simp at hb1; omega)
   | (
    refine SW.regionK fun K hK => ?_
    simp -implicitDefEqProofs
    repeat refine ⟨by omega, ?_⟩
    refine hK _ ?_
    clear hK K
    refine SW.ret ?_
    simp [Ex.then, Ex.inBlock])
set_option maxHeartbeats 1000000 in
theorem law_kinE (a : Prog) (n : Int) (fa : a.fit) (hc : progOk a = true) (hi : inCh a n = false) (hn : ¬ (progOk a = true ∧ inCh a n = true)) : Fn Try.prog 5 [.agg a.fr, .int .i64 n] (.bool true) := by
  refine Fn.intro Try.func5 (by decide) rfl (rs := [.tmp 4]) rfl Try.ntmps5 (by simp) ?_
  have q1 := szR_cases a.sz 1048576
  have qt := Prog.tw_le a
  refine SW.regionK fun K hK => ?_
  simp -implicitDefEqProofs
  repeat refine ⟨by omega, ?_⟩
  refine hK _ ?_
  clear hK K
  refine SW.regionK fun K hK => ?_
  simp -implicitDefEqProofs
  repeat refine ⟨by omega, ?_⟩
  refine hK _ ?_
  clear hK K
  refine SW.regionK fun K hK => ?_
  simp -implicitDefEqProofs
  first | refine ⟨by omega, by omega, ?_⟩ | refine ⟨by omega, ?_⟩ | skip
  refine CallK.fzE (szProg_ok a 1048576 fa (by omega) (by omega)) (by simp) ?_
  simp -implicitDefEqProofs
  repeat refine ⟨by omega, ?_⟩
  refine hK _ ?_
  clear hK K
  refine SW.seqK fun K1 hK1 => ?_
  refine SW.regionK fun K hK => ?_
  simp -implicitDefEqProofs
  repeat refine ⟨by omega, ?_⟩
  refine hK _ ?_
  clear hK K
  refine SW.cond _ rfl (by simp) ?_ ?_
  case' refine_2 =>
   intro hb1
   first
   | (exfalso; simp at hb1; done)
   | (exfalso; simp at hb1; omega)
   | (
    have n1 : 0 ≤ szR a.sz 1048576 := by simp at hb1; omega
    have ha : a.ok := Prog.sz_ok (by omega)
    have hW : a.tw ≤ 2 ^ 30 := by omega
    have hl0 : a.caps.length ≤ 2 ^ 30 := by have := ha.1; omega
    have hl1 : a.sels.length ≤ 2 ^ 30 := by have := ha.2.1; omega
    have hl2 : a.procs.length ≤ 2 ^ 30 := by have := ha.2.2.2.1; omega
    refine SW.skip ?_
    refine hK1 _ ?_
    refine SW.regionK fun K hK => ?_
    simp -implicitDefEqProofs
    first | refine ⟨by omega, by omega, ?_⟩ | refine ⟨by omega, ?_⟩ | skip
    first
      | refine CallQ.fzE (toProg_ok a ha) (by simp) ?_
      | refine CallK.fzE (toProg_ok a ha) (by simp) ?_
    simp -implicitDefEqProofs
    first | refine ⟨by omega, by omega, ?_⟩ | refine ⟨by omega, ?_⟩ | skip
    first
      | refine CallQ.fzE (kinE_s a n ha hc hi) (by simp) ?_
      | refine CallK.fzE (kinE_s a n ha hc hi) (by simp) ?_
    simp -implicitDefEqProofs
    repeat refine ⟨by omega, ?_⟩
    refine hK _ ?_
    clear hK K
    refine SW.regionK fun K hK => ?_
    simp -implicitDefEqProofs
    first | refine ⟨by omega, by omega, ?_⟩ | refine ⟨by omega, ?_⟩ | skip
    refine CallK.imE (toProg_ok a ha) (by simp) (Prog_oI a) ?_
    simp -implicitDefEqProofs
    repeat refine ⟨by omega, ?_⟩
    refine hK _ ?_
    clear hK K
    refine SW.regionK fun K hK => ?_
    simp -implicitDefEqProofs
    first | refine ⟨by omega, by omega, ?_⟩ | refine ⟨by omega, ?_⟩ | skip
    first
      | refine CallQ.fzE (kin_iN a n ha hn) (by simp) ?_
      | refine CallK.fzE (kin_iN a n ha hn) (by simp) ?_
    simp -implicitDefEqProofs
    repeat refine ⟨by omega, ?_⟩
    refine hK _ ?_
    clear hK K
    refine SW.seqK fun K2 hK2 => ?_
    refine SW.regionK fun K hK => ?_
    simp -implicitDefEqProofs
    first | refine ⟨by omega, by omega, ?_⟩ | refine ⟨by omega, ?_⟩ | skip
    refine CallK.fzE (Fn.nil1 (eqIntS_ok [] (by simp))) (by simp) ?_
    simp -implicitDefEqProofs
    repeat refine ⟨by omega, ?_⟩
    refine hK _ ?_
    clear hK K
    refine SW.cond _ rfl (by simp) ?_ ?_
    case' refine_2 =>
     intro hb2
     first
     | (exfalso; simp at hb2; done)
     | (exfalso; simp at hb2; omega)
     | (
      refine SW.skip ?_
      refine hK2 _ ?_
      refine SW.seqK fun K3 hK3 => ?_
      refine SW.drawK mixed [.q [(0, false), (1, false), (2, false), (3, false), (4, false)]] (by kernel_rfl) rfl fun K hK => ?_
      simp -implicitDefEqProofs
      first | refine ⟨by omega, by omega, ?_⟩ | refine ⟨by omega, ?_⟩ | skip
      first
        | refine CallQ.fzE (toProg_ok a ha) (by simp) ?_
        | refine CallK.fzE (toProg_ok a ha) (by simp) ?_
      simp -implicitDefEqProofs
      first | refine ⟨by omega, by omega, ?_⟩ | refine ⟨by omega, ?_⟩ | skip
      refine CallQ.fzE (eqProg_ok a ha) (by simp) ?_
      simp -implicitDefEqProofs
      repeat refine ⟨by omega, ?_⟩
      refine hK _ ?_
      clear hK K
      refine SW.cond _ rfl (by simp) ?_ ?_
      case' refine_2 =>
       intro hb3
       first
       | (exfalso; simp at hb3; done)
       | (exfalso; simp at hb3; omega)
       | (
        refine SW.skip ?_
        refine hK3 _ ?_
        refine SW.regionK fun K hK => ?_
        simp -implicitDefEqProofs
        repeat refine ⟨by omega, ?_⟩
        refine hK _ ?_
        clear hK K
        refine SW.regionK fun K hK => ?_
        simp -implicitDefEqProofs
        first | refine ⟨by omega, by omega, ?_⟩ | refine ⟨by omega, ?_⟩ | skip
        refine CallS.mono (mark_Prog a 1 _ 1 2 3 _ rfl (by simp) _ rfl (by simp) _ rfl (by simp) (by simp) hW hl0 hl1 hl2 (by omega) (by omega)) ?_
        rintro o h' ⟨rfl, m1, m2, rfl⟩
        simp -implicitDefEqProofs
        repeat refine ⟨by omega, ?_⟩
        refine hK _ ?_
        clear hK K
        refine SW.seqK fun K4 hK4 => ?_
        refine SW.regionK fun K hK => ?_
        simp -implicitDefEqProofs
        first | refine ⟨by omega, by omega, ?_⟩ | refine ⟨by omega, ?_⟩ | skip
        refine CallG.fzE (by simp) (fun _ => Fn.nil1 (eqIntS_ok [] (by simp))) (by simp) ?_
        simp -implicitDefEqProofs
        repeat refine ⟨by omega, ?_⟩
        refine hK _ ?_
        clear hK K
        refine SW.cond _ rfl (by simp) ?_ ?_
        case' refine_2 =>
         intro hb4
         first
         | (exfalso; simp at hb4; done)
         | (exfalso; simp at hb4; omega)
         | (
          refine SW.skip ?_
          refine hK4 _ ?_
          refine SW.regionK fun K hK => ?_
          simp -implicitDefEqProofs
          repeat refine ⟨by omega, ?_⟩
          refine hK _ ?_
          clear hK K
          refine SW.regionK fun K hK => ?_
          simp -implicitDefEqProofs
          first | refine ⟨by omega, by omega, ?_⟩ | refine ⟨by omega, ?_⟩ | skip
          refine CallS.mono (mark_IntS_nil _ 1) ?_
          rintro o h' ⟨rfl, rfl⟩
          simp -implicitDefEqProofs
          repeat refine ⟨by omega, ?_⟩
          refine hK _ ?_
          clear hK K
          refine SW.regionK fun K hK => ?_
          simp -implicitDefEqProofs
          repeat refine ⟨by omega, ?_⟩
          refine hK _ ?_
          clear hK K
          refine SW.regionK fun K hK => ?_
          simp -implicitDefEqProofs
          first | refine ⟨by omega, by omega, ?_⟩ | refine ⟨by omega, ?_⟩ | skip
          refine CallK.fzE (held_IntS_nil) (by simp) ?_
          simp -implicitDefEqProofs
          repeat refine ⟨by omega, ?_⟩
          refine hK _ ?_
          clear hK K
          refine SW.seqK fun K5 hK5 => ?_
          refine SW.regionK fun K hK => ?_
          simp -implicitDefEqProofs
          repeat refine ⟨by omega, ?_⟩
          refine hK _ ?_
          clear hK K
          refine SW.cond _ rfl (by simp) ?_ ?_
          case' refine_2 =>
           intro hb5
           first
           | (exfalso; simp at hb5; done)
           | (exfalso; simp at hb5; omega)
           | (
            refine SW.skip ?_
            refine hK5 _ ?_
            refine SW.seqK fun K6 hK6 => ?_
            refine SW.regionK fun K hK => ?_
            simp -implicitDefEqProofs
            repeat refine ⟨by omega, ?_⟩
            refine hK _ ?_
            clear hK K
            refine SW.cond _ rfl (by simp) ?_ ?_
            case' refine_2 =>
             intro hb6
             first
             | (exfalso; simp at hb6; done)
             | (exfalso; simp at hb6; omega)
             | (
              refine SW.skip ?_
              refine hK6 _ ?_
              refine SW.regionK fun K hK => ?_
              simp -implicitDefEqProofs
              first | refine ⟨by omega, by omega, ?_⟩ | refine ⟨by omega, ?_⟩ | skip
              first
                | refine CallQ.fzE (toProg_ok a ha) (by simp) ?_
                | refine CallK.fzE (toProg_ok a ha) (by simp) ?_
              simp -implicitDefEqProofs
              first | refine ⟨by omega, by omega, ?_⟩ | refine ⟨by omega, ?_⟩ | skip
              first
                | refine CallQ.fzE (kin_iN a n ha hn) (by simp) ?_
                | refine CallK.fzE (kin_iN a n ha hn) (by simp) ?_
              simp -implicitDefEqProofs
              repeat refine ⟨by omega, ?_⟩
              refine hK _ ?_
              clear hK K
              refine SW.seqK fun K7 hK7 => ?_
              refine SW.regionK fun K hK => ?_
              simp -implicitDefEqProofs
              first | refine ⟨by omega, by omega, ?_⟩ | refine ⟨by omega, ?_⟩ | skip
              refine CallK.fzE (Fn.nil1 (eqIntS_ok [] (by simp))) (by simp) ?_
              simp -implicitDefEqProofs
              repeat refine ⟨by omega, ?_⟩
              refine hK _ ?_
              clear hK K
              refine SW.cond _ rfl (by simp) ?_ ?_
              case' refine_2 =>
               intro hb7
               first
               | (exfalso; simp at hb7; done)
               | (exfalso; simp at hb7; omega)
               | (
                refine SW.skip ?_
                refine hK7 _ ?_
                refine SW.regionK fun K hK => ?_
                simp -implicitDefEqProofs
                repeat refine ⟨by omega, ?_⟩
                refine hK _ ?_
                clear hK K
                refine SW.regionK fun K hK => ?_
                simp -implicitDefEqProofs
                first | refine ⟨by omega, by omega, ?_⟩ | refine ⟨by omega, ?_⟩ | skip
                refine CallK.fzE (held_IntS_nil) (by simp) ?_
                simp -implicitDefEqProofs
                repeat refine ⟨by omega, ?_⟩
                refine hK _ ?_
                clear hK K
                refine SW.seqK fun K8 hK8 => ?_
                refine SW.regionK fun K hK => ?_
                simp -implicitDefEqProofs
                repeat refine ⟨by omega, ?_⟩
                refine hK _ ?_
                clear hK K
                refine SW.cond _ rfl (by simp) ?_ ?_
                case' refine_2 =>
                 intro hb8
                 first
                 | (exfalso; simp at hb8; done)
                 | (exfalso; simp at hb8; omega)
                 | (
                  refine SW.skip ?_
                  refine hK8 _ ?_
                  refine SW.seqK fun K9 hK9 => ?_
                  refine SW.regionK fun K hK => ?_
                  simp -implicitDefEqProofs
                  repeat refine ⟨by omega, ?_⟩
                  refine hK _ ?_
                  clear hK K
                  refine SW.cond _ rfl (by simp) ?_ ?_
                  case' refine_2 =>
                   intro hb9
                   first
                   | (exfalso; simp at hb9; done)
                   | (exfalso; simp at hb9; omega)
                   | (
                    refine SW.skip ?_
                    refine hK9 _ ?_
                    refine SW.regionK fun K hK => ?_
                    simp -implicitDefEqProofs
                    repeat refine ⟨by omega, ?_⟩
                    refine hK _ ?_
                    clear hK K
                    refine SW.ret ?_
                    simp [Ex.then, Ex.inBlock])
                  rotate_right
                  case' _ =>
                   intro hb9
                   first
                   | (exfalso; simp at hb9; done)
                   | (exfalso; simp at hb9; omega)
                   | (
                    refine SW.regionK fun K hK => ?_
                    simp -implicitDefEqProofs
                    repeat refine ⟨by omega, ?_⟩
                    refine hK _ ?_
                    clear hK K
                    refine SW.ret ?_
                    simp [Ex.then, Ex.inBlock]))
                rotate_right
                case' _ =>
                 intro hb8
                 first
                 | (exfalso; simp at hb8; done)
                 | (exfalso; simp at hb8; omega)
                 | (
                  refine SW.regionK fun K hK => ?_
                  simp -implicitDefEqProofs
                  repeat refine ⟨by omega, ?_⟩
                  refine hK _ ?_
                  clear hK K
                  refine SW.ret ?_
                  simp [Ex.then, Ex.inBlock]))
              rotate_right
              case' _ =>
               intro hb7
               first
               | (exfalso; simp at hb7; done)
               | (exfalso; simp at hb7; omega)
               | (
                refine SW.regionK fun K hK => ?_
                simp -implicitDefEqProofs
                repeat refine ⟨by omega, ?_⟩
                refine hK _ ?_
                clear hK K
                refine SW.ret ?_
                simp [Ex.then, Ex.inBlock]))
            rotate_right
            case' _ =>
             intro hb6
             first
             | (exfalso; simp at hb6; done)
             | (exfalso; simp at hb6; omega)
             | (
              refine SW.regionK fun K hK => ?_
              simp -implicitDefEqProofs
              repeat refine ⟨by omega, ?_⟩
              refine hK _ ?_
              clear hK K
              refine SW.ret ?_
              simp [Ex.then, Ex.inBlock]))
          rotate_right
          case' _ =>
           intro hb5
           first
           | (exfalso; simp at hb5; done)
           | (exfalso; simp at hb5; omega)
           | (
            refine SW.regionK fun K hK => ?_
            simp -implicitDefEqProofs
            repeat refine ⟨by omega, ?_⟩
            refine hK _ ?_
            clear hK K
            refine SW.ret ?_
            simp [Ex.then, Ex.inBlock]))
        rotate_right
        case' _ =>
         intro hb4
         first
         | (exfalso; simp at hb4; done)
         | (exfalso; simp at hb4; omega)
         | (
          refine SW.regionK fun K hK => ?_
          simp -implicitDefEqProofs
          repeat refine ⟨by omega, ?_⟩
          refine hK _ ?_
          clear hK K
          refine SW.ret ?_
          simp [Ex.then, Ex.inBlock]))
      rotate_right
      case' _ =>
       intro hb3
       first
       | (exfalso; simp at hb3; done)
       | (exfalso; simp at hb3; omega)
       | (
        refine SW.regionK fun K hK => ?_
        simp -implicitDefEqProofs
        repeat refine ⟨by omega, ?_⟩
        refine hK _ ?_
        clear hK K
        refine SW.ret ?_
        simp [Ex.then, Ex.inBlock]))
    rotate_right
    case' _ =>
     intro hb2
     first
     | (exfalso; simp at hb2; done)
     | (exfalso; simp at hb2; omega)
     | (
      refine SW.regionK fun K hK => ?_
      simp -implicitDefEqProofs
      repeat refine ⟨by omega, ?_⟩
      refine hK _ ?_
      clear hK K
      refine SW.ret ?_
      simp [Ex.then, Ex.inBlock]))
  rotate_right
  case' _ =>
   intro hb1
   first
   | (exfalso; simp at hb1; done)
   | (exfalso; simp at hb1; omega)
   | (
    refine SW.regionK fun K hK => ?_
    simp -implicitDefEqProofs
    repeat refine ⟨by omega, ?_⟩
    refine hK _ ?_
    clear hK K
    refine SW.ret ?_
    simp [Ex.then, Ex.inBlock])
set_option maxHeartbeats 1000000 in
theorem law_kinN (a : Prog) (n : Int) (fa : a.fit) (hc : progOk a = false) (hn : ¬ (progOk a = true ∧ inCh a n = true)) : Fn Try.prog 5 [.agg a.fr, .int .i64 n] (.bool true) := by
  refine Fn.intro Try.func5 (by decide) rfl (rs := [.tmp 4]) rfl Try.ntmps5 (by simp) ?_
  have q1 := szR_cases a.sz 1048576
  have qt := Prog.tw_le a
  refine SW.regionK fun K hK => ?_
  simp -implicitDefEqProofs
  repeat refine ⟨by omega, ?_⟩
  refine hK _ ?_
  clear hK K
  refine SW.regionK fun K hK => ?_
  simp -implicitDefEqProofs
  repeat refine ⟨by omega, ?_⟩
  refine hK _ ?_
  clear hK K
  refine SW.regionK fun K hK => ?_
  simp -implicitDefEqProofs
  first | refine ⟨by omega, by omega, ?_⟩ | refine ⟨by omega, ?_⟩ | skip
  refine CallK.fzE (szProg_ok a 1048576 fa (by omega) (by omega)) (by simp) ?_
  simp -implicitDefEqProofs
  repeat refine ⟨by omega, ?_⟩
  refine hK _ ?_
  clear hK K
  refine SW.seqK fun K1 hK1 => ?_
  refine SW.regionK fun K hK => ?_
  simp -implicitDefEqProofs
  repeat refine ⟨by omega, ?_⟩
  refine hK _ ?_
  clear hK K
  refine SW.cond _ rfl (by simp) ?_ ?_
  case' refine_2 =>
   intro hb1
   first
   | (exfalso; simp at hb1; done)
   | (exfalso; simp at hb1; omega)
   | (
    have n1 : 0 ≤ szR a.sz 1048576 := by simp at hb1; omega
    have ha : a.ok := Prog.sz_ok (by omega)
    have hW : a.tw ≤ 2 ^ 30 := by omega
    have hl0 : a.caps.length ≤ 2 ^ 30 := by have := ha.1; omega
    have hl1 : a.sels.length ≤ 2 ^ 30 := by have := ha.2.1; omega
    have hl2 : a.procs.length ≤ 2 ^ 30 := by have := ha.2.2.2.1; omega
    refine SW.skip ?_
    refine hK1 _ ?_
    refine SW.regionK fun K hK => ?_
    simp -implicitDefEqProofs
    first | refine ⟨by omega, by omega, ?_⟩ | refine ⟨by omega, ?_⟩ | skip
    first
      | refine CallQ.fzE (toProg_ok a ha) (by simp) ?_
      | refine CallK.fzE (toProg_ok a ha) (by simp) ?_
    simp -implicitDefEqProofs
    first | refine ⟨by omega, by omega, ?_⟩ | refine ⟨by omega, ?_⟩ | skip
    first
      | refine CallQ.fzE (kinN_s a n ha hc) (by simp) ?_
      | refine CallK.fzE (kinN_s a n ha hc) (by simp) ?_
    simp -implicitDefEqProofs
    repeat refine ⟨by omega, ?_⟩
    refine hK _ ?_
    clear hK K
    refine SW.regionK fun K hK => ?_
    simp -implicitDefEqProofs
    first | refine ⟨by omega, by omega, ?_⟩ | refine ⟨by omega, ?_⟩ | skip
    refine CallK.imE (toProg_ok a ha) (by simp) (Prog_oI a) ?_
    simp -implicitDefEqProofs
    repeat refine ⟨by omega, ?_⟩
    refine hK _ ?_
    clear hK K
    refine SW.regionK fun K hK => ?_
    simp -implicitDefEqProofs
    first | refine ⟨by omega, by omega, ?_⟩ | refine ⟨by omega, ?_⟩ | skip
    first
      | refine CallQ.fzE (kin_iN a n ha hn) (by simp) ?_
      | refine CallK.fzE (kin_iN a n ha hn) (by simp) ?_
    simp -implicitDefEqProofs
    repeat refine ⟨by omega, ?_⟩
    refine hK _ ?_
    clear hK K
    refine SW.seqK fun K2 hK2 => ?_
    refine SW.regionK fun K hK => ?_
    simp -implicitDefEqProofs
    first | refine ⟨by omega, by omega, ?_⟩ | refine ⟨by omega, ?_⟩ | skip
    refine CallK.fzE (Fn.nil2 (eqIntS_ok [] (by simp))) (by simp) ?_
    simp -implicitDefEqProofs
    repeat refine ⟨by omega, ?_⟩
    refine hK _ ?_
    clear hK K
    refine SW.cond _ rfl (by simp) ?_ ?_
    case' refine_2 =>
     intro hb2
     first
     | (exfalso; simp at hb2; done)
     | (exfalso; simp at hb2; omega)
     | (
      refine SW.skip ?_
      refine hK2 _ ?_
      refine SW.seqK fun K3 hK3 => ?_
      refine SW.drawK mixed [.q [(0, false), (1, false), (2, false), (3, false), (4, false)]] (by kernel_rfl) rfl fun K hK => ?_
      simp -implicitDefEqProofs
      first | refine ⟨by omega, by omega, ?_⟩ | refine ⟨by omega, ?_⟩ | skip
      first
        | refine CallQ.fzE (toProg_ok a ha) (by simp) ?_
        | refine CallK.fzE (toProg_ok a ha) (by simp) ?_
      simp -implicitDefEqProofs
      first | refine ⟨by omega, by omega, ?_⟩ | refine ⟨by omega, ?_⟩ | skip
      refine CallQ.fzE (eqProg_ok a ha) (by simp) ?_
      simp -implicitDefEqProofs
      repeat refine ⟨by omega, ?_⟩
      refine hK _ ?_
      clear hK K
      refine SW.cond _ rfl (by simp) ?_ ?_
      case' refine_2 =>
       intro hb3
       first
       | (exfalso; simp at hb3; done)
       | (exfalso; simp at hb3; omega)
       | (
        refine SW.skip ?_
        refine hK3 _ ?_
        refine SW.regionK fun K hK => ?_
        simp -implicitDefEqProofs
        repeat refine ⟨by omega, ?_⟩
        refine hK _ ?_
        clear hK K
        refine SW.regionK fun K hK => ?_
        simp -implicitDefEqProofs
        first | refine ⟨by omega, by omega, ?_⟩ | refine ⟨by omega, ?_⟩ | skip
        refine CallS.mono (mark_Prog a 1 _ 1 2 3 _ rfl (by simp) _ rfl (by simp) _ rfl (by simp) (by simp) hW hl0 hl1 hl2 (by omega) (by omega)) ?_
        rintro o h' ⟨rfl, m1, m2, rfl⟩
        simp -implicitDefEqProofs
        repeat refine ⟨by omega, ?_⟩
        refine hK _ ?_
        clear hK K
        refine SW.seqK fun K4 hK4 => ?_
        refine SW.regionK fun K hK => ?_
        simp -implicitDefEqProofs
        first | refine ⟨by omega, by omega, ?_⟩ | refine ⟨by omega, ?_⟩ | skip
        refine CallG.fzE (by simp) (fun _ => Fn.nil2 (eqIntS_ok [] (by simp))) (by simp) ?_
        simp -implicitDefEqProofs
        repeat refine ⟨by omega, ?_⟩
        refine hK _ ?_
        clear hK K
        refine SW.cond _ rfl (by simp) ?_ ?_
        case' refine_2 =>
         intro hb4
         first
         | (exfalso; simp at hb4; done)
         | (exfalso; simp at hb4; omega)
         | (
          refine SW.skip ?_
          refine hK4 _ ?_
          refine SW.regionK fun K hK => ?_
          simp -implicitDefEqProofs
          repeat refine ⟨by omega, ?_⟩
          refine hK _ ?_
          clear hK K
          refine SW.regionK fun K hK => ?_
          simp -implicitDefEqProofs
          first | refine ⟨by omega, by omega, ?_⟩ | refine ⟨by omega, ?_⟩ | skip
          refine CallS.mono (mark_IntS_nil _ 1) ?_
          rintro o h' ⟨rfl, rfl⟩
          simp -implicitDefEqProofs
          repeat refine ⟨by omega, ?_⟩
          refine hK _ ?_
          clear hK K
          refine SW.regionK fun K hK => ?_
          simp -implicitDefEqProofs
          repeat refine ⟨by omega, ?_⟩
          refine hK _ ?_
          clear hK K
          refine SW.regionK fun K hK => ?_
          simp -implicitDefEqProofs
          first | refine ⟨by omega, by omega, ?_⟩ | refine ⟨by omega, ?_⟩ | skip
          refine CallK.fzE (held_IntS_nil) (by simp) ?_
          simp -implicitDefEqProofs
          repeat refine ⟨by omega, ?_⟩
          refine hK _ ?_
          clear hK K
          refine SW.seqK fun K5 hK5 => ?_
          refine SW.regionK fun K hK => ?_
          simp -implicitDefEqProofs
          repeat refine ⟨by omega, ?_⟩
          refine hK _ ?_
          clear hK K
          refine SW.cond _ rfl (by simp) ?_ ?_
          case' refine_2 =>
           intro hb5
           first
           | (exfalso; simp at hb5; done)
           | (exfalso; simp at hb5; omega)
           | (
            refine SW.skip ?_
            refine hK5 _ ?_
            refine SW.seqK fun K6 hK6 => ?_
            refine SW.regionK fun K hK => ?_
            simp -implicitDefEqProofs
            repeat refine ⟨by omega, ?_⟩
            refine hK _ ?_
            clear hK K
            refine SW.cond _ rfl (by simp) ?_ ?_
            case' refine_2 =>
             intro hb6
             first
             | (exfalso; simp at hb6; done)
             | (exfalso; simp at hb6; omega)
             | (
              refine SW.skip ?_
              refine hK6 _ ?_
              refine SW.regionK fun K hK => ?_
              simp -implicitDefEqProofs
              first | refine ⟨by omega, by omega, ?_⟩ | refine ⟨by omega, ?_⟩ | skip
              first
                | refine CallQ.fzE (toProg_ok a ha) (by simp) ?_
                | refine CallK.fzE (toProg_ok a ha) (by simp) ?_
              simp -implicitDefEqProofs
              first | refine ⟨by omega, by omega, ?_⟩ | refine ⟨by omega, ?_⟩ | skip
              first
                | refine CallQ.fzE (kin_iN a n ha hn) (by simp) ?_
                | refine CallK.fzE (kin_iN a n ha hn) (by simp) ?_
              simp -implicitDefEqProofs
              repeat refine ⟨by omega, ?_⟩
              refine hK _ ?_
              clear hK K
              refine SW.seqK fun K7 hK7 => ?_
              refine SW.regionK fun K hK => ?_
              simp -implicitDefEqProofs
              first | refine ⟨by omega, by omega, ?_⟩ | refine ⟨by omega, ?_⟩ | skip
              refine CallK.fzE (Fn.nil2 (eqIntS_ok [] (by simp))) (by simp) ?_
              simp -implicitDefEqProofs
              repeat refine ⟨by omega, ?_⟩
              refine hK _ ?_
              clear hK K
              refine SW.cond _ rfl (by simp) ?_ ?_
              case' refine_2 =>
               intro hb7
               first
               | (exfalso; simp at hb7; done)
               | (exfalso; simp at hb7; omega)
               | (
                refine SW.skip ?_
                refine hK7 _ ?_
                refine SW.regionK fun K hK => ?_
                simp -implicitDefEqProofs
                repeat refine ⟨by omega, ?_⟩
                refine hK _ ?_
                clear hK K
                refine SW.regionK fun K hK => ?_
                simp -implicitDefEqProofs
                first | refine ⟨by omega, by omega, ?_⟩ | refine ⟨by omega, ?_⟩ | skip
                refine CallK.fzE (held_IntS_nil) (by simp) ?_
                simp -implicitDefEqProofs
                repeat refine ⟨by omega, ?_⟩
                refine hK _ ?_
                clear hK K
                refine SW.seqK fun K8 hK8 => ?_
                refine SW.regionK fun K hK => ?_
                simp -implicitDefEqProofs
                repeat refine ⟨by omega, ?_⟩
                refine hK _ ?_
                clear hK K
                refine SW.cond _ rfl (by simp) ?_ ?_
                case' refine_2 =>
                 intro hb8
                 first
                 | (exfalso; simp at hb8; done)
                 | (exfalso; simp at hb8; omega)
                 | (
                  refine SW.skip ?_
                  refine hK8 _ ?_
                  refine SW.seqK fun K9 hK9 => ?_
                  refine SW.regionK fun K hK => ?_
                  simp -implicitDefEqProofs
                  repeat refine ⟨by omega, ?_⟩
                  refine hK _ ?_
                  clear hK K
                  refine SW.cond _ rfl (by simp) ?_ ?_
                  case' refine_2 =>
                   intro hb9
                   first
                   | (exfalso; simp at hb9; done)
                   | (exfalso; simp at hb9; omega)
                   | (
                    refine SW.skip ?_
                    refine hK9 _ ?_
                    refine SW.regionK fun K hK => ?_
                    simp -implicitDefEqProofs
                    repeat refine ⟨by omega, ?_⟩
                    refine hK _ ?_
                    clear hK K
                    refine SW.ret ?_
                    simp [Ex.then, Ex.inBlock])
                  rotate_right
                  case' _ =>
                   intro hb9
                   first
                   | (exfalso; simp at hb9; done)
                   | (exfalso; simp at hb9; omega)
                   | (
                    refine SW.regionK fun K hK => ?_
                    simp -implicitDefEqProofs
                    repeat refine ⟨by omega, ?_⟩
                    refine hK _ ?_
                    clear hK K
                    refine SW.ret ?_
                    simp [Ex.then, Ex.inBlock]))
                rotate_right
                case' _ =>
                 intro hb8
                 first
                 | (exfalso; simp at hb8; done)
                 | (exfalso; simp at hb8; omega)
                 | (
                  refine SW.regionK fun K hK => ?_
                  simp -implicitDefEqProofs
                  repeat refine ⟨by omega, ?_⟩
                  refine hK _ ?_
                  clear hK K
                  refine SW.ret ?_
                  simp [Ex.then, Ex.inBlock]))
              rotate_right
              case' _ =>
               intro hb7
               first
               | (exfalso; simp at hb7; done)
               | (exfalso; simp at hb7; omega)
               | (
                refine SW.regionK fun K hK => ?_
                simp -implicitDefEqProofs
                repeat refine ⟨by omega, ?_⟩
                refine hK _ ?_
                clear hK K
                refine SW.ret ?_
                simp [Ex.then, Ex.inBlock]))
            rotate_right
            case' _ =>
             intro hb6
             first
             | (exfalso; simp at hb6; done)
             | (exfalso; simp at hb6; omega)
             | (
              refine SW.regionK fun K hK => ?_
              simp -implicitDefEqProofs
              repeat refine ⟨by omega, ?_⟩
              refine hK _ ?_
              clear hK K
              refine SW.ret ?_
              simp [Ex.then, Ex.inBlock]))
          rotate_right
          case' _ =>
           intro hb5
           first
           | (exfalso; simp at hb5; done)
           | (exfalso; simp at hb5; omega)
           | (
            refine SW.regionK fun K hK => ?_
            simp -implicitDefEqProofs
            repeat refine ⟨by omega, ?_⟩
            refine hK _ ?_
            clear hK K
            refine SW.ret ?_
            simp [Ex.then, Ex.inBlock]))
        rotate_right
        case' _ =>
         intro hb4
         first
         | (exfalso; simp at hb4; done)
         | (exfalso; simp at hb4; omega)
         | (
          refine SW.regionK fun K hK => ?_
          simp -implicitDefEqProofs
          repeat refine ⟨by omega, ?_⟩
          refine hK _ ?_
          clear hK K
          refine SW.ret ?_
          simp [Ex.then, Ex.inBlock]))
      rotate_right
      case' _ =>
       intro hb3
       first
       | (exfalso; simp at hb3; done)
       | (exfalso; simp at hb3; omega)
       | (
        refine SW.regionK fun K hK => ?_
        simp -implicitDefEqProofs
        repeat refine ⟨by omega, ?_⟩
        refine hK _ ?_
        clear hK K
        refine SW.ret ?_
        simp [Ex.then, Ex.inBlock]))
    rotate_right
    case' _ =>
     intro hb2
     first
     | (exfalso; simp at hb2; done)
     | (exfalso; simp at hb2; omega)
     | (
      refine SW.regionK fun K hK => ?_
      simp -implicitDefEqProofs
      repeat refine ⟨by omega, ?_⟩
      refine hK _ ?_
      clear hK K
      refine SW.ret ?_
      simp [Ex.then, Ex.inBlock]))
  rotate_right
  case' _ =>
   intro hb1
   first
   | (exfalso; simp at hb1; done)
   | (exfalso; simp at hb1; omega)
   | (
    refine SW.regionK fun K hK => ?_
    simp -implicitDefEqProofs
    repeat refine ⟨by omega, ?_⟩
    refine hK _ ?_
    clear hK K
    refine SW.ret ?_
    simp [Ex.then, Ex.inBlock])
theorem law_kin (a : Prog) (n : Int) (fa : a.fit) : Fn Try.prog 5 [.agg a.fr, .int .i64 n] (.bool true) := by
  cases hc : progOk a with
  | false => exact law_kinN a n fa hc (by simp [hc])
  | true =>
    cases hi : inCh a n with
    | true => exact law_kinY a n fa hc hi
    | false => exact law_kinE a n fa hc hi (by simp [hi])
end HT
