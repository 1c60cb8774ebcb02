import Derived.Test.YtohfnikklggjjaaGreatHGWF
/-
  My own texts (road H): HGWG.
-/
set_option linter.unusedSimpArgs false
set_option linter.unusedVariables false
namespace HT
open Go Go.Proofs HK
set_option maxHeartbeats 1000000 in
theorem law_swapY (a : Prog) (l : List Deed) (k : Nat) (x y : Deed) (fa : a.fit) (fl : l.length ≤ maxLen) (hx : l[k]? = some x) (hy : l[k + 1]? = some y) (hm : meet a x y = false) : Fn Tryz.prog 3 [.agg a.fr, .fz (DeedS l), .int .i64 (k : Nat)] (.bool true) := by
  refine Fn.intro Tryz.func3 (by decide) rfl (rs := [.tmp 6]) rfl Tryz.ntmps3 (by simp) ?_; have q1 := szR_cases a.sz 1048576
  have q2 := szR_cases l.length (szR a.sz 1048576)
  have qt := Prog.tw_le a
  refine SW.rg fun K hK => ?_; simp -implicitDefEqProofs; repeat refine ⟨by omega, ?_⟩
  refine hK _ ?_; clear hK K; refine SW.rg fun K hK => ?_; simp -implicitDefEqProofs; repeat refine ⟨by omega, ?_⟩
  refine hK _ ?_; clear hK K; refine SW.rg fun K hK => ?_; simp -implicitDefEqProofs; iterate 2 (try refine ⟨by omega, ?_⟩)
  refine CallK.fzE (szProg_ok a 1048576 fa (by omega) (by omega)) (by simp) ?_; simp -implicitDefEqProofs; repeat refine ⟨by omega, ?_⟩
  refine hK _ ?_; clear hK K; refine SW.seqK fun K1 hK1 => ?_; refine SW.rg fun K hK => ?_; simp -implicitDefEqProofs; repeat refine ⟨by omega, ?_⟩
  refine hK _ ?_; clear hK K; refine SW.cond _ rfl (by simp) ?_ ?_
  case' refine_2 =>
   intro hb1
   first
   | (exfalso; simp at hb1; done)
   | (exfalso; simp at hb1; omega)
   | (
    have n1 : 0 ≤ szR a.sz 1048576 := by simp at hb1; omega
    have ha : a.ok := Prog.sz_ok (by omega)
    have hW : a.tw ≤ 2 ^ 30 := by omega
    have hl0 : a.caps.length ≤ 2 ^ 30 := by have := ha.1; omega
    have hl1 : a.sels.length ≤ 2 ^ 30 := by have := ha.2.1; omega
    have hl2 : a.procs.length ≤ 2 ^ 30 := by have := ha.2.2.2.1; omega
    refine SW.skip ?_; refine hK1 _ ?_; refine SW.rg fun K hK => ?_; simp -implicitDefEqProofs; iterate 2 (try refine ⟨by omega, ?_⟩)
    refine CallK.fzE (szDeedS_ok l (szR a.sz 1048576) fl (by omega) (by omega)) (by simp) ?_; simp -implicitDefEqProofs; repeat refine ⟨by omega, ?_⟩
    refine hK _ ?_; clear hK K; refine SW.seqK fun K2 hK2 => ?_; refine SW.rg fun K hK => ?_; simp -implicitDefEqProofs; repeat refine ⟨by omega, ?_⟩
    refine hK _ ?_; clear hK K; refine SW.cond _ rfl (by simp) ?_ ?_
    case' refine_2 =>
     intro hb2
     first
     | (exfalso; simp at hb2; done)
     | (exfalso; simp at hb2; omega)
     | (
      have n2 : 0 ≤ szR l.length (szR a.sz 1048576) := by simp at hb2; omega
      have hlm : l.length ≤ 1048576 := by omega
      refine SW.skip ?_; refine hK2 _ ?_; refine SW.rg fun K hK => ?_; simp -implicitDefEqProofs; iterate 2 (try refine ⟨by omega, ?_⟩)
      first
        | refine CallQ.fzE (toProg_ok a ha) (by simp) ?_
        | refine CallK.fzE (toProg_ok a ha) (by simp) ?_
      simp -implicitDefEqProofs; iterate 2 (try refine ⟨by omega, ?_⟩)
      first
        | refine CallQ.fzE (toDeedS_ok l hlm) (by simp) ?_
        | refine CallK.fzE (toDeedS_ok l hlm) (by simp) ?_
      simp -implicitDefEqProofs; iterate 2 (try refine ⟨by omega, ?_⟩)
      first
        | refine CallQ.fzE (swap_sy a l k x y ha hlm hx hy hm) (by simp) ?_
        | refine CallK.fzE (swap_sy a l k x y ha hlm hx hy hm) (by simp) ?_
      simp -implicitDefEqProofs; repeat refine ⟨by omega, ?_⟩
      refine hK _ ?_; clear hK K; refine SW.rg fun K hK => ?_; simp -implicitDefEqProofs; iterate 2 (try refine ⟨by omega, ?_⟩)
      refine CallK.imE (toProg_ok a ha) (by simp) (Prog_oI a) ?_; simp -implicitDefEqProofs; repeat refine ⟨by omega, ?_⟩
      refine hK _ ?_; clear hK K; refine SW.rg fun K hK => ?_; simp -implicitDefEqProofs; iterate 2 (try refine ⟨by omega, ?_⟩)
      refine CallK.imE (toDeedS_ok l hlm) (by simp) (DeedS_okI _) ?_; simp -implicitDefEqProofs; repeat refine ⟨by omega, ?_⟩
      refine hK _ ?_; clear hK K; refine SW.rg fun K hK => ?_; simp -implicitDefEqProofs; iterate 2 (try refine ⟨by omega, ?_⟩)
      refine CallK.imE (swap_iy a l k x y ha hlm hx hy hm) (by simp) (tupD_okI _) ?_; simp -implicitDefEqProofs; repeat refine ⟨by omega, ?_⟩
      refine hK _ ?_; clear hK K; refine SW.seqK fun K3 hK3 => ?_; refine SW.rg fun K hK => ?_; simp -implicitDefEqProofs; iterate 2 (try refine ⟨by omega, ?_⟩)
      refine CallK.fzE (eqDeedS_ok (swL l k x y) (by simp; omega)) (by simp) ?_; simp -implicitDefEqProofs; repeat refine ⟨by omega, ?_⟩
      refine hK _ ?_; clear hK K; refine SW.cond _ rfl (by simp) ?_ ?_
      case' refine_2 =>
       intro hb3
       first
       | (exfalso; simp at hb3; done)
       | (exfalso; simp at hb3; omega)
       | (
        refine SW.skip ?_; refine hK3 _ ?_; refine SW.seqK fun K4 hK4 => ?_; refine SW.drawK mixed [.q [(0, false), (1, false), (2, false), (3, false), (4, false)]] (by kernel_rfl) rfl fun K hK => ?_; simp -implicitDefEqProofs
        iterate 2 (try refine ⟨by omega, ?_⟩)
        first
          | refine CallQ.fzE (toProg_ok a ha) (by simp) ?_
          | refine CallK.fzE (toProg_ok a ha) (by simp) ?_
        simp -implicitDefEqProofs; iterate 2 (try refine ⟨by omega, ?_⟩)
        refine CallQ.fzE (eqProg_ok a ha) (by simp) ?_; simp -implicitDefEqProofs; repeat refine ⟨by omega, ?_⟩
        refine hK _ ?_; clear hK K; refine SW.cond _ rfl (by simp) ?_ ?_
        case' refine_2 =>
         intro hb4
         first
         | (exfalso; simp at hb4; done)
         | (exfalso; simp at hb4; omega)
         | (
          refine SW.skip ?_; refine hK4 _ ?_; refine SW.seqK fun K5 hK5 => ?_; refine SW.rg fun K hK => ?_; simp -implicitDefEqProofs; iterate 2 (try refine ⟨by omega, ?_⟩)
          first
            | refine CallQ.fzE (toDeedS_ok l hlm) (by simp) ?_
            | refine CallK.fzE (toDeedS_ok l hlm) (by simp) ?_
          simp -implicitDefEqProofs; iterate 2 (try refine ⟨by omega, ?_⟩)
          refine CallK.fzE (eqDeedS_ok l hlm) (by simp) ?_; simp -implicitDefEqProofs; repeat refine ⟨by omega, ?_⟩
          refine hK _ ?_; clear hK K; refine SW.cond _ rfl (by simp) ?_ ?_
          case' refine_2 =>
           intro hb5
           first
           | (exfalso; simp at hb5; done)
           | (exfalso; simp at hb5; omega)
           | (
            refine SW.skip ?_; refine hK5 _ ?_; refine SW.rg fun K hK => ?_; simp -implicitDefEqProofs; repeat refine ⟨by omega, ?_⟩
            refine hK _ ?_; clear hK K; refine SW.rg fun K hK => ?_; simp -implicitDefEqProofs; iterate 2 (try refine ⟨by omega, ?_⟩)
            refine CallS.mono (mark_Prog a 1 _ 1 2 3 _ rfl (by simp) _ rfl (by simp) _ rfl (by simp) (by simp) hW hl0 hl1 hl2 (by omega) (by omega)) ?_
            rintro o h' ⟨rfl, m1, m2, rfl⟩
            simp -implicitDefEqProofs; repeat refine ⟨by omega, ?_⟩
            refine hK _ ?_; clear hK K; refine SW.rg fun K hK => ?_; simp -implicitDefEqProofs; iterate 2 (try refine ⟨by omega, ?_⟩)
            refine CallS.mono (mark_DeedS l (1 + (a.tw : Int)) _ 5 _ rfl (by simp) (by omega) (by omega) (by omega)) ?_
            rintro o h' ⟨rfl, rfl⟩
            simp -implicitDefEqProofs; repeat refine ⟨by omega, ?_⟩
            refine hK _ ?_; clear hK K; refine SW.seqK fun K6 hK6 => ?_; refine SW.rg fun K hK => ?_; simp -implicitDefEqProofs; iterate 2 (try refine ⟨by omega, ?_⟩)
            refine CallG.fzE (by simp) (fun _ => eqDeedS_ok (swL l k x y) (by simp; omega)) (by simp) ?_; simp -implicitDefEqProofs; repeat refine ⟨by omega, ?_⟩
            refine hK _ ?_; clear hK K; refine SW.cond _ rfl (by simp) ?_ ?_
            case' refine_2 =>
             intro hb6
             first
             | (exfalso; simp at hb6; done)
             | (exfalso; simp at hb6; omega)
             | (
              refine SW.skip ?_; refine hK6 _ ?_; refine SW.rg fun K hK => ?_; simp -implicitDefEqProofs; repeat refine ⟨by omega, ?_⟩
              refine hK _ ?_; clear hK K; refine SW.rg fun K hK => ?_; simp -implicitDefEqProofs; iterate 2 (try refine ⟨by omega, ?_⟩)
              refine CallS.mono (mark_DeedS (swL l k x y) 1 _ 6 _ (swL_len _ _ _ _) (by simp) (by omega) (by omega) (by omega)) ?_
              rintro o h' ⟨rfl, rfl⟩
              simp -implicitDefEqProofs; repeat refine ⟨by omega, ?_⟩
              refine hK _ ?_; clear hK K; refine SW.rg fun K hK => ?_; simp -implicitDefEqProofs; repeat refine ⟨by omega, ?_⟩
              refine hK _ ?_; clear hK K; refine SW.rg fun K hK => ?_; simp -implicitDefEqProofs; iterate 2 (try refine ⟨by omega, ?_⟩)
              refine CallK.fzE (held_DeedS l.length 1 (by omega) (by omega) (by omega)) (by simp) ?_; simp -implicitDefEqProofs; repeat refine ⟨by omega, ?_⟩
              refine hK _ ?_; clear hK K; refine SW.seqK fun K7 hK7 => ?_; refine SW.rg fun K hK => ?_; simp -implicitDefEqProofs; repeat refine ⟨by omega, ?_⟩
              refine hK _ ?_; clear hK K; refine SW.cond _ rfl (by simp) ?_ ?_
              case' refine_2 =>
               intro hb7
               first
               | (exfalso; simp at hb7; done)
               | (exfalso; simp at hb7; omega)
               | (
                refine SW.skip ?_; refine hK7 _ ?_; refine SW.seqK fun K8 hK8 => ?_; refine SW.rg fun K hK => ?_; simp -implicitDefEqProofs; repeat refine ⟨by omega, ?_⟩
                refine hK _ ?_; clear hK K; refine SW.cond _ rfl (by simp) ?_ ?_
                case' refine_2 =>
                 intro hb8
                 first
                 | (exfalso; simp at hb8; done)
                 | (exfalso; simp at hb8; omega)
                 | (
                  refine SW.skip ?_; refine hK8 _ ?_; refine SW.rg fun K hK => ?_; simp -implicitDefEqProofs; iterate 2 (try refine ⟨by omega, ?_⟩)
                  first
                    | refine CallQ.fzE (toProg_ok a ha) (by simp) ?_
                    | refine CallK.fzE (toProg_ok a ha) (by simp) ?_
                  simp -implicitDefEqProofs; iterate 2 (try refine ⟨by omega, ?_⟩)
                  first
                    | refine CallQ.fzE (toDeedS_ok l hlm) (by simp) ?_
                    | refine CallK.fzE (toDeedS_ok l hlm) (by simp) ?_
                  simp -implicitDefEqProofs; iterate 2 (try refine ⟨by omega, ?_⟩)
                  first
                    | refine CallQ.fzE (swap_iy a l k x y ha hlm hx hy hm) (by simp) ?_
                    | refine CallK.fzE (swap_iy a l k x y ha hlm hx hy hm) (by simp) ?_
                  simp -implicitDefEqProofs; repeat refine ⟨by omega, ?_⟩
                  refine hK _ ?_; clear hK K; refine SW.seqK fun K9 hK9 => ?_; refine SW.rg fun K hK => ?_; simp -implicitDefEqProofs; iterate 2 (try refine ⟨by omega, ?_⟩)
                  refine CallK.fzE (eqDeedS_ok (swL l k x y) (by simp; omega)) (by simp) ?_; simp -implicitDefEqProofs; repeat refine ⟨by omega, ?_⟩
                  refine hK _ ?_; clear hK K; refine SW.cond _ rfl (by simp) ?_ ?_
                  case' refine_2 =>
                   intro hb9
                   first
                   | (exfalso; simp at hb9; done)
                   | (exfalso; simp at hb9; omega)
                   | (
                    refine SW.skip ?_; refine hK9 _ ?_; refine SW.rg fun K hK => ?_; simp -implicitDefEqProofs; repeat refine ⟨by omega, ?_⟩
                    refine hK _ ?_; clear hK K; refine SW.rg fun K hK => ?_; simp -implicitDefEqProofs; iterate 2 (try refine ⟨by omega, ?_⟩)
                    refine CallK.fzE (held_DeedS l.length 1 (by omega) (by omega) (by omega)) (by simp) ?_; simp -implicitDefEqProofs; repeat refine ⟨by omega, ?_⟩
                    refine hK _ ?_; clear hK K; refine SW.seqK fun K10 hK10 => ?_; refine SW.rg fun K hK => ?_; simp -implicitDefEqProofs; repeat refine ⟨by omega, ?_⟩
                    refine hK _ ?_; clear hK K; refine SW.cond _ rfl (by simp) ?_ ?_
                    case' refine_2 =>
                     intro hb10
                     first
                     | (exfalso; simp at hb10; done)
                     | (exfalso; simp at hb10; omega)
                     | (
                      refine SW.skip ?_; refine hK10 _ ?_; refine SW.seqK fun K11 hK11 => ?_; refine SW.rg fun K hK => ?_; simp -implicitDefEqProofs; repeat refine ⟨by omega, ?_⟩
                      refine hK _ ?_; clear hK K; refine SW.cond _ rfl (by simp) ?_ ?_
                      case' refine_2 =>
                       intro hb11
                       first
                       | (exfalso; simp at hb11; done)
                       | (exfalso; simp at hb11; omega)
                       | (
                        refine SW.skip ?_; refine hK11 _ ?_; refine SW.rg fun K hK => ?_; simp -implicitDefEqProofs; repeat refine ⟨by omega, ?_⟩
                        refine hK _ ?_; clear hK K; refine SW.ret ?_
                        simp [Ex.then, Ex.ib])
                      rotate_right
                      case' _ =>
                       intro hb11
                       first
                       | (exfalso; simp at hb11; done)
                       | (exfalso; simp at hb11; omega)
                       | (
                        refine SW.rg fun K hK => ?_; simp -implicitDefEqProofs; repeat refine ⟨by omega, ?_⟩
                        refine hK _ ?_; clear hK K; refine SW.ret ?_
                        simp [Ex.then, Ex.ib]))
                    rotate_right
                    case' _ =>
                     intro hb10
                     first
                     | (exfalso; simp at hb10; done)
                     | (exfalso; simp at hb10; omega)
                     | (
                      refine SW.rg fun K hK => ?_; simp -implicitDefEqProofs; repeat refine ⟨by omega, ?_⟩
                      refine hK _ ?_; clear hK K; refine SW.ret ?_
                      simp [Ex.then, Ex.ib]))
                  rotate_right
                  case' _ =>
                   intro hb9
                   first
                   | (exfalso; simp at hb9; done)
                   | (exfalso; simp at hb9; omega)
                   | (
                    refine SW.rg fun K hK => ?_; simp -implicitDefEqProofs; repeat refine ⟨by omega, ?_⟩
                    refine hK _ ?_; clear hK K; refine SW.ret ?_
                    simp [Ex.then, Ex.ib]))
                rotate_right
                case' _ =>
                 intro hb8
                 first
                 | (exfalso; simp at hb8; done)
                 | (exfalso; simp at hb8; omega)
                 | (
                  refine SW.rg fun K hK => ?_; simp -implicitDefEqProofs; repeat refine ⟨by omega, ?_⟩
                  refine hK _ ?_; clear hK K; refine SW.ret ?_
                  simp [Ex.then, Ex.ib]))
              rotate_right
              case' _ =>
               intro hb7
               first
               | (exfalso; simp at hb7; done)
               | (exfalso; simp at hb7; omega)
               | (
                refine SW.rg fun K hK => ?_; simp -implicitDefEqProofs; repeat refine ⟨by omega, ?_⟩
                refine hK _ ?_; clear hK K; refine SW.ret ?_
                simp [Ex.then, Ex.ib]))
            rotate_right
            case' _ =>
             intro hb6
             first
             | (exfalso; simp at hb6; done)
             | (exfalso; simp at hb6; omega)
             | (
              refine SW.rg fun K hK => ?_; simp -implicitDefEqProofs; repeat refine ⟨by omega, ?_⟩
              refine hK _ ?_; clear hK K; refine SW.ret ?_
              simp [Ex.then, Ex.ib]))
          rotate_right
          case' _ =>
           intro hb5
           first
           | (exfalso; simp at hb5; done)
           | (exfalso; simp at hb5; omega)
           | (
            refine SW.rg fun K hK => ?_; simp -implicitDefEqProofs; repeat refine ⟨by omega, ?_⟩
            refine hK _ ?_; clear hK K; refine SW.ret ?_
            simp [Ex.then, Ex.ib]))
        rotate_right
        case' _ =>
         intro hb4
         first
         | (exfalso; simp at hb4; done)
         | (exfalso; simp at hb4; omega)
         | (
          refine SW.rg fun K hK => ?_; simp -implicitDefEqProofs; repeat refine ⟨by omega, ?_⟩
          refine hK _ ?_; clear hK K; refine SW.ret ?_
          simp [Ex.then, Ex.ib]))
      rotate_right
      case' _ =>
       intro hb3
       first
       | (exfalso; simp at hb3; done)
       | (exfalso; simp at hb3; omega)
       | (
        refine SW.rg fun K hK => ?_; simp -implicitDefEqProofs; repeat refine ⟨by omega, ?_⟩
        refine hK _ ?_; clear hK K; refine SW.ret ?_
        simp [Ex.then, Ex.ib]))
    rotate_right
    case' _ =>
     intro hb2
     first
     | (exfalso; simp at hb2; done)
     | (exfalso; simp at hb2; omega)
     | (
      refine SW.rg fun K hK => ?_; simp -implicitDefEqProofs; repeat refine ⟨by omega, ?_⟩
      refine hK _ ?_; clear hK K; refine SW.ret ?_
      simp [Ex.then, Ex.ib]))
  rotate_right
  case' _ =>
   intro hb1
   first
   | (exfalso; simp at hb1; done)
   | (exfalso; simp at hb1; omega)
   | (
    refine SW.rg fun K hK => ?_; simp -implicitDefEqProofs; repeat refine ⟨by omega, ?_⟩
    refine hK _ ?_; clear hK K; refine SW.ret ?_
    simp [Ex.then, Ex.ib])
set_option maxHeartbeats 1000000 in
theorem law_swapN (a : Prog) (l : List Deed) (k : Nat) (x y : Deed) (fa : a.fit) (fl : l.length ≤ maxLen) (hx : l[k]? = some x) (hy : l[k + 1]? = some y) (hm : meet a x y = true) : Fn Tryz.prog 3 [.agg a.fr, .fz (DeedS l), .int .i64 (k : Nat)] (.bool true) := by
  refine Fn.intro Tryz.func3 (by decide) rfl (rs := [.tmp 6]) rfl Tryz.ntmps3 (by simp) ?_; have q1 := szR_cases a.sz 1048576
  have q2 := szR_cases l.length (szR a.sz 1048576)
  have qt := Prog.tw_le a
  refine SW.rg fun K hK => ?_; simp -implicitDefEqProofs; repeat refine ⟨by omega, ?_⟩
  refine hK _ ?_; clear hK K; refine SW.rg fun K hK => ?_; simp -implicitDefEqProofs; repeat refine ⟨by omega, ?_⟩
  refine hK _ ?_; clear hK K; refine SW.rg fun K hK => ?_; simp -implicitDefEqProofs; iterate 2 (try refine ⟨by omega, ?_⟩)
  refine CallK.fzE (szProg_ok a 1048576 fa (by omega) (by omega)) (by simp) ?_; simp -implicitDefEqProofs; repeat refine ⟨by omega, ?_⟩
  refine hK _ ?_; clear hK K; refine SW.seqK fun K1 hK1 => ?_; refine SW.rg fun K hK => ?_; simp -implicitDefEqProofs; repeat refine ⟨by omega, ?_⟩
  refine hK _ ?_; clear hK K; refine SW.cond _ rfl (by simp) ?_ ?_
  case' refine_2 =>
   intro hb1
   first
   | (exfalso; simp at hb1; done)
   | (exfalso; simp at hb1; omega)
   | (
    have n1 : 0 ≤ szR a.sz 1048576 := by simp at hb1; omega
    have ha : a.ok := Prog.sz_ok (by omega)
    have hW : a.tw ≤ 2 ^ 30 := by omega
    have hl0 : a.caps.length ≤ 2 ^ 30 := by have := ha.1; omega
    have hl1 : a.sels.length ≤ 2 ^ 30 := by have := ha.2.1; omega
    have hl2 : a.procs.length ≤ 2 ^ 30 := by have := ha.2.2.2.1; omega
    refine SW.skip ?_; refine hK1 _ ?_; refine SW.rg fun K hK => ?_; simp -implicitDefEqProofs; iterate 2 (try refine ⟨by omega, ?_⟩)
    refine CallK.fzE (szDeedS_ok l (szR a.sz 1048576) fl (by omega) (by omega)) (by simp) ?_; simp -implicitDefEqProofs; repeat refine ⟨by omega, ?_⟩
    refine hK _ ?_; clear hK K; refine SW.seqK fun K2 hK2 => ?_; refine SW.rg fun K hK => ?_; simp -implicitDefEqProofs; repeat refine ⟨by omega, ?_⟩
    refine hK _ ?_; clear hK K; refine SW.cond _ rfl (by simp) ?_ ?_
    case' refine_2 =>
     intro hb2
     first
     | (exfalso; simp at hb2; done)
     | (exfalso; simp at hb2; omega)
     | (
      have n2 : 0 ≤ szR l.length (szR a.sz 1048576) := by simp at hb2; omega
      have hlm : l.length ≤ 1048576 := by omega
      refine SW.skip ?_; refine hK2 _ ?_; refine SW.rg fun K hK => ?_; simp -implicitDefEqProofs; iterate 2 (try refine ⟨by omega, ?_⟩)
      first
        | refine CallQ.fzE (toProg_ok a ha) (by simp) ?_
        | refine CallK.fzE (toProg_ok a ha) (by simp) ?_
      simp -implicitDefEqProofs; iterate 2 (try refine ⟨by omega, ?_⟩)
      first
        | refine CallQ.fzE (toDeedS_ok l hlm) (by simp) ?_
        | refine CallK.fzE (toDeedS_ok l hlm) (by simp) ?_
      simp -implicitDefEqProofs; iterate 2 (try refine ⟨by omega, ?_⟩)
      first
        | refine CallQ.fzE (swap_sn a l k x y ha hlm hx hy hm) (by simp) ?_
        | refine CallK.fzE (swap_sn a l k x y ha hlm hx hy hm) (by simp) ?_
      simp -implicitDefEqProofs; repeat refine ⟨by omega, ?_⟩
      refine hK _ ?_; clear hK K; refine SW.rg fun K hK => ?_; simp -implicitDefEqProofs; iterate 2 (try refine ⟨by omega, ?_⟩)
      refine CallK.imE (toProg_ok a ha) (by simp) (Prog_oI a) ?_; simp -implicitDefEqProofs; repeat refine ⟨by omega, ?_⟩
      refine hK _ ?_; clear hK K; refine SW.rg fun K hK => ?_; simp -implicitDefEqProofs; iterate 2 (try refine ⟨by omega, ?_⟩)
      refine CallK.imE (toDeedS_ok l hlm) (by simp) (DeedS_okI _) ?_; simp -implicitDefEqProofs; repeat refine ⟨by omega, ?_⟩
      refine hK _ ?_; clear hK K; refine SW.rg fun K hK => ?_; simp -implicitDefEqProofs; iterate 2 (try refine ⟨by omega, ?_⟩)
      first
        | refine CallQ.fzE (swap_in a l k x y ha hlm hx hy hm) (by simp) ?_
        | refine CallK.fzE (swap_in a l k x y ha hlm hx hy hm) (by simp) ?_
      simp -implicitDefEqProofs; repeat refine ⟨by omega, ?_⟩
      refine hK _ ?_; clear hK K; refine SW.seqK fun K3 hK3 => ?_; refine SW.rg fun K hK => ?_; simp -implicitDefEqProofs; iterate 2 (try refine ⟨by omega, ?_⟩)
      refine CallK.fzE (eqDeedS_nil) (by simp) ?_; simp -implicitDefEqProofs; repeat refine ⟨by omega, ?_⟩
      refine hK _ ?_; clear hK K; refine SW.cond _ rfl (by simp) ?_ ?_
      case' refine_2 =>
       intro hb3
       first
       | (exfalso; simp at hb3; done)
       | (exfalso; simp at hb3; omega)
       | (
        refine SW.skip ?_; refine hK3 _ ?_; refine SW.seqK fun K4 hK4 => ?_; refine SW.drawK mixed [.q [(0, false), (1, false), (2, false), (3, false), (4, false)]] (by kernel_rfl) rfl fun K hK => ?_; simp -implicitDefEqProofs
        iterate 2 (try refine ⟨by omega, ?_⟩)
        first
          | refine CallQ.fzE (toProg_ok a ha) (by simp) ?_
          | refine CallK.fzE (toProg_ok a ha) (by simp) ?_
        simp -implicitDefEqProofs; iterate 2 (try refine ⟨by omega, ?_⟩)
        refine CallQ.fzE (eqProg_ok a ha) (by simp) ?_; simp -implicitDefEqProofs; repeat refine ⟨by omega, ?_⟩
        refine hK _ ?_; clear hK K; refine SW.cond _ rfl (by simp) ?_ ?_
        case' refine_2 =>
         intro hb4
         first
         | (exfalso; simp at hb4; done)
         | (exfalso; simp at hb4; omega)
         | (
          refine SW.skip ?_; refine hK4 _ ?_; refine SW.seqK fun K5 hK5 => ?_; refine SW.rg fun K hK => ?_; simp -implicitDefEqProofs; iterate 2 (try refine ⟨by omega, ?_⟩)
          first
            | refine CallQ.fzE (toDeedS_ok l hlm) (by simp) ?_
            | refine CallK.fzE (toDeedS_ok l hlm) (by simp) ?_
          simp -implicitDefEqProofs; iterate 2 (try refine ⟨by omega, ?_⟩)
          refine CallK.fzE (eqDeedS_ok l hlm) (by simp) ?_; simp -implicitDefEqProofs; repeat refine ⟨by omega, ?_⟩
          refine hK _ ?_; clear hK K; refine SW.cond _ rfl (by simp) ?_ ?_
          case' refine_2 =>
           intro hb5
           first
           | (exfalso; simp at hb5; done)
           | (exfalso; simp at hb5; omega)
           | (
            refine SW.skip ?_; refine hK5 _ ?_; refine SW.rg fun K hK => ?_; simp -implicitDefEqProofs; repeat refine ⟨by omega, ?_⟩
            refine hK _ ?_; clear hK K; refine SW.rg fun K hK => ?_; simp -implicitDefEqProofs; iterate 2 (try refine ⟨by omega, ?_⟩)
            refine CallS.mono (mark_Prog a 1 _ 1 2 3 _ rfl (by simp) _ rfl (by simp) _ rfl (by simp) (by simp) hW hl0 hl1 hl2 (by omega) (by omega)) ?_
            rintro o h' ⟨rfl, m1, m2, rfl⟩
            simp -implicitDefEqProofs; repeat refine ⟨by omega, ?_⟩
            refine hK _ ?_; clear hK K; refine SW.rg fun K hK => ?_; simp -implicitDefEqProofs; iterate 2 (try refine ⟨by omega, ?_⟩)
            refine CallS.mono (mark_DeedS l (1 + (a.tw : Int)) _ 5 _ rfl (by simp) (by omega) (by omega) (by omega)) ?_
            rintro o h' ⟨rfl, rfl⟩
            simp -implicitDefEqProofs; repeat refine ⟨by omega, ?_⟩
            refine hK _ ?_; clear hK K; refine SW.seqK fun K6 hK6 => ?_; refine SW.rg fun K hK => ?_; simp -implicitDefEqProofs; iterate 2 (try refine ⟨by omega, ?_⟩)
            refine CallG.fzE (by simp) (fun _ => eqDeedS_nil) (by simp) ?_; simp -implicitDefEqProofs; repeat refine ⟨by omega, ?_⟩
            refine hK _ ?_; clear hK K; refine SW.cond _ rfl (by simp) ?_ ?_
            case' refine_2 =>
             intro hb6
             first
             | (exfalso; simp at hb6; done)
             | (exfalso; simp at hb6; omega)
             | (
              refine SW.skip ?_; refine hK6 _ ?_; refine SW.rg fun K hK => ?_; simp -implicitDefEqProofs; repeat refine ⟨by omega, ?_⟩
              refine hK _ ?_; clear hK K; refine SW.rg fun K hK => ?_; simp -implicitDefEqProofs; iterate 2 (try refine ⟨by omega, ?_⟩)
              refine CallS.mono (mark_DeedS_nil _ 1) ?_
              rintro o h' ⟨rfl, rfl⟩
              simp -implicitDefEqProofs; repeat refine ⟨by omega, ?_⟩
              refine hK _ ?_; clear hK K; refine SW.rg fun K hK => ?_; simp -implicitDefEqProofs; repeat refine ⟨by omega, ?_⟩
              refine hK _ ?_; clear hK K; refine SW.rg fun K hK => ?_; simp -implicitDefEqProofs; iterate 2 (try refine ⟨by omega, ?_⟩)
              refine CallK.fzE (held_DeedS_nil) (by simp) ?_; simp -implicitDefEqProofs; repeat refine ⟨by omega, ?_⟩
              refine hK _ ?_; clear hK K; refine SW.seqK fun K7 hK7 => ?_; refine SW.rg fun K hK => ?_; simp -implicitDefEqProofs; repeat refine ⟨by omega, ?_⟩
              refine hK _ ?_; clear hK K; refine SW.cond _ rfl (by simp) ?_ ?_
              case' refine_2 =>
               intro hb7
               first
               | (exfalso; simp at hb7; done)
               | (exfalso; simp at hb7; omega)
               | (
                refine SW.skip ?_; refine hK7 _ ?_; refine SW.seqK fun K8 hK8 => ?_; refine SW.rg fun K hK => ?_; simp -implicitDefEqProofs; repeat refine ⟨by omega, ?_⟩
                refine hK _ ?_; clear hK K; refine SW.cond _ rfl (by simp) ?_ ?_
                case' refine_2 =>
                 intro hb8
                 first
                 | (exfalso; simp at hb8; done)
                 | (exfalso; simp at hb8; omega)
                 | (
                  refine SW.skip ?_; refine hK8 _ ?_; refine SW.rg fun K hK => ?_; simp -implicitDefEqProofs; iterate 2 (try refine ⟨by omega, ?_⟩)
                  first
                    | refine CallQ.fzE (toProg_ok a ha) (by simp) ?_
                    | refine CallK.fzE (toProg_ok a ha) (by simp) ?_
                  simp -implicitDefEqProofs; iterate 2 (try refine ⟨by omega, ?_⟩)
                  first
                    | refine CallQ.fzE (toDeedS_ok l hlm) (by simp) ?_
                    | refine CallK.fzE (toDeedS_ok l hlm) (by simp) ?_
                  simp -implicitDefEqProofs; iterate 2 (try refine ⟨by omega, ?_⟩)
                  first
                    | refine CallQ.fzE (swap_in a l k x y ha hlm hx hy hm) (by simp) ?_
                    | refine CallK.fzE (swap_in a l k x y ha hlm hx hy hm) (by simp) ?_
                  simp -implicitDefEqProofs; repeat refine ⟨by omega, ?_⟩
                  refine hK _ ?_; clear hK K; refine SW.seqK fun K9 hK9 => ?_; refine SW.rg fun K hK => ?_; simp -implicitDefEqProofs; iterate 2 (try refine ⟨by omega, ?_⟩)
                  refine CallK.fzE (eqDeedS_nil) (by simp) ?_; simp -implicitDefEqProofs; repeat refine ⟨by omega, ?_⟩
                  refine hK _ ?_; clear hK K; refine SW.cond _ rfl (by simp) ?_ ?_
                  case' refine_2 =>
                   intro hb9
                   first
                   | (exfalso; simp at hb9; done)
                   | (exfalso; simp at hb9; omega)
                   | (
                    refine SW.skip ?_; refine hK9 _ ?_; refine SW.rg fun K hK => ?_; simp -implicitDefEqProofs; repeat refine ⟨by omega, ?_⟩
                    refine hK _ ?_; clear hK K; refine SW.rg fun K hK => ?_; simp -implicitDefEqProofs; iterate 2 (try refine ⟨by omega, ?_⟩)
                    refine CallK.fzE (held_DeedS_nil) (by simp) ?_; simp -implicitDefEqProofs; repeat refine ⟨by omega, ?_⟩
                    refine hK _ ?_; clear hK K; refine SW.seqK fun K10 hK10 => ?_; refine SW.rg fun K hK => ?_; simp -implicitDefEqProofs; repeat refine ⟨by omega, ?_⟩
                    refine hK _ ?_; clear hK K; refine SW.cond _ rfl (by simp) ?_ ?_
                    case' refine_2 =>
                     intro hb10
                     first
                     | (exfalso; simp at hb10; done)
                     | (exfalso; simp at hb10; omega)
                     | (
                      refine SW.skip ?_; refine hK10 _ ?_; refine SW.seqK fun K11 hK11 => ?_; refine SW.rg fun K hK => ?_; simp -implicitDefEqProofs; repeat refine ⟨by omega, ?_⟩
                      refine hK _ ?_; clear hK K; refine SW.cond _ rfl (by simp) ?_ ?_
                      case' refine_2 =>
                       intro hb11
                       first
                       | (exfalso; simp at hb11; done)
                       | (exfalso; simp at hb11; omega)
                       | (
                        refine SW.skip ?_; refine hK11 _ ?_; refine SW.rg fun K hK => ?_; simp -implicitDefEqProofs; repeat refine ⟨by omega, ?_⟩
                        refine hK _ ?_; clear hK K; refine SW.ret ?_
                        simp [Ex.then, Ex.ib])
                      rotate_right
                      case' _ =>
                       intro hb11
                       first
                       | (exfalso; simp at hb11; done)
                       | (exfalso; simp at hb11; omega)
                       | (
                        refine SW.rg fun K hK => ?_; simp -implicitDefEqProofs; repeat refine ⟨by omega, ?_⟩
                        refine hK _ ?_; clear hK K; refine SW.ret ?_
                        simp [Ex.then, Ex.ib]))
                    rotate_right
                    case' _ =>
                     intro hb10
                     first
                     | (exfalso; simp at hb10; done)
                     | (exfalso; simp at hb10; omega)
                     | (
                      refine SW.rg fun K hK => ?_; simp -implicitDefEqProofs; repeat refine ⟨by omega, ?_⟩
                      refine hK _ ?_; clear hK K; refine SW.ret ?_
                      simp [Ex.then, Ex.ib]))
                  rotate_right
                  case' _ =>
                   intro hb9
                   first
                   | (exfalso; simp at hb9; done)
                   | (exfalso; simp at hb9; omega)
                   | (
                    refine SW.rg fun K hK => ?_; simp -implicitDefEqProofs; repeat refine ⟨by omega, ?_⟩
                    refine hK _ ?_; clear hK K; refine SW.ret ?_
                    simp [Ex.then, Ex.ib]))
                rotate_right
                case' _ =>
                 intro hb8
                 first
                 | (exfalso; simp at hb8; done)
                 | (exfalso; simp at hb8; omega)
                 | (
                  refine SW.rg fun K hK => ?_; simp -implicitDefEqProofs; repeat refine ⟨by omega, ?_⟩
                  refine hK _ ?_; clear hK K; refine SW.ret ?_
                  simp [Ex.then, Ex.ib]))
              rotate_right
              case' _ =>
               intro hb7
               first
               | (exfalso; simp at hb7; done)
               | (exfalso; simp at hb7; omega)
               | (
                refine SW.rg fun K hK => ?_; simp -implicitDefEqProofs; repeat refine ⟨by omega, ?_⟩
                refine hK _ ?_; clear hK K; refine SW.ret ?_
                simp [Ex.then, Ex.ib]))
            rotate_right
            case' _ =>
             intro hb6
             first
             | (exfalso; simp at hb6; done)
             | (exfalso; simp at hb6; omega)
             | (
              refine SW.rg fun K hK => ?_; simp -implicitDefEqProofs; repeat refine ⟨by omega, ?_⟩
              refine hK _ ?_; clear hK K; refine SW.ret ?_
              simp [Ex.then, Ex.ib]))
          rotate_right
          case' _ =>
           intro hb5
           first
           | (exfalso; simp at hb5; done)
           | (exfalso; simp at hb5; omega)
           | (
            refine SW.rg fun K hK => ?_; simp -implicitDefEqProofs; repeat refine ⟨by omega, ?_⟩
            refine hK _ ?_; clear hK K; refine SW.ret ?_
            simp [Ex.then, Ex.ib]))
        rotate_right
        case' _ =>
         intro hb4
         first
         | (exfalso; simp at hb4; done)
         | (exfalso; simp at hb4; omega)
         | (
          refine SW.rg fun K hK => ?_; simp -implicitDefEqProofs; repeat refine ⟨by omega, ?_⟩
          refine hK _ ?_; clear hK K; refine SW.ret ?_
          simp [Ex.then, Ex.ib]))
      rotate_right
      case' _ =>
       intro hb3
       first
       | (exfalso; simp at hb3; done)
       | (exfalso; simp at hb3; omega)
       | (
        refine SW.rg fun K hK => ?_; simp -implicitDefEqProofs; repeat refine ⟨by omega, ?_⟩
        refine hK _ ?_; clear hK K; refine SW.ret ?_
        simp [Ex.then, Ex.ib]))
    rotate_right
    case' _ =>
     intro hb2
     first
     | (exfalso; simp at hb2; done)
     | (exfalso; simp at hb2; omega)
     | (
      refine SW.rg fun K hK => ?_; simp -implicitDefEqProofs; repeat refine ⟨by omega, ?_⟩
      refine hK _ ?_; clear hK K; refine SW.ret ?_
      simp [Ex.then, Ex.ib]))
  rotate_right
  case' _ =>
   intro hb1
   first
   | (exfalso; simp at hb1; done)
   | (exfalso; simp at hb1; omega)
   | (
    refine SW.rg fun K hK => ?_; simp -implicitDefEqProofs; repeat refine ⟨by omega, ?_⟩
    refine hK _ ?_; clear hK K; refine SW.ret ?_
    simp [Ex.then, Ex.ib])
set_option maxHeartbeats 1000000 in
theorem law_swapM (a : Prog) (l : List Deed) (n : Int) (fa : a.fit) (fl : l.length ≤ maxLen) (hn : n < 0 ∨ (l.length : Int) - 1 ≤ n) : Fn Tryz.prog 3 [.agg a.fr, .fz (DeedS l), .int .i64 n] (.bool true) := by
  refine Fn.intro Tryz.func3 (by decide) rfl (rs := [.tmp 6]) rfl Tryz.ntmps3 (by simp) ?_; have q1 := szR_cases a.sz 1048576
  have q2 := szR_cases l.length (szR a.sz 1048576)
  have qt := Prog.tw_le a
  refine SW.rg fun K hK => ?_; simp -implicitDefEqProofs; repeat refine ⟨by omega, ?_⟩
  refine hK _ ?_; clear hK K; refine SW.rg fun K hK => ?_; simp -implicitDefEqProofs; repeat refine ⟨by omega, ?_⟩
  refine hK _ ?_; clear hK K; refine SW.rg fun K hK => ?_; simp -implicitDefEqProofs; iterate 2 (try refine ⟨by omega, ?_⟩)
  refine CallK.fzE (szProg_ok a 1048576 fa (by omega) (by omega)) (by simp) ?_; simp -implicitDefEqProofs; repeat refine ⟨by omega, ?_⟩
  refine hK _ ?_; clear hK K; refine SW.seqK fun K1 hK1 => ?_; refine SW.rg fun K hK => ?_; simp -implicitDefEqProofs; repeat refine ⟨by omega, ?_⟩
  refine hK _ ?_; clear hK K; refine SW.cond _ rfl (by simp) ?_ ?_
  case' refine_2 =>
   intro hb1
   first
   | (exfalso; simp at hb1; done)
   | (exfalso; simp at hb1; omega)
   | (
    have n1 : 0 ≤ szR a.sz 1048576 := by simp at hb1; omega
    have ha : a.ok := Prog.sz_ok (by omega)
    have hW : a.tw ≤ 2 ^ 30 := by omega
    have hl0 : a.caps.length ≤ 2 ^ 30 := by have := ha.1; omega
    have hl1 : a.sels.length ≤ 2 ^ 30 := by have := ha.2.1; omega
    have hl2 : a.procs.length ≤ 2 ^ 30 := by have := ha.2.2.2.1; omega
    refine SW.skip ?_; refine hK1 _ ?_; refine SW.rg fun K hK => ?_; simp -implicitDefEqProofs; iterate 2 (try refine ⟨by omega, ?_⟩)
    refine CallK.fzE (szDeedS_ok l (szR a.sz 1048576) fl (by omega) (by omega)) (by simp) ?_; simp -implicitDefEqProofs; repeat refine ⟨by omega, ?_⟩
    refine hK _ ?_; clear hK K; refine SW.seqK fun K2 hK2 => ?_; refine SW.rg fun K hK => ?_; simp -implicitDefEqProofs; repeat refine ⟨by omega, ?_⟩
    refine hK _ ?_; clear hK K; refine SW.cond _ rfl (by simp) ?_ ?_
    case' refine_2 =>
     intro hb2
     first
     | (exfalso; simp at hb2; done)
     | (exfalso; simp at hb2; omega)
     | (
      have n2 : 0 ≤ szR l.length (szR a.sz 1048576) := by simp at hb2; omega
      have hlm : l.length ≤ 1048576 := by omega
      refine SW.skip ?_; refine hK2 _ ?_; refine SW.rg fun K hK => ?_; simp -implicitDefEqProofs; iterate 2 (try refine ⟨by omega, ?_⟩)
      first
        | refine CallQ.fzE (toProg_ok a ha) (by simp) ?_
        | refine CallK.fzE (toProg_ok a ha) (by simp) ?_
      simp -implicitDefEqProofs; iterate 2 (try refine ⟨by omega, ?_⟩)
      first
        | refine CallQ.fzE (toDeedS_ok l hlm) (by simp) ?_
        | refine CallK.fzE (toDeedS_ok l hlm) (by simp) ?_
      simp -implicitDefEqProofs; iterate 2 (try refine ⟨by omega, ?_⟩)
      first
        | refine CallQ.fzE (swap_sm a l n ha hlm hn) (by simp) ?_
        | refine CallK.fzE (swap_sm a l n ha hlm hn) (by simp) ?_
      simp -implicitDefEqProofs; repeat refine ⟨by omega, ?_⟩
      refine hK _ ?_; clear hK K; refine SW.rg fun K hK => ?_; simp -implicitDefEqProofs; iterate 2 (try refine ⟨by omega, ?_⟩)
      refine CallK.imE (toProg_ok a ha) (by simp) (Prog_oI a) ?_; simp -implicitDefEqProofs; repeat refine ⟨by omega, ?_⟩
      refine hK _ ?_; clear hK K; refine SW.rg fun K hK => ?_; simp -implicitDefEqProofs; iterate 2 (try refine ⟨by omega, ?_⟩)
      refine CallK.imE (toDeedS_ok l hlm) (by simp) (DeedS_okI _) ?_; simp -implicitDefEqProofs; repeat refine ⟨by omega, ?_⟩
      refine hK _ ?_; clear hK K; refine SW.rg fun K hK => ?_; simp -implicitDefEqProofs; iterate 2 (try refine ⟨by omega, ?_⟩)
      first
        | refine CallQ.fzE (swap_im a l n ha hlm hn) (by simp) ?_
        | refine CallK.fzE (swap_im a l n ha hlm hn) (by simp) ?_
      simp -implicitDefEqProofs; repeat refine ⟨by omega, ?_⟩
      refine hK _ ?_; clear hK K; refine SW.seqK fun K3 hK3 => ?_; refine SW.rg fun K hK => ?_; simp -implicitDefEqProofs; iterate 2 (try refine ⟨by omega, ?_⟩)
      refine CallK.fzE (eqDeedS_nil) (by simp) ?_; simp -implicitDefEqProofs; repeat refine ⟨by omega, ?_⟩
      refine hK _ ?_; clear hK K; refine SW.cond _ rfl (by simp) ?_ ?_
      case' refine_2 =>
       intro hb3
       first
       | (exfalso; simp at hb3; done)
       | (exfalso; simp at hb3; omega)
       | (
        refine SW.skip ?_; refine hK3 _ ?_; refine SW.seqK fun K4 hK4 => ?_; refine SW.drawK mixed [.q [(0, false), (1, false), (2, false), (3, false), (4, false)]] (by kernel_rfl) rfl fun K hK => ?_; simp -implicitDefEqProofs
        iterate 2 (try refine ⟨by omega, ?_⟩)
        first
          | refine CallQ.fzE (toProg_ok a ha) (by simp) ?_
          | refine CallK.fzE (toProg_ok a ha) (by simp) ?_
        simp -implicitDefEqProofs; iterate 2 (try refine ⟨by omega, ?_⟩)
        refine CallQ.fzE (eqProg_ok a ha) (by simp) ?_; simp -implicitDefEqProofs; repeat refine ⟨by omega, ?_⟩
        refine hK _ ?_; clear hK K; refine SW.cond _ rfl (by simp) ?_ ?_
        case' refine_2 =>
         intro hb4
         first
         | (exfalso; simp at hb4; done)
         | (exfalso; simp at hb4; omega)
         | (
          refine SW.skip ?_; refine hK4 _ ?_; refine SW.seqK fun K5 hK5 => ?_; refine SW.rg fun K hK => ?_; simp -implicitDefEqProofs; iterate 2 (try refine ⟨by omega, ?_⟩)
          first
            | refine CallQ.fzE (toDeedS_ok l hlm) (by simp) ?_
            | refine CallK.fzE (toDeedS_ok l hlm) (by simp) ?_
          simp -implicitDefEqProofs; iterate 2 (try refine ⟨by omega, ?_⟩)
          refine CallK.fzE (eqDeedS_ok l hlm) (by simp) ?_; simp -implicitDefEqProofs; repeat refine ⟨by omega, ?_⟩
          refine hK _ ?_; clear hK K; refine SW.cond _ rfl (by simp) ?_ ?_
          case' refine_2 =>
           intro hb5
           first
           | (exfalso; simp at hb5; done)
           | (exfalso; simp at hb5; omega)
           | (
            refine SW.skip ?_; refine hK5 _ ?_; refine SW.rg fun K hK => ?_; simp -implicitDefEqProofs; repeat refine ⟨by omega, ?_⟩
            refine hK _ ?_; clear hK K; refine SW.rg fun K hK => ?_; simp -implicitDefEqProofs; iterate 2 (try refine ⟨by omega, ?_⟩)
            refine CallS.mono (mark_Prog a 1 _ 1 2 3 _ rfl (by simp) _ rfl (by simp) _ rfl (by simp) (by simp) hW hl0 hl1 hl2 (by omega) (by omega)) ?_
            rintro o h' ⟨rfl, m1, m2, rfl⟩
            simp -implicitDefEqProofs; repeat refine ⟨by omega, ?_⟩
            refine hK _ ?_; clear hK K; refine SW.rg fun K hK => ?_; simp -implicitDefEqProofs; iterate 2 (try refine ⟨by omega, ?_⟩)
            refine CallS.mono (mark_DeedS l (1 + (a.tw : Int)) _ 5 _ rfl (by simp) (by omega) (by omega) (by omega)) ?_
            rintro o h' ⟨rfl, rfl⟩
            simp -implicitDefEqProofs; repeat refine ⟨by omega, ?_⟩
            refine hK _ ?_; clear hK K; refine SW.seqK fun K6 hK6 => ?_; refine SW.rg fun K hK => ?_; simp -implicitDefEqProofs; iterate 2 (try refine ⟨by omega, ?_⟩)
            refine CallG.fzE (by simp) (fun _ => eqDeedS_nil) (by simp) ?_; simp -implicitDefEqProofs; repeat refine ⟨by omega, ?_⟩
            refine hK _ ?_; clear hK K; refine SW.cond _ rfl (by simp) ?_ ?_
            case' refine_2 =>
             intro hb6
             first
             | (exfalso; simp at hb6; done)
             | (exfalso; simp at hb6; omega)
             | (
              refine SW.skip ?_; refine hK6 _ ?_; refine SW.rg fun K hK => ?_; simp -implicitDefEqProofs; repeat refine ⟨by omega, ?_⟩
              refine hK _ ?_; clear hK K; refine SW.rg fun K hK => ?_; simp -implicitDefEqProofs; iterate 2 (try refine ⟨by omega, ?_⟩)
              refine CallS.mono (mark_DeedS_nil _ 1) ?_
              rintro o h' ⟨rfl, rfl⟩
              simp -implicitDefEqProofs; repeat refine ⟨by omega, ?_⟩
              refine hK _ ?_; clear hK K; refine SW.rg fun K hK => ?_; simp -implicitDefEqProofs; repeat refine ⟨by omega, ?_⟩
              refine hK _ ?_; clear hK K; refine SW.rg fun K hK => ?_; simp -implicitDefEqProofs; iterate 2 (try refine ⟨by omega, ?_⟩)
              refine CallK.fzE (held_DeedS_nil) (by simp) ?_; simp -implicitDefEqProofs; repeat refine ⟨by omega, ?_⟩
              refine hK _ ?_; clear hK K; refine SW.seqK fun K7 hK7 => ?_; refine SW.rg fun K hK => ?_; simp -implicitDefEqProofs; repeat refine ⟨by omega, ?_⟩
              refine hK _ ?_; clear hK K; refine SW.cond _ rfl (by simp) ?_ ?_
              case' refine_2 =>
               intro hb7
               first
               | (exfalso; simp at hb7; done)
               | (exfalso; simp at hb7; omega)
               | (
                refine SW.skip ?_; refine hK7 _ ?_; refine SW.seqK fun K8 hK8 => ?_; refine SW.rg fun K hK => ?_; simp -implicitDefEqProofs; repeat refine ⟨by omega, ?_⟩
                refine hK _ ?_; clear hK K; refine SW.cond _ rfl (by simp) ?_ ?_
                case' refine_2 =>
                 intro hb8
                 first
                 | (exfalso; simp at hb8; done)
                 | (exfalso; simp at hb8; omega)
                 | (
                  refine SW.skip ?_; refine hK8 _ ?_; refine SW.rg fun K hK => ?_; simp -implicitDefEqProofs; iterate 2 (try refine ⟨by omega, ?_⟩)
                  first
                    | refine CallQ.fzE (toProg_ok a ha) (by simp) ?_
                    | refine CallK.fzE (toProg_ok a ha) (by simp) ?_
                  simp -implicitDefEqProofs; iterate 2 (try refine ⟨by omega, ?_⟩)
                  first
                    | refine CallQ.fzE (toDeedS_ok l hlm) (by simp) ?_
                    | refine CallK.fzE (toDeedS_ok l hlm) (by simp) ?_
                  simp -implicitDefEqProofs; iterate 2 (try refine ⟨by omega, ?_⟩)
                  first
                    | refine CallQ.fzE (swap_im a l n ha hlm hn) (by simp) ?_
                    | refine CallK.fzE (swap_im a l n ha hlm hn) (by simp) ?_
                  simp -implicitDefEqProofs; repeat refine ⟨by omega, ?_⟩
                  refine hK _ ?_; clear hK K; refine SW.seqK fun K9 hK9 => ?_; refine SW.rg fun K hK => ?_; simp -implicitDefEqProofs; iterate 2 (try refine ⟨by omega, ?_⟩)
                  refine CallK.fzE (eqDeedS_nil) (by simp) ?_; simp -implicitDefEqProofs; repeat refine ⟨by omega, ?_⟩
                  refine hK _ ?_; clear hK K; refine SW.cond _ rfl (by simp) ?_ ?_
                  case' refine_2 =>
                   intro hb9
                   first
                   | (exfalso; simp at hb9; done)
                   | (exfalso; simp at hb9; omega)
                   | (
                    refine SW.skip ?_; refine hK9 _ ?_; refine SW.rg fun K hK => ?_; simp -implicitDefEqProofs; repeat refine ⟨by omega, ?_⟩
                    refine hK _ ?_; clear hK K; refine SW.rg fun K hK => ?_; simp -implicitDefEqProofs; iterate 2 (try refine ⟨by omega, ?_⟩)
                    refine CallK.fzE (held_DeedS_nil) (by simp) ?_; simp -implicitDefEqProofs; repeat refine ⟨by omega, ?_⟩
                    refine hK _ ?_; clear hK K; refine SW.seqK fun K10 hK10 => ?_; refine SW.rg fun K hK => ?_; simp -implicitDefEqProofs; repeat refine ⟨by omega, ?_⟩
                    refine hK _ ?_; clear hK K; refine SW.cond _ rfl (by simp) ?_ ?_
                    case' refine_2 =>
                     intro hb10
                     first
                     | (exfalso; simp at hb10; done)
                     | (exfalso; simp at hb10; omega)
                     | (
                      refine SW.skip ?_; refine hK10 _ ?_; refine SW.seqK fun K11 hK11 => ?_; refine SW.rg fun K hK => ?_; simp -implicitDefEqProofs; repeat refine ⟨by omega, ?_⟩
                      refine hK _ ?_; clear hK K; refine SW.cond _ rfl (by simp) ?_ ?_
                      case' refine_2 =>
                       intro hb11
                       first
                       | (exfalso; simp at hb11; done)
                       | (exfalso; simp at hb11; omega)
                       | (
                        refine SW.skip ?_; refine hK11 _ ?_; refine SW.rg fun K hK => ?_; simp -implicitDefEqProofs; repeat refine ⟨by omega, ?_⟩
                        refine hK _ ?_; clear hK K; refine SW.ret ?_
                        simp [Ex.then, Ex.ib])
                      rotate_right
                      case' _ =>
                       intro hb11
                       first
                       | (exfalso; simp at hb11; done)
                       | (exfalso; simp at hb11; omega)
                       | (
                        refine SW.rg fun K hK => ?_; simp -implicitDefEqProofs; repeat refine ⟨by omega, ?_⟩
                        refine hK _ ?_; clear hK K; refine SW.ret ?_
                        simp [Ex.then, Ex.ib]))
                    rotate_right
                    case' _ =>
                     intro hb10
                     first
                     | (exfalso; simp at hb10; done)
                     | (exfalso; simp at hb10; omega)
                     | (
                      refine SW.rg fun K hK => ?_; simp -implicitDefEqProofs; repeat refine ⟨by omega, ?_⟩
                      refine hK _ ?_; clear hK K; refine SW.ret ?_
                      simp [Ex.then, Ex.ib]))
                  rotate_right
                  case' _ =>
                   intro hb9
                   first
                   | (exfalso; simp at hb9; done)
                   | (exfalso; simp at hb9; omega)
                   | (
                    refine SW.rg fun K hK => ?_; simp -implicitDefEqProofs; repeat refine ⟨by omega, ?_⟩
                    refine hK _ ?_; clear hK K; refine SW.ret ?_
                    simp [Ex.then, Ex.ib]))
                rotate_right
                case' _ =>
                 intro hb8
                 first
                 | (exfalso; simp at hb8; done)
                 | (exfalso; simp at hb8; omega)
                 | (
                  refine SW.rg fun K hK => ?_; simp -implicitDefEqProofs; repeat refine ⟨by omega, ?_⟩
                  refine hK _ ?_; clear hK K; refine SW.ret ?_
                  simp [Ex.then, Ex.ib]))
              rotate_right
              case' _ =>
               intro hb7
               first
               | (exfalso; simp at hb7; done)
               | (exfalso; simp at hb7; omega)
               | (
                refine SW.rg fun K hK => ?_; simp -implicitDefEqProofs; repeat refine ⟨by omega, ?_⟩
                refine hK _ ?_; clear hK K; refine SW.ret ?_
                simp [Ex.then, Ex.ib]))
            rotate_right
            case' _ =>
             intro hb6
             first
             | (exfalso; simp at hb6; done)
             | (exfalso; simp at hb6; omega)
             | (
              refine SW.rg fun K hK => ?_; simp -implicitDefEqProofs; repeat refine ⟨by omega, ?_⟩
              refine hK _ ?_; clear hK K; refine SW.ret ?_
              simp [Ex.then, Ex.ib]))
          rotate_right
          case' _ =>
           intro hb5
           first
           | (exfalso; simp at hb5; done)
           | (exfalso; simp at hb5; omega)
           | (
            refine SW.rg fun K hK => ?_; simp -implicitDefEqProofs; repeat refine ⟨by omega, ?_⟩
            refine hK _ ?_; clear hK K; refine SW.ret ?_
            simp [Ex.then, Ex.ib]))
        rotate_right
        case' _ =>
         intro hb4
         first
         | (exfalso; simp at hb4; done)
         | (exfalso; simp at hb4; omega)
         | (
          refine SW.rg fun K hK => ?_; simp -implicitDefEqProofs; repeat refine ⟨by omega, ?_⟩
          refine hK _ ?_; clear hK K; refine SW.ret ?_
          simp [Ex.then, Ex.ib]))
      rotate_right
      case' _ =>
       intro hb3
       first
       | (exfalso; simp at hb3; done)
       | (exfalso; simp at hb3; omega)
       | (
        refine SW.rg fun K hK => ?_; simp -implicitDefEqProofs; repeat refine ⟨by omega, ?_⟩
        refine hK _ ?_; clear hK K; refine SW.ret ?_
        simp [Ex.then, Ex.ib]))
    rotate_right
    case' _ =>
     intro hb2
     first
     | (exfalso; simp at hb2; done)
     | (exfalso; simp at hb2; omega)
     | (
      refine SW.rg fun K hK => ?_; simp -implicitDefEqProofs; repeat refine ⟨by omega, ?_⟩
      refine hK _ ?_; clear hK K; refine SW.ret ?_
      simp [Ex.then, Ex.ib]))
  rotate_right
  case' _ =>
   intro hb1
   first
   | (exfalso; simp at hb1; done)
   | (exfalso; simp at hb1; omega)
   | (
    refine SW.rg fun K hK => ?_; simp -implicitDefEqProofs; repeat refine ⟨by omega, ?_⟩
    refine hK _ ?_; clear hK K; refine SW.ret ?_
    simp [Ex.then, Ex.ib])
theorem law_swap (a : Prog) (l : List Deed) (n : Int) (fa : a.fit) (fl : l.length ≤ maxLen) : Fn Tryz.prog 3 [.agg a.fr, .fz (DeedS l), .int .i64 n] (.bool true) := by
  by_cases hn : n < 0 ∨ (l.length : Int) - 1 ≤ n
  · exact law_swapM a l n fa fl hn
  · obtain ⟨k, rfl⟩ : ∃ k : Nat, n = k := ⟨n.toNat, by omega⟩
    obtain ⟨x, hx⟩ : ∃ x, l[k]? = some x := ⟨_, List.getElem?_eq_getElem (by omega)⟩
    obtain ⟨y, hy⟩ : ∃ y, l[k + 1]? = some y := ⟨_, List.getElem?_eq_getElem (by omega)⟩
    cases hm : meet a x y with
    | false => exact law_swapY a l k x y fa fl hx hy hm
    | true => exact law_swapN a l k x y fa fl hx hy hm
end HT
