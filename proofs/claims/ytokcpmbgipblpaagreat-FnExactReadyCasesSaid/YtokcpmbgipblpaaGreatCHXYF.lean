import Derived.Test.YtokcpmbgipblpaaGreatCHXYA
import Derived.Test.YtokcpmbgipblpaaGreatCHXY6
import Derived.Test.YtokcpmbgipblpaaGreatCHXTVE
import Derived.Test.YtokcpmbgipblpaaGreatCG13
/-
  My own texts (road H): HXYF.
-/
set_option linter.unusedSimpArgs false
set_option linter.unusedVariables false
namespace HT
open Go Go.Proofs HK
theorem rc0_s (p : Prog) (e : Eng) (h : p.ok) (he : e.ok) (n : Int) (hN : asked p e n = false ∨ ∃ (k : Nat) (g : Gor), n = k ∧ e.gs[k]? = some g ∧ asked p e k = true ∧ gorOk p g = true ∧ ¬ (atI p g).op = 11) : Fn Tryz.prog 22 [.agg p.fr, .agg e.fr, .int .i64 n] .nil := by
  rcases hN with hA | ⟨k, g, rfl, hg, hA, hk, ho⟩
  · exact rcN_s p e h he n hA
  · exact rcM_s p e h he k g hg hA hk ho
theorem rc0_i (p : Prog) (e : Eng) (h : p.ok) (he : e.ok) (n : Int) (hN : asked p e n = false ∨ ∃ (k : Nat) (g : Gor), n = k ∧ e.gs[k]? = some g ∧ asked p e k = true ∧ gorOk p g = true ∧ ¬ (atI p g).op = 11) : Fn Tryz.prog 23 [.agg p.fr, .agg e.fr, .int .i64 n] .nil := by
  rcases hN with hA | ⟨k, g, rfl, hg, hA, hk, ho⟩
  · exact rcN_i p e h he n hA
  · exact rcM_i p e h he k g hg hA hk ho
set_option maxHeartbeats 1000000 in
theorem law_rcY (a : Prog) (b : Eng) (fa : a.fit) (fb : b.fit) (k : Nat) (g : Gor) (hg : b.gs[k]? = some g) (hA : asked a b k = true) (hk : gorOk a g = true) (ho : (atI a g).op = 11) (m : Nat) (s : Select) (hm : (atI a g).a = m) (hs : a.sels[m]? = some s) : Fn Tryz.prog 7 [.agg a.fr, .agg b.fr, .int .i64 k] (.bool true) := by
  refine Fn.intro Tryz.func7 (by decide) rfl (rs := [.tmp 6]) rfl Tryz.ntmps7 (by simp) ?_; have q1 := szR_cases a.sz 1048576
  have q2 := szR_cases b.sz (szR a.sz 1048576)
  have qt := Prog.tw_le a
  have qe := Eng.tw_le b
  refine SW.rg fun K hK => ?_; simp -implicitDefEqProofs; repeat refine ⟨by omega, ?_⟩
  refine hK _ ?_; clear hK K; refine SW.rg fun K hK => ?_; simp -implicitDefEqProofs; repeat refine ⟨by omega, ?_⟩
  refine hK _ ?_; clear hK K; refine SW.rg fun K hK => ?_; simp -implicitDefEqProofs; iterate 2 (try refine ⟨by omega, ?_⟩)
  refine CallK.fzE (szProg_ok a 1048576 fa (by omega) (by omega)) (by simp) ?_; simp -implicitDefEqProofs; repeat refine ⟨by omega, ?_⟩
  refine hK _ ?_; clear hK K; refine SW.seqK fun K1 hK1 => ?_; refine SW.rg fun K hK => ?_; simp -implicitDefEqProofs; repeat refine ⟨by omega, ?_⟩
  refine hK _ ?_; clear hK K; refine SW.cond _ rfl (by simp) ?_ ?_
  case' refine_2 =>
   intro hb1
   first
   | (exfalso; simp at hb1; done)
   | (exfalso; simp at hb1; omega)
   | (
    have n1 : 0 ≤ szR a.sz 1048576 := by simp at hb1; omega
    have ha : a.ok := Prog.sz_ok (by omega)
    have hW : a.tw ≤ 2 ^ 30 := by omega
    have hl0 : a.caps.length ≤ 2 ^ 30 := by have := ha.1; omega
    have hl1 : a.sels.length ≤ 2 ^ 30 := by have := ha.2.1; omega
    have hl2 : a.procs.length ≤ 2 ^ 30 := by have := ha.2.2.2.1; omega
    refine SW.skip ?_; refine hK1 _ ?_; refine SW.rg fun K hK => ?_; simp -implicitDefEqProofs; iterate 2 (try refine ⟨by omega, ?_⟩)
    refine CallK.fzE (szEng_ok b (szR a.sz 1048576) fb (by omega) (by omega)) (by simp) ?_; simp -implicitDefEqProofs; repeat refine ⟨by omega, ?_⟩
    refine hK _ ?_; clear hK K; refine SW.seqK fun K2 hK2 => ?_; refine SW.rg fun K hK => ?_; simp -implicitDefEqProofs; repeat refine ⟨by omega, ?_⟩
    refine hK _ ?_; clear hK K; refine SW.cond _ rfl (by simp) ?_ ?_
    case' refine_2 =>
     intro hb2
     first
     | (exfalso; simp at hb2; done)
     | (exfalso; simp at hb2; omega)
     | (
      have n2 : 0 ≤ szR b.sz (szR a.sz 1048576) := by simp at hb2; omega
      have hb : b.ok := Eng.sz_ok (by omega)
      have hWe : b.tw ≤ 2 ^ 30 := by omega
      have he0 : b.gs.length ≤ 2 ^ 30 := by have := hb.1; omega
      have he1 : b.chans.length ≤ 2 ^ 30 := by have := hb.2.2.1; omega
      have he2 : b.mus.length ≤ 2 ^ 30 := by have := hb.2.2.2.2.1; omega
      have hl : s.cases.length ≤ 1048576 := ha.2.2.1 s (List.mem_of_getElem? hs)
      have hrl := rdy_len b s.cases 0
      refine SW.skip ?_; refine hK2 _ ?_; refine SW.drawK mixed [.q [(0, false), (1, false), (2, false), (3, false), (4, false), (5, false), (6, false)]] (by kernel_rfl) rfl fun K hK => ?_; simp -implicitDefEqProofs
      iterate 2 (try refine ⟨by omega, ?_⟩)
      first
        | refine CallQ.fzE (toProg_ok a ha) (by simp) ?_
        | refine CallK.fzE (toProg_ok a ha) (by simp) ?_
      simp -implicitDefEqProofs; iterate 2 (try refine ⟨by omega, ?_⟩)
      first
        | refine CallQ.fzE (toEng_ok b hb) (by simp) ?_
        | refine CallK.fzE (toEng_ok b hb) (by simp) ?_
      simp -implicitDefEqProofs; iterate 2 (try refine ⟨by omega, ?_⟩)
      first
        | refine CallQ.fzE (rcY_s a b ha hb k g hg hA hk ho m s hm hs hl) (by simp) ?_
        | refine CallK.fzE (rcY_s a b ha hb k g hg hA hk ho m s hm hs hl) (by simp) ?_
      simp -implicitDefEqProofs; repeat refine ⟨by omega, ?_⟩
      refine hK _ ?_; clear hK K; refine SW.rg fun K hK => ?_; simp -implicitDefEqProofs; iterate 2 (try refine ⟨by omega, ?_⟩)
      refine CallK.imE (toProg_ok a ha) (by simp) (Prog_oI a) ?_; simp -implicitDefEqProofs; repeat refine ⟨by omega, ?_⟩
      refine hK _ ?_; clear hK K; refine SW.rg fun K hK => ?_; simp -implicitDefEqProofs; iterate 2 (try refine ⟨by omega, ?_⟩)
      refine CallK.imE (toEng_ok b hb) (by simp) (Eng_oI b) ?_; simp -implicitDefEqProofs; repeat refine ⟨by omega, ?_⟩
      refine hK _ ?_; clear hK K; refine SW.rg fun K hK => ?_; simp -implicitDefEqProofs; iterate 2 (try refine ⟨by omega, ?_⟩)
      refine CallK.imE (rcY_i a b ha hb k g hg hA hk ho m s hm hs hl) (by simp) (by simp [okI]) ?_; simp -implicitDefEqProofs; repeat refine ⟨by omega, ?_⟩
      refine hK _ ?_; clear hK K; refine SW.seqK fun K3 hK3 => ?_; refine SW.rg fun K hK => ?_; simp -implicitDefEqProofs; iterate 2 (try refine ⟨by omega, ?_⟩)
      refine CallK.fzE (eqIntS_ok (rdy b 0 s.cases) (by omega)) (by simp) ?_; simp -implicitDefEqProofs; repeat refine ⟨by omega, ?_⟩
      refine hK _ ?_; clear hK K; refine SW.cond _ rfl (by simp) ?_ ?_
      case' refine_2 =>
       intro hb3
       first
       | (exfalso; simp at hb3; done)
       | (exfalso; simp at hb3; omega)
       | (
        refine SW.skip ?_; refine hK3 _ ?_; refine SW.seqK fun K4 hK4 => ?_; refine SW.drawK mixed [.q [(0, false), (1, false), (2, false), (3, false), (4, false)]] (by kernel_rfl) rfl fun K hK => ?_; simp -implicitDefEqProofs
        iterate 2 (try refine ⟨by omega, ?_⟩)
        first
          | refine CallQ.fzE (toProg_ok a ha) (by simp) ?_
          | refine CallK.fzE (toProg_ok a ha) (by simp) ?_
        simp -implicitDefEqProofs; iterate 2 (try refine ⟨by omega, ?_⟩)
        refine CallQ.fzE (eqProg_ok a ha) (by simp) ?_; simp -implicitDefEqProofs; repeat refine ⟨by omega, ?_⟩
        refine hK _ ?_; clear hK K; refine SW.cond _ rfl (by simp) ?_ ?_
        case' refine_2 =>
         intro hb4
         first
         | (exfalso; simp at hb4; done)
         | (exfalso; simp at hb4; omega)
         | (
          refine SW.skip ?_; refine hK4 _ ?_; refine SW.seqK fun K5 hK5 => ?_; refine SW.drawK mixed [.q [(0, false), (1, false), (2, false), (3, false), (4, false)]] (by kernel_rfl) rfl fun K hK => ?_; simp -implicitDefEqProofs
          iterate 2 (try refine ⟨by omega, ?_⟩)
          first
            | refine CallQ.fzE (toEng_ok b hb) (by simp) ?_
            | refine CallK.fzE (toEng_ok b hb) (by simp) ?_
          simp -implicitDefEqProofs; iterate 2 (try refine ⟨by omega, ?_⟩)
          refine CallQ.fzE (eqEng_ok b hb) (by simp) ?_; simp -implicitDefEqProofs; repeat refine ⟨by omega, ?_⟩
          refine hK _ ?_; clear hK K; refine SW.cond _ rfl (by simp) ?_ ?_
          case' refine_2 =>
           intro hb5
           first
           | (exfalso; simp at hb5; done)
           | (exfalso; simp at hb5; omega)
           | (
            refine SW.skip ?_; refine hK5 _ ?_; refine SW.rg fun K hK => ?_; simp -implicitDefEqProofs; repeat refine ⟨by omega, ?_⟩
            refine hK _ ?_; clear hK K; refine SW.rg fun K hK => ?_; simp -implicitDefEqProofs; iterate 2 (try refine ⟨by omega, ?_⟩)
            refine CallS.mono (mark_Prog a 1 _ 2 3 4 _ rfl (by simp) _ rfl (by simp) _ rfl (by simp) (by simp) hW hl0 hl1 hl2 (by omega) (by omega)) ?_
            rintro o h' ⟨rfl, m1, m2, rfl⟩
            simp -implicitDefEqProofs; repeat refine ⟨by omega, ?_⟩
            refine hK _ ?_; clear hK K; refine SW.rg fun K hK => ?_; simp -implicitDefEqProofs; iterate 2 (try refine ⟨by omega, ?_⟩)
            refine CallS.mono (mark_Eng b (1 + (a.tw : Int)) _ 6 7 8 _ rfl (by simp) _ rfl (by simp) _ rfl (by simp) (by simp) hWe he0 he1 he2 (by omega) (by omega)) ?_
            rintro o h' ⟨rfl, m3, m4, m5, rfl⟩
            simp -implicitDefEqProofs; repeat refine ⟨by omega, ?_⟩
            refine hK _ ?_; clear hK K; refine SW.seqK fun K6 hK6 => ?_; refine SW.rg fun K hK => ?_; simp -implicitDefEqProofs; iterate 2 (try refine ⟨by omega, ?_⟩)
            refine CallG.fzE (by simp) (fun _ => eqIntS_ok (rdy b 0 s.cases) (by omega)) (by simp) ?_; simp -implicitDefEqProofs; repeat refine ⟨by omega, ?_⟩
            refine hK _ ?_; clear hK K; refine SW.cond _ rfl (by simp) ?_ ?_
            case' refine_2 =>
             intro hb6
             first
             | (exfalso; simp at hb6; done)
             | (exfalso; simp at hb6; omega)
             | (
              refine SW.skip ?_; refine hK6 _ ?_; refine SW.rg fun K hK => ?_; simp -implicitDefEqProofs; repeat refine ⟨by omega, ?_⟩
              refine hK _ ?_; clear hK K; refine SW.rg fun K hK => ?_; simp -implicitDefEqProofs; iterate 2 (try refine ⟨by omega, ?_⟩)
              refine CallS.mono (mark_IntS (rdy b 0 s.cases) 1 _ 10 _ rfl (by simp) (by omega) (by omega) (by omega)) ?_
              rintro o h' ⟨rfl, rfl⟩
              simp -implicitDefEqProofs; repeat refine ⟨by omega, ?_⟩
              refine hK _ ?_; clear hK K; refine SW.rg fun K hK => ?_; simp -implicitDefEqProofs; repeat refine ⟨by omega, ?_⟩
              refine hK _ ?_; clear hK K; refine SW.rg fun K hK => ?_; simp -implicitDefEqProofs; iterate 2 (try refine ⟨by omega, ?_⟩)
              refine CallK.fzE (held_IntS (rdy b 0 s.cases).length 1 (by omega) (by omega) (by omega)) (by simp) ?_; simp -implicitDefEqProofs; repeat refine ⟨by omega, ?_⟩
              refine hK _ ?_; clear hK K; refine SW.seqK fun K7 hK7 => ?_; refine SW.rg fun K hK => ?_; simp -implicitDefEqProofs; repeat refine ⟨by omega, ?_⟩
              refine hK _ ?_; clear hK K; refine SW.cond _ rfl (by simp) ?_ ?_
              case' refine_2 =>
               intro hb7
               first
               | (exfalso; simp at hb7; done)
               | (exfalso; simp at hb7; omega)
               | (
                refine SW.skip ?_; refine hK7 _ ?_; refine SW.seqK fun K8 hK8 => ?_; refine SW.rg fun K hK => ?_; simp -implicitDefEqProofs; repeat refine ⟨by omega, ?_⟩
                refine hK _ ?_; clear hK K; refine SW.cond _ rfl (by simp) ?_ ?_
                case' refine_2 =>
                 intro hb8
                 first
                 | (exfalso; simp at hb8; done)
                 | (exfalso; simp at hb8; omega)
                 | (
                  refine SW.skip ?_; refine hK8 _ ?_; refine SW.drawK mixed [.q [(0, false), (1, false), (2, false), (3, false), (4, false), (5, false), (6, false)]] (by kernel_rfl) rfl fun K hK => ?_; simp -implicitDefEqProofs
                  iterate 2 (try refine ⟨by omega, ?_⟩)
                  first
                    | refine CallQ.fzE (toProg_ok a ha) (by simp) ?_
                    | refine CallK.fzE (toProg_ok a ha) (by simp) ?_
                  simp -implicitDefEqProofs; iterate 2 (try refine ⟨by omega, ?_⟩)
                  first
                    | refine CallQ.fzE (toEng_ok b hb) (by simp) ?_
                    | refine CallK.fzE (toEng_ok b hb) (by simp) ?_
                  simp -implicitDefEqProofs; iterate 2 (try refine ⟨by omega, ?_⟩)
                  first
                    | refine CallQ.fzE (rcY_i a b ha hb k g hg hA hk ho m s hm hs hl) (by simp) ?_
                    | refine CallK.fzE (rcY_i a b ha hb k g hg hA hk ho m s hm hs hl) (by simp) ?_
                  simp -implicitDefEqProofs; repeat refine ⟨by omega, ?_⟩
                  refine hK _ ?_; clear hK K; refine SW.seqK fun K9 hK9 => ?_; refine SW.rg fun K hK => ?_; simp -implicitDefEqProofs; iterate 2 (try refine ⟨by omega, ?_⟩)
                  refine CallK.fzE (eqIntS_ok (rdy b 0 s.cases) (by omega)) (by simp) ?_; simp -implicitDefEqProofs; repeat refine ⟨by omega, ?_⟩
                  refine hK _ ?_; clear hK K; refine SW.cond _ rfl (by simp) ?_ ?_
                  case' refine_2 =>
                   intro hb9
                   first
                   | (exfalso; simp at hb9; done)
                   | (exfalso; simp at hb9; omega)
                   | (
                    refine SW.skip ?_; refine hK9 _ ?_; refine SW.rg fun K hK => ?_; simp -implicitDefEqProofs; repeat refine ⟨by omega, ?_⟩
                    refine hK _ ?_; clear hK K; refine SW.rg fun K hK => ?_; simp -implicitDefEqProofs; iterate 2 (try refine ⟨by omega, ?_⟩)
                    refine CallK.fzE (held_IntS (rdy b 0 s.cases).length 1 (by omega) (by omega) (by omega)) (by simp) ?_; simp -implicitDefEqProofs; repeat refine ⟨by omega, ?_⟩
                    refine hK _ ?_; clear hK K; refine SW.seqK fun K10 hK10 => ?_; refine SW.rg fun K hK => ?_; simp -implicitDefEqProofs; repeat refine ⟨by omega, ?_⟩
                    refine hK _ ?_; clear hK K; refine SW.cond _ rfl (by simp) ?_ ?_
                    case' refine_2 =>
                     intro hb10
                     first
                     | (exfalso; simp at hb10; done)
                     | (exfalso; simp at hb10; omega)
                     | (
                      refine SW.skip ?_; refine hK10 _ ?_; refine SW.seqK fun K11 hK11 => ?_; refine SW.rg fun K hK => ?_; simp -implicitDefEqProofs; repeat refine ⟨by omega, ?_⟩
                      refine hK _ ?_; clear hK K; refine SW.cond _ rfl (by simp) ?_ ?_
                      case' refine_2 =>
                       intro hb11
                       first
                       | (exfalso; simp at hb11; done)
                       | (exfalso; simp at hb11; omega)
                       | (
                        refine SW.skip ?_; refine hK11 _ ?_; refine SW.rg fun K hK => ?_; simp -implicitDefEqProofs; repeat refine ⟨by omega, ?_⟩
                        refine hK _ ?_; clear hK K; refine SW.ret ?_
                        simp [Ex.then, Ex.ib])
                      rotate_right
                      case' _ =>
                       intro hb11
                       first
                       | (exfalso; simp at hb11; done)
                       | (exfalso; simp at hb11; omega)
                       | (
                        refine SW.rg fun K hK => ?_; simp -implicitDefEqProofs; repeat refine ⟨by omega, ?_⟩
                        refine hK _ ?_; clear hK K; refine SW.ret ?_
                        simp [Ex.then, Ex.ib]))
                    rotate_right
                    case' _ =>
                     intro hb10
                     first
                     | (exfalso; simp at hb10; done)
                     | (exfalso; simp at hb10; omega)
                     | (
                      refine SW.rg fun K hK => ?_; simp -implicitDefEqProofs; repeat refine ⟨by omega, ?_⟩
                      refine hK _ ?_; clear hK K; refine SW.ret ?_
                      simp [Ex.then, Ex.ib]))
                  rotate_right
                  case' _ =>
                   intro hb9
                   first
                   | (exfalso; simp at hb9; done)
                   | (exfalso; simp at hb9; omega)
                   | (
                    refine SW.rg fun K hK => ?_; simp -implicitDefEqProofs; repeat refine ⟨by omega, ?_⟩
                    refine hK _ ?_; clear hK K; refine SW.ret ?_
                    simp [Ex.then, Ex.ib]))
                rotate_right
                case' _ =>
                 intro hb8
                 first
                 | (exfalso; simp at hb8; done)
                 | (exfalso; simp at hb8; omega)
                 | (
                  refine SW.rg fun K hK => ?_; simp -implicitDefEqProofs; repeat refine ⟨by omega, ?_⟩
                  refine hK _ ?_; clear hK K; refine SW.ret ?_
                  simp [Ex.then, Ex.ib]))
              rotate_right
              case' _ =>
               intro hb7
               first
               | (exfalso; simp at hb7; done)
               | (exfalso; simp at hb7; omega)
               | (
                refine SW.rg fun K hK => ?_; simp -implicitDefEqProofs; repeat refine ⟨by omega, ?_⟩
                refine hK _ ?_; clear hK K; refine SW.ret ?_
                simp [Ex.then, Ex.ib]))
            rotate_right
            case' _ =>
             intro hb6
             first
             | (exfalso; simp at hb6; done)
             | (exfalso; simp at hb6; omega)
             | (
              refine SW.rg fun K hK => ?_; simp -implicitDefEqProofs; repeat refine ⟨by omega, ?_⟩
              refine hK _ ?_; clear hK K; refine SW.ret ?_
              simp [Ex.then, Ex.ib]))
          rotate_right
          case' _ =>
           intro hb5
           first
           | (exfalso; simp at hb5; done)
           | (exfalso; simp at hb5; omega)
           | (
            refine SW.rg fun K hK => ?_; simp -implicitDefEqProofs; repeat refine ⟨by omega, ?_⟩
            refine hK _ ?_; clear hK K; refine SW.ret ?_
            simp [Ex.then, Ex.ib]))
        rotate_right
        case' _ =>
         intro hb4
         first
         | (exfalso; simp at hb4; done)
         | (exfalso; simp at hb4; omega)
         | (
          refine SW.rg fun K hK => ?_; simp -implicitDefEqProofs; repeat refine ⟨by omega, ?_⟩
          refine hK _ ?_; clear hK K; refine SW.ret ?_
          simp [Ex.then, Ex.ib]))
      rotate_right
      case' _ =>
       intro hb3
       first
       | (exfalso; simp at hb3; done)
       | (exfalso; simp at hb3; omega)
       | (
        refine SW.rg fun K hK => ?_; simp -implicitDefEqProofs; repeat refine ⟨by omega, ?_⟩
        refine hK _ ?_; clear hK K; refine SW.ret ?_
        simp [Ex.then, Ex.ib]))
    rotate_right
    case' _ =>
     intro hb2
     first
     | (exfalso; simp at hb2; done)
     | (exfalso; simp at hb2; omega)
     | (
      refine SW.rg fun K hK => ?_; simp -implicitDefEqProofs; repeat refine ⟨by omega, ?_⟩
      refine hK _ ?_; clear hK K; refine SW.ret ?_
      simp [Ex.then, Ex.ib]))
  rotate_right
  case' _ =>
   intro hb1
   first
   | (exfalso; simp at hb1; done)
   | (exfalso; simp at hb1; omega)
   | (
    refine SW.rg fun K hK => ?_; simp -implicitDefEqProofs; repeat refine ⟨by omega, ?_⟩
    refine hK _ ?_; clear hK K; refine SW.ret ?_
    simp [Ex.then, Ex.ib])
set_option maxHeartbeats 1000000 in
theorem law_rcN (a : Prog) (b : Eng) (fa : a.fit) (fb : b.fit) (n : Int) (hN : asked a b n = false ∨ ∃ (k : Nat) (g : Gor), n = k ∧ b.gs[k]? = some g ∧ asked a b k = true ∧ gorOk a g = true ∧ ¬ (atI a g).op = 11) : Fn Tryz.prog 7 [.agg a.fr, .agg b.fr, .int .i64 n] (.bool true) := by
  refine Fn.intro Tryz.func7 (by decide) rfl (rs := [.tmp 6]) rfl Tryz.ntmps7 (by simp) ?_; have q1 := szR_cases a.sz 1048576
  have q2 := szR_cases b.sz (szR a.sz 1048576)
  have qt := Prog.tw_le a
  have qe := Eng.tw_le b
  refine SW.rg fun K hK => ?_; simp -implicitDefEqProofs; repeat refine ⟨by omega, ?_⟩
  refine hK _ ?_; clear hK K; refine SW.rg fun K hK => ?_; simp -implicitDefEqProofs; repeat refine ⟨by omega, ?_⟩
  refine hK _ ?_; clear hK K; refine SW.rg fun K hK => ?_; simp -implicitDefEqProofs; iterate 2 (try refine ⟨by omega, ?_⟩)
  refine CallK.fzE (szProg_ok a 1048576 fa (by omega) (by omega)) (by simp) ?_; simp -implicitDefEqProofs; repeat refine ⟨by omega, ?_⟩
  refine hK _ ?_; clear hK K; refine SW.seqK fun K1 hK1 => ?_; refine SW.rg fun K hK => ?_; simp -implicitDefEqProofs; repeat refine ⟨by omega, ?_⟩
  refine hK _ ?_; clear hK K; refine SW.cond _ rfl (by simp) ?_ ?_
  case' refine_2 =>
   intro hb1
   first
   | (exfalso; simp at hb1; done)
   | (exfalso; simp at hb1; omega)
   | (
    have n1 : 0 ≤ szR a.sz 1048576 := by simp at hb1; omega
    have ha : a.ok := Prog.sz_ok (by omega)
    have hW : a.tw ≤ 2 ^ 30 := by omega
    have hl0 : a.caps.length ≤ 2 ^ 30 := by have := ha.1; omega
    have hl1 : a.sels.length ≤ 2 ^ 30 := by have := ha.2.1; omega
    have hl2 : a.procs.length ≤ 2 ^ 30 := by have := ha.2.2.2.1; omega
    refine SW.skip ?_; refine hK1 _ ?_; refine SW.rg fun K hK => ?_; simp -implicitDefEqProofs; iterate 2 (try refine ⟨by omega, ?_⟩)
    refine CallK.fzE (szEng_ok b (szR a.sz 1048576) fb (by omega) (by omega)) (by simp) ?_; simp -implicitDefEqProofs; repeat refine ⟨by omega, ?_⟩
    refine hK _ ?_; clear hK K; refine SW.seqK fun K2 hK2 => ?_; refine SW.rg fun K hK => ?_; simp -implicitDefEqProofs; repeat refine ⟨by omega, ?_⟩
    refine hK _ ?_; clear hK K; refine SW.cond _ rfl (by simp) ?_ ?_
    case' refine_2 =>
     intro hb2
     first
     | (exfalso; simp at hb2; done)
     | (exfalso; simp at hb2; omega)
     | (
      have n2 : 0 ≤ szR b.sz (szR a.sz 1048576) := by simp at hb2; omega
      have hb : b.ok := Eng.sz_ok (by omega)
      have hWe : b.tw ≤ 2 ^ 30 := by omega
      have he0 : b.gs.length ≤ 2 ^ 30 := by have := hb.1; omega
      have he1 : b.chans.length ≤ 2 ^ 30 := by have := hb.2.2.1; omega
      have he2 : b.mus.length ≤ 2 ^ 30 := by have := hb.2.2.2.2.1; omega
      refine SW.skip ?_; refine hK2 _ ?_; refine SW.drawK mixed [.q [(0, false), (1, false), (2, false), (3, false), (4, false), (5, false), (6, false)]] (by kernel_rfl) rfl fun K hK => ?_; simp -implicitDefEqProofs
      iterate 2 (try refine ⟨by omega, ?_⟩)
      first
        | refine CallQ.fzE (toProg_ok a ha) (by simp) ?_
        | refine CallK.fzE (toProg_ok a ha) (by simp) ?_
      simp -implicitDefEqProofs; iterate 2 (try refine ⟨by omega, ?_⟩)
      first
        | refine CallQ.fzE (toEng_ok b hb) (by simp) ?_
        | refine CallK.fzE (toEng_ok b hb) (by simp) ?_
      simp -implicitDefEqProofs; iterate 2 (try refine ⟨by omega, ?_⟩)
      first
        | refine CallQ.fzE (rc0_s a b ha hb n hN) (by simp) ?_
        | refine CallK.fzE (rc0_s a b ha hb n hN) (by simp) ?_
      simp -implicitDefEqProofs; repeat refine ⟨by omega, ?_⟩
      refine hK _ ?_; clear hK K; refine SW.rg fun K hK => ?_; simp -implicitDefEqProofs; iterate 2 (try refine ⟨by omega, ?_⟩)
      refine CallK.imE (toProg_ok a ha) (by simp) (Prog_oI a) ?_; simp -implicitDefEqProofs; repeat refine ⟨by omega, ?_⟩
      refine hK _ ?_; clear hK K; refine SW.rg fun K hK => ?_; simp -implicitDefEqProofs; iterate 2 (try refine ⟨by omega, ?_⟩)
      refine CallK.imE (toEng_ok b hb) (by simp) (Eng_oI b) ?_; simp -implicitDefEqProofs; repeat refine ⟨by omega, ?_⟩
      refine hK _ ?_; clear hK K; refine SW.rg fun K hK => ?_; simp -implicitDefEqProofs; iterate 2 (try refine ⟨by omega, ?_⟩)
      first
        | refine CallQ.fzE (rc0_i a b ha hb n hN) (by simp) ?_
        | refine CallK.fzE (rc0_i a b ha hb n hN) (by simp) ?_
      simp -implicitDefEqProofs; repeat refine ⟨by omega, ?_⟩
      refine hK _ ?_; clear hK K; refine SW.seqK fun K3 hK3 => ?_; refine SW.rg fun K hK => ?_; simp -implicitDefEqProofs; iterate 2 (try refine ⟨by omega, ?_⟩)
      refine CallK.fzE (Fn.nil2 (eqIntS_ok [] (by simp))) (by simp) ?_; simp -implicitDefEqProofs; repeat refine ⟨by omega, ?_⟩
      refine hK _ ?_; clear hK K; refine SW.cond _ rfl (by simp) ?_ ?_
      case' refine_2 =>
       intro hb3
       first
       | (exfalso; simp at hb3; done)
       | (exfalso; simp at hb3; omega)
       | (
        refine SW.skip ?_; refine hK3 _ ?_; refine SW.seqK fun K4 hK4 => ?_; refine SW.drawK mixed [.q [(0, false), (1, false), (2, false), (3, false), (4, false)]] (by kernel_rfl) rfl fun K hK => ?_; simp -implicitDefEqProofs
        iterate 2 (try refine ⟨by omega, ?_⟩)
        first
          | refine CallQ.fzE (toProg_ok a ha) (by simp) ?_
          | refine CallK.fzE (toProg_ok a ha) (by simp) ?_
        simp -implicitDefEqProofs; iterate 2 (try refine ⟨by omega, ?_⟩)
        refine CallQ.fzE (eqProg_ok a ha) (by simp) ?_; simp -implicitDefEqProofs; repeat refine ⟨by omega, ?_⟩
        refine hK _ ?_; clear hK K; refine SW.cond _ rfl (by simp) ?_ ?_
        case' refine_2 =>
         intro hb4
         first
         | (exfalso; simp at hb4; done)
         | (exfalso; simp at hb4; omega)
         | (
          refine SW.skip ?_; refine hK4 _ ?_; refine SW.seqK fun K5 hK5 => ?_; refine SW.drawK mixed [.q [(0, false), (1, false), (2, false), (3, false), (4, false)]] (by kernel_rfl) rfl fun K hK => ?_; simp -implicitDefEqProofs
          iterate 2 (try refine ⟨by omega, ?_⟩)
          first
            | refine CallQ.fzE (toEng_ok b hb) (by simp) ?_
            | refine CallK.fzE (toEng_ok b hb) (by simp) ?_
          simp -implicitDefEqProofs; iterate 2 (try refine ⟨by omega, ?_⟩)
          refine CallQ.fzE (eqEng_ok b hb) (by simp) ?_; simp -implicitDefEqProofs; repeat refine ⟨by omega, ?_⟩
          refine hK _ ?_; clear hK K; refine SW.cond _ rfl (by simp) ?_ ?_
          case' refine_2 =>
           intro hb5
           first
           | (exfalso; simp at hb5; done)
           | (exfalso; simp at hb5; omega)
           | (
            refine SW.skip ?_; refine hK5 _ ?_; refine SW.rg fun K hK => ?_; simp -implicitDefEqProofs; repeat refine ⟨by omega, ?_⟩
            refine hK _ ?_; clear hK K; refine SW.rg fun K hK => ?_; simp -implicitDefEqProofs; iterate 2 (try refine ⟨by omega, ?_⟩)
            refine CallS.mono (mark_Prog a 1 _ 2 3 4 _ rfl (by simp) _ rfl (by simp) _ rfl (by simp) (by simp) hW hl0 hl1 hl2 (by omega) (by omega)) ?_
            rintro o h' ⟨rfl, m1, m2, rfl⟩
            simp -implicitDefEqProofs; repeat refine ⟨by omega, ?_⟩
            refine hK _ ?_; clear hK K; refine SW.rg fun K hK => ?_; simp -implicitDefEqProofs; iterate 2 (try refine ⟨by omega, ?_⟩)
            refine CallS.mono (mark_Eng b (1 + (a.tw : Int)) _ 6 7 8 _ rfl (by simp) _ rfl (by simp) _ rfl (by simp) (by simp) hWe he0 he1 he2 (by omega) (by omega)) ?_
            rintro o h' ⟨rfl, m3, m4, m5, rfl⟩
            simp -implicitDefEqProofs; repeat refine ⟨by omega, ?_⟩
            refine hK _ ?_; clear hK K; refine SW.seqK fun K6 hK6 => ?_; refine SW.rg fun K hK => ?_; simp -implicitDefEqProofs; iterate 2 (try refine ⟨by omega, ?_⟩)
            refine CallG.fzE (by simp) (fun _ => Fn.nil2 (eqIntS_ok [] (by simp))) (by simp) ?_; simp -implicitDefEqProofs; repeat refine ⟨by omega, ?_⟩
            refine hK _ ?_; clear hK K; refine SW.cond _ rfl (by simp) ?_ ?_
            case' refine_2 =>
             intro hb6
             first
             | (exfalso; simp at hb6; done)
             | (exfalso; simp at hb6; omega)
             | (
              refine SW.skip ?_; refine hK6 _ ?_; refine SW.rg fun K hK => ?_; simp -implicitDefEqProofs; repeat refine ⟨by omega, ?_⟩
              refine hK _ ?_; clear hK K; refine SW.rg fun K hK => ?_; simp -implicitDefEqProofs; iterate 2 (try refine ⟨by omega, ?_⟩)
              refine CallS.mono (mark_IntS_nil _ 1) ?_
              rintro o h' ⟨rfl, rfl⟩
              simp -implicitDefEqProofs; repeat refine ⟨by omega, ?_⟩
              refine hK _ ?_; clear hK K; refine SW.rg fun K hK => ?_; simp -implicitDefEqProofs; repeat refine ⟨by omega, ?_⟩
              refine hK _ ?_; clear hK K; refine SW.rg fun K hK => ?_; simp -implicitDefEqProofs; iterate 2 (try refine ⟨by omega, ?_⟩)
              refine CallK.fzE (held_IntS_nil) (by simp) ?_; simp -implicitDefEqProofs; repeat refine ⟨by omega, ?_⟩
              refine hK _ ?_; clear hK K; refine SW.seqK fun K7 hK7 => ?_; refine SW.rg fun K hK => ?_; simp -implicitDefEqProofs; repeat refine ⟨by omega, ?_⟩
              refine hK _ ?_; clear hK K; refine SW.cond _ rfl (by simp) ?_ ?_
              case' refine_2 =>
               intro hb7
               first
               | (exfalso; simp at hb7; done)
               | (exfalso; simp at hb7; omega)
               | (
                refine SW.skip ?_; refine hK7 _ ?_; refine SW.seqK fun K8 hK8 => ?_; refine SW.rg fun K hK => ?_; simp -implicitDefEqProofs; repeat refine ⟨by omega, ?_⟩
                refine hK _ ?_; clear hK K; refine SW.cond _ rfl (by simp) ?_ ?_
                case' refine_2 =>
                 intro hb8
                 first
                 | (exfalso; simp at hb8; done)
                 | (exfalso; simp at hb8; omega)
                 | (
                  refine SW.skip ?_; refine hK8 _ ?_; refine SW.drawK mixed [.q [(0, false), (1, false), (2, false), (3, false), (4, false), (5, false), (6, false)]] (by kernel_rfl) rfl fun K hK => ?_; simp -implicitDefEqProofs
                  iterate 2 (try refine ⟨by omega, ?_⟩)
                  first
                    | refine CallQ.fzE (toProg_ok a ha) (by simp) ?_
                    | refine CallK.fzE (toProg_ok a ha) (by simp) ?_
                  simp -implicitDefEqProofs; iterate 2 (try refine ⟨by omega, ?_⟩)
                  first
                    | refine CallQ.fzE (toEng_ok b hb) (by simp) ?_
                    | refine CallK.fzE (toEng_ok b hb) (by simp) ?_
                  simp -implicitDefEqProofs; iterate 2 (try refine ⟨by omega, ?_⟩)
                  first
                    | refine CallQ.fzE (rc0_i a b ha hb n hN) (by simp) ?_
                    | refine CallK.fzE (rc0_i a b ha hb n hN) (by simp) ?_
                  simp -implicitDefEqProofs; repeat refine ⟨by omega, ?_⟩
                  refine hK _ ?_; clear hK K; refine SW.seqK fun K9 hK9 => ?_; refine SW.rg fun K hK => ?_; simp -implicitDefEqProofs; iterate 2 (try refine ⟨by omega, ?_⟩)
                  refine CallK.fzE (Fn.nil2 (eqIntS_ok [] (by simp))) (by simp) ?_; simp -implicitDefEqProofs; repeat refine ⟨by omega, ?_⟩
                  refine hK _ ?_; clear hK K; refine SW.cond _ rfl (by simp) ?_ ?_
                  case' refine_2 =>
                   intro hb9
                   first
                   | (exfalso; simp at hb9; done)
                   | (exfalso; simp at hb9; omega)
                   | (
                    refine SW.skip ?_; refine hK9 _ ?_; refine SW.rg fun K hK => ?_; simp -implicitDefEqProofs; repeat refine ⟨by omega, ?_⟩
                    refine hK _ ?_; clear hK K; refine SW.rg fun K hK => ?_; simp -implicitDefEqProofs; iterate 2 (try refine ⟨by omega, ?_⟩)
                    refine CallK.fzE (held_IntS_nil) (by simp) ?_; simp -implicitDefEqProofs; repeat refine ⟨by omega, ?_⟩
                    refine hK _ ?_; clear hK K; refine SW.seqK fun K10 hK10 => ?_; refine SW.rg fun K hK => ?_; simp -implicitDefEqProofs; repeat refine ⟨by omega, ?_⟩
                    refine hK _ ?_; clear hK K; refine SW.cond _ rfl (by simp) ?_ ?_
                    case' refine_2 =>
                     intro hb10
                     first
                     | (exfalso; simp at hb10; done)
                     | (exfalso; simp at hb10; omega)
                     | (
                      refine SW.skip ?_; refine hK10 _ ?_; refine SW.seqK fun K11 hK11 => ?_; refine SW.rg fun K hK => ?_; simp -implicitDefEqProofs; repeat refine ⟨by omega, ?_⟩
                      refine hK _ ?_; clear hK K; refine SW.cond _ rfl (by simp) ?_ ?_
                      case' refine_2 =>
                       intro hb11
                       first
                       | (exfalso; simp at hb11; done)
                       | (exfalso; simp at hb11; omega)
                       | (
                        refine SW.skip ?_; refine hK11 _ ?_; refine SW.rg fun K hK => ?_; simp -implicitDefEqProofs; repeat refine ⟨by omega, ?_⟩
                        refine hK _ ?_; clear hK K; refine SW.ret ?_
                        simp [Ex.then, Ex.ib])
                      rotate_right
                      case' _ =>
                       intro hb11
                       first
                       | (exfalso; simp at hb11; done)
                       | (exfalso; simp at hb11; omega)
                       | (
                        refine SW.rg fun K hK => ?_; simp -implicitDefEqProofs; repeat refine ⟨by omega, ?_⟩
                        refine hK _ ?_; clear hK K; refine SW.ret ?_
                        simp [Ex.then, Ex.ib]))
                    rotate_right
                    case' _ =>
                     intro hb10
                     first
                     | (exfalso; simp at hb10; done)
                     | (exfalso; simp at hb10; omega)
                     | (
                      refine SW.rg fun K hK => ?_; simp -implicitDefEqProofs; repeat refine ⟨by omega, ?_⟩
                      refine hK _ ?_; clear hK K; refine SW.ret ?_
                      simp [Ex.then, Ex.ib]))
                  rotate_right
                  case' _ =>
                   intro hb9
                   first
                   | (exfalso; simp at hb9; done)
                   | (exfalso; simp at hb9; omega)
                   | (
                    refine SW.rg fun K hK => ?_; simp -implicitDefEqProofs; repeat refine ⟨by omega, ?_⟩
                    refine hK _ ?_; clear hK K; refine SW.ret ?_
                    simp [Ex.then, Ex.ib]))
                rotate_right
                case' _ =>
                 intro hb8
                 first
                 | (exfalso; simp at hb8; done)
                 | (exfalso; simp at hb8; omega)
                 | (
                  refine SW.rg fun K hK => ?_; simp -implicitDefEqProofs; repeat refine ⟨by omega, ?_⟩
                  refine hK _ ?_; clear hK K; refine SW.ret ?_
                  simp [Ex.then, Ex.ib]))
              rotate_right
              case' _ =>
               intro hb7
               first
               | (exfalso; simp at hb7; done)
               | (exfalso; simp at hb7; omega)
               | (
                refine SW.rg fun K hK => ?_; simp -implicitDefEqProofs; repeat refine ⟨by omega, ?_⟩
                refine hK _ ?_; clear hK K; refine SW.ret ?_
                simp [Ex.then, Ex.ib]))
            rotate_right
            case' _ =>
             intro hb6
             first
             | (exfalso; simp at hb6; done)
             | (exfalso; simp at hb6; omega)
             | (
              refine SW.rg fun K hK => ?_; simp -implicitDefEqProofs; repeat refine ⟨by omega, ?_⟩
              refine hK _ ?_; clear hK K; refine SW.ret ?_
              simp [Ex.then, Ex.ib]))
          rotate_right
          case' _ =>
           intro hb5
           first
           | (exfalso; simp at hb5; done)
           | (exfalso; simp at hb5; omega)
           | (
            refine SW.rg fun K hK => ?_; simp -implicitDefEqProofs; repeat refine ⟨by omega, ?_⟩
            refine hK _ ?_; clear hK K; refine SW.ret ?_
            simp [Ex.then, Ex.ib]))
        rotate_right
        case' _ =>
         intro hb4
         first
         | (exfalso; simp at hb4; done)
         | (exfalso; simp at hb4; omega)
         | (
          refine SW.rg fun K hK => ?_; simp -implicitDefEqProofs; repeat refine ⟨by omega, ?_⟩
          refine hK _ ?_; clear hK K; refine SW.ret ?_
          simp [Ex.then, Ex.ib]))
      rotate_right
      case' _ =>
       intro hb3
       first
       | (exfalso; simp at hb3; done)
       | (exfalso; simp at hb3; omega)
       | (
        refine SW.rg fun K hK => ?_; simp -implicitDefEqProofs; repeat refine ⟨by omega, ?_⟩
        refine hK _ ?_; clear hK K; refine SW.ret ?_
        simp [Ex.then, Ex.ib]))
    rotate_right
    case' _ =>
     intro hb2
     first
     | (exfalso; simp at hb2; done)
     | (exfalso; simp at hb2; omega)
     | (
      refine SW.rg fun K hK => ?_; simp -implicitDefEqProofs; repeat refine ⟨by omega, ?_⟩
      refine hK _ ?_; clear hK K; refine SW.ret ?_
      simp [Ex.then, Ex.ib]))
  rotate_right
  case' _ =>
   intro hb1
   first
   | (exfalso; simp at hb1; done)
   | (exfalso; simp at hb1; omega)
   | (
    refine SW.rg fun K hK => ?_; simp -implicitDefEqProofs; repeat refine ⟨by omega, ?_⟩
    refine hK _ ?_; clear hK K; refine SW.ret ?_
    simp [Ex.then, Ex.ib])
theorem sel_ex {p : Prog} {g : Gor} (hk : gorOk p g = true) (ho : (atI p g).op = 11) : ∃ (m : Nat) (s : Select), (atI p g).a = m ∧ p.sels[m]? = some s := by
  have hp : progOk p = true := by simp only [gorOk, Bool.and_eq_true] at hk; exact hk.1
  obtain ⟨x0, i, _, _, hat, _, h11⟩ := at_facts hp (gor_at hk); rw [hat] at ho ⊢; obtain ⟨hA, hB, s, hs, _⟩ := h11 ho; exact ⟨i.a.toNat, s, by omega, hs⟩
theorem law_rc (a : Prog) (b : Eng) (n : Int) (fa : a.fit) (fb : b.fit) : Fn Tryz.prog 7 [.agg a.fr, .agg b.fr, .int .i64 n] (.bool true) := by
  cases hA : asked a b n with
  | false => exact law_rcN a b fa fb n (.inl hA)
  | true =>
    obtain ⟨k, g, rfl, hg, _, _, hk⟩ := asked_ex hA; by_cases ho : (atI a g).op = 11
    · obtain ⟨m, s, hm, hs⟩ := sel_ex hk ho
      exact law_rcY a b fa fb k g hg hA hk ho m s hm hs
    · exact law_rcN a b fa fb k (.inr ⟨k, g, rfl, hg, hA, hk, ho⟩)
end HT
