import Derived.Test.YtnehpceohjlacaaHU2
import Derived.Test.YtnehpceohjlacaaG5
/-
  My own texts (road H): HU3.
-/
set_option linter.unusedSimpArgs false
set_option linter.unusedVariables false
namespace HT
open Go Go.Proofs HK
def plsOk (p : Prog) (g : Gor) (n : Int) : Bool := gorOk p g && (g.state == 2) && decide (0 ≤ n)
theorem pls_len {p : Prog} {g : Gor} {n : Int} (h : p.ok) : (pls p g n).length ≤ 1048576 := by
  unfold pls
  repeat' split
  all_goals first | (simp; done) | (rename_i s hs; exact Nat.le_trans (plCs_len g n 0 s.cases) (h.2.2.1 s (List.mem_of_getElem? hs)))
set_option maxHeartbeats 1000000 in
theorem placesY_s (p : Prog) (g : Gor) (n : Int) (h : p.ok) (hg : g.ok) (hc : plsOk p g n = true) : Fn Try.prog 10 [.agg p.fr, .agg g.fr, .int .i64 n] (.own 6 (PlaceS (pls p g n))) := by
  refine Fn.intro Try.func10 (by decide) rfl (rs := [.tmp 6]) rfl Try.ntmps10 (by simp) ?_
  have g1 := hg.1
  have g2 := hg.2
  simp [plsOk] at hc
  obtain ⟨⟨hk, hs2⟩, hn0⟩ := hc
  have hpo : progOk p = true := by simp only [gorOk, Bool.and_eq_true] at hk; exact hk.1
  have hk6 : g.regs.length = 6 := by
    simp only [gorOk, gorIn, gorHead, Bool.and_eq_true, decide_eq_true_eq] at hk
    omega
  have hn9 : ¬ n < 0 := by omega
  refine SW.regionK fun K hK => ?_
  simp -implicitDefEqProofs
  repeat (refine And.intro (by clear hK; first | omega | (intros; simp_all; done) | (intros; grind)) ?_)
  refine hK _ ?_
  clear hK K
  refine SW.seqK fun K1 hK1 => ?_
  refine SW.regionK fun K hK => ?_
  simp -implicitDefEqProofs [hk, hs2, hn9]
  repeat (refine And.intro (by clear hK; first | omega | (intros; simp_all; done) | (intros; grind)) ?_)
  refine CallK.fzE (gorOk_s p g h hg) (by simp [hs2]) ?_
  simp -implicitDefEqProofs [hk, hs2, hn9]
  repeat (refine And.intro (by clear hK; first | omega | (intros; simp_all; done) | (intros; grind)) ?_)
  refine hK _ ?_
  clear hK K
  refine SW.cond _ rfl (by simp) ?_ ?_
  case' refine_2 =>
   intro hb1
   first
   | (exfalso; simp at hb1; done)
   | (exfalso; simp at hb1; omega)
   | (
    refine SW.skip ?_
    refine hK1 _ ?_
    refine SW.regionK fun K hK => ?_
    simp -implicitDefEqProofs
    repeat (refine And.intro (by clear hK; first | omega | (intros; simp_all; done) | (intros; grind)) ?_)
    refine CallK.imE (places_s p g n h hpo (gor_at hk) hk6) (by simp [hs2]) (PlaceS_okI _) ?_
    simp -implicitDefEqProofs
    repeat (refine And.intro (by clear hK; first | omega | (intros; simp_all; done) | (intros; grind)) ?_)
    refine hK _ ?_
    clear hK K
    refine SW.ret ?_
    simp [Ex.then, Ex.inBlock, -strN]
    all_goals (simp [-strN])
    all_goals (try exact PlaceS_strM _))
  rotate_right
  case' _ =>
   intro hb1
   first
   | (exfalso; simp at hb1; done)
   | (exfalso; simp at hb1; omega)
   | (
    refine SW.regionK fun K hK => ?_
    simp -implicitDefEqProofs
    repeat (refine And.intro (by clear hK; first | omega | (intros; simp_all; done) | (intros; grind)) ?_)
    refine hK _ ?_
    clear hK K
    refine SW.ret ?_
    simp [Ex.then, Ex.inBlock, -strN]
    all_goals (simp [-strN])
    all_goals (try exact PlaceS_strM _))
set_option maxHeartbeats 1000000 in
theorem placesN_s (p : Prog) (g : Gor) (n : Int) (h : p.ok) (hg : g.ok) (hc : plsOk p g n = false) : Fn Try.prog 10 [.agg p.fr, .agg g.fr, .int .i64 n] (.nil) := by
  refine Fn.intro Try.func10 (by decide) rfl (rs := [.tmp 6]) rfl Try.ntmps10 (by simp) ?_
  have g1 := hg.1
  have g2 := hg.2
  refine SW.regionK fun K hK => ?_
  simp -implicitDefEqProofs
  repeat (refine And.intro (by clear hK; first | omega | (intros; simp_all; done) | (intros; grind)) ?_)
  refine hK _ ?_
  clear hK K
  refine SW.seqK fun K1 hK1 => ?_
  refine SW.regionK fun K hK => ?_
  simp -implicitDefEqProofs
  repeat (refine And.intro (by clear hK; first | omega | (intros; simp_all; done) | (intros; grind)) ?_)
  first
    | refine CallQ.fzE (gorOk_s p g h hg) (by simp) ?_
    | refine CallK.fzE (gorOk_s p g h hg) (by simp) ?_
  simp -implicitDefEqProofs
  repeat (refine And.intro (by clear hK; first | omega | (intros; simp_all; done) | (intros; grind)) ?_)
  refine hK _ ?_
  clear hK K
  refine SW.cond _ rfl (by simp) ?_ ?_
  case' refine_2 =>
   intro hb1
   have hno : (0 : Int) = 1 := by
     simp [plsOk] at hc
     simp at hb1
     grind
   first
   | (exfalso; simp at hb1; done)
   | (exfalso; simp at hb1; omega)
   | (
    refine SW.skip ?_
    refine hK1 _ ?_
    refine SW.regionK fun K hK => ?_
    simp -implicitDefEqProofs
    repeat (refine And.intro (by clear hK; first | omega | (intros; simp_all; done) | (intros; grind)) ?_)
    fail
    simp -implicitDefEqProofs
    repeat (refine And.intro (by clear hK; first | omega | (intros; simp_all; done) | (intros; grind)) ?_)
    refine hK _ ?_
    clear hK K
    refine SW.ret ?_
    simp [Ex.then, Ex.inBlock]
    all_goals (try simp))
  rotate_right
  case' _ =>
   intro hb1
   first
   | (exfalso; simp at hb1; done)
   | (exfalso; simp at hb1; omega)
   | (
    refine SW.regionK fun K hK => ?_
    simp -implicitDefEqProofs
    repeat (refine And.intro (by clear hK; first | omega | (intros; simp_all; done) | (intros; grind)) ?_)
    refine hK _ ?_
    clear hK K
    refine SW.ret ?_
    simp [Ex.then, Ex.inBlock]
    all_goals (try simp))
set_option maxHeartbeats 1000000 in
theorem placesY_i (p : Prog) (g : Gor) (n : Int) (h : p.ok) (hg : g.ok) (hc : plsOk p g n = true) : Fn Try.prog 13 [.agg p.fr, .agg g.fr, .int .i64 n] (.own 6 (PlaceS (pls p g n))) := by
  refine Fn.intro Try.func13 (by decide) rfl (rs := [.tmp 6]) rfl Try.ntmps13 (by simp) ?_
  have g1 := hg.1
  have g2 := hg.2
  simp [plsOk] at hc
  obtain ⟨⟨hk, hs2⟩, hn0⟩ := hc
  have hpo : progOk p = true := by simp only [gorOk, Bool.and_eq_true] at hk; exact hk.1
  have hk6 : g.regs.length = 6 := by
    simp only [gorOk, gorIn, gorHead, Bool.and_eq_true, decide_eq_true_eq] at hk
    omega
  have hn9 : ¬ n < 0 := by omega
  refine SW.regionK fun K hK => ?_
  simp -implicitDefEqProofs
  repeat (refine And.intro (by clear hK; first | omega | (intros; simp_all; done) | (intros; grind)) ?_)
  refine hK _ ?_
  clear hK K
  refine SW.seqK fun K1 hK1 => ?_
  refine SW.regionK fun K hK => ?_
  simp -implicitDefEqProofs [hk, hs2, hn9]
  repeat (refine And.intro (by clear hK; first | omega | (intros; simp_all; done) | (intros; grind)) ?_)
  refine CallK.fzE (gorOk_i p g h hg) (by simp [hs2]) ?_
  simp -implicitDefEqProofs [hk, hs2, hn9]
  repeat (refine And.intro (by clear hK; first | omega | (intros; simp_all; done) | (intros; grind)) ?_)
  refine hK _ ?_
  clear hK K
  refine SW.cond _ rfl (by simp) ?_ ?_
  case' refine_2 =>
   intro hb1
   first
   | (exfalso; simp at hb1; done)
   | (exfalso; simp at hb1; omega)
   | (
    refine SW.skip ?_
    refine hK1 _ ?_
    refine SW.regionK fun K hK => ?_
    simp -implicitDefEqProofs
    repeat (refine And.intro (by clear hK; first | omega | (intros; simp_all; done) | (intros; grind)) ?_)
    refine CallK.imE (places_i p g n h hpo (gor_at hk) hk6) (by simp [hs2]) (PlaceS_okI _) ?_
    simp -implicitDefEqProofs
    repeat (refine And.intro (by clear hK; first | omega | (intros; simp_all; done) | (intros; grind)) ?_)
    refine hK _ ?_
    clear hK K
    refine SW.ret ?_
    simp [Ex.then, Ex.inBlock, -strN]
    all_goals (simp [-strN])
    all_goals (try exact PlaceS_strM _))
  rotate_right
  case' _ =>
   intro hb1
   first
   | (exfalso; simp at hb1; done)
   | (exfalso; simp at hb1; omega)
   | (
    refine SW.regionK fun K hK => ?_
    simp -implicitDefEqProofs
    repeat (refine And.intro (by clear hK; first | omega | (intros; simp_all; done) | (intros; grind)) ?_)
    refine hK _ ?_
    clear hK K
    refine SW.ret ?_
    simp [Ex.then, Ex.inBlock, -strN]
    all_goals (simp [-strN])
    all_goals (try exact PlaceS_strM _))
set_option maxHeartbeats 1000000 in
theorem placesN_i (p : Prog) (g : Gor) (n : Int) (h : p.ok) (hg : g.ok) (hc : plsOk p g n = false) : Fn Try.prog 13 [.agg p.fr, .agg g.fr, .int .i64 n] (.nil) := by
  refine Fn.intro Try.func13 (by decide) rfl (rs := [.tmp 6]) rfl Try.ntmps13 (by simp) ?_
  have g1 := hg.1
  have g2 := hg.2
  refine SW.regionK fun K hK => ?_
  simp -implicitDefEqProofs
  repeat (refine And.intro (by clear hK; first | omega | (intros; simp_all; done) | (intros; grind)) ?_)
  refine hK _ ?_
  clear hK K
  refine SW.seqK fun K1 hK1 => ?_
  refine SW.regionK fun K hK => ?_
  simp -implicitDefEqProofs
  repeat (refine And.intro (by clear hK; first | omega | (intros; simp_all; done) | (intros; grind)) ?_)
  first
    | refine CallQ.fzE (gorOk_i p g h hg) (by simp) ?_
    | refine CallK.fzE (gorOk_i p g h hg) (by simp) ?_
  simp -implicitDefEqProofs
  repeat (refine And.intro (by clear hK; first | omega | (intros; simp_all; done) | (intros; grind)) ?_)
  refine hK _ ?_
  clear hK K
  refine SW.cond _ rfl (by simp) ?_ ?_
  case' refine_2 =>
   intro hb1
   have hno : (0 : Int) = 1 := by
     simp [plsOk] at hc
     simp at hb1
     grind
   first
   | (exfalso; simp at hb1; done)
   | (exfalso; simp at hb1; omega)
   | (
    refine SW.skip ?_
    refine hK1 _ ?_
    refine SW.regionK fun K hK => ?_
    simp -implicitDefEqProofs
    repeat (refine And.intro (by clear hK; first | omega | (intros; simp_all; done) | (intros; grind)) ?_)
    fail
    simp -implicitDefEqProofs
    repeat (refine And.intro (by clear hK; first | omega | (intros; simp_all; done) | (intros; grind)) ?_)
    refine hK _ ?_
    clear hK K
    refine SW.ret ?_
    simp [Ex.then, Ex.inBlock]
    all_goals (try simp))
  rotate_right
  case' _ =>
   intro hb1
   first
   | (exfalso; simp at hb1; done)
   | (exfalso; simp at hb1; omega)
   | (
    refine SW.regionK fun K hK => ?_
    simp -implicitDefEqProofs
    repeat (refine And.intro (by clear hK; first | omega | (intros; simp_all; done) | (intros; grind)) ?_)
    refine hK _ ?_
    clear hK K
    refine SW.ret ?_
    simp [Ex.then, Ex.inBlock]
    all_goals (try simp))
set_option maxHeartbeats 1000000 in
theorem law_placesY (a : Prog) (b : Gor) (n : Int) (fa : a.fit) (fb : b.fit) (hc : plsOk a b n = true) : Fn Try.prog 3 [.agg a.fr, .agg b.fr, .int .i64 n] (.bool true) := by
  refine Fn.intro Try.func3 (by decide) rfl (rs := [.tmp 6]) rfl Try.ntmps3 (by simp) ?_
  have q1 := szR_cases a.sz 1048576
  have q2 := szR_cases b.sz (szR a.sz 1048576)
  have qt := Prog.tw_le a
  have qg := Gor.tw_le b
  refine SW.regionK fun K hK => ?_
  simp -implicitDefEqProofs
  repeat refine ⟨by omega, ?_⟩
  refine hK _ ?_
  clear hK K
  refine SW.regionK fun K hK => ?_
  simp -implicitDefEqProofs
  repeat refine ⟨by omega, ?_⟩
  refine hK _ ?_
  clear hK K
  refine SW.regionK fun K hK => ?_
  simp -implicitDefEqProofs
  first | refine ⟨by omega, by omega, ?_⟩ | refine ⟨by omega, ?_⟩ | skip
  refine CallK.fzE (szProg_ok a 1048576 fa (by omega) (by omega)) (by simp) ?_
  simp -implicitDefEqProofs
  repeat refine ⟨by omega, ?_⟩
  refine hK _ ?_
  clear hK K
  refine SW.seqK fun K1 hK1 => ?_
  refine SW.regionK fun K hK => ?_
  simp -implicitDefEqProofs
  repeat refine ⟨by omega, ?_⟩
  refine hK _ ?_
  clear hK K
  refine SW.cond _ rfl (by simp) ?_ ?_
  case' refine_2 =>
   intro hb1
   first
   | (exfalso; simp at hb1; done)
   | (exfalso; simp at hb1; omega)
   | (
    have n1 : 0 ≤ szR a.sz 1048576 := by simp at hb1; omega
    have ha : a.ok := Prog.sz_ok (by omega)
    have hW : a.tw ≤ 2 ^ 30 := by omega
    have hl0 : a.caps.length ≤ 2 ^ 30 := by have := ha.1; omega
    have hl1 : a.sels.length ≤ 2 ^ 30 := by have := ha.2.1; omega
    have hl2 : a.procs.length ≤ 2 ^ 30 := by have := ha.2.2.2.1; omega
    refine SW.skip ?_
    refine hK1 _ ?_
    refine SW.regionK fun K hK => ?_
    simp -implicitDefEqProofs
    first | refine ⟨by omega, by omega, ?_⟩ | refine ⟨by omega, ?_⟩ | skip
    refine CallK.fzE (szGor_ok b (szR a.sz 1048576) fb (by omega) (by omega)) (by simp) ?_
    simp -implicitDefEqProofs
    repeat refine ⟨by omega, ?_⟩
    refine hK _ ?_
    clear hK K
    refine SW.seqK fun K2 hK2 => ?_
    refine SW.regionK fun K hK => ?_
    simp -implicitDefEqProofs
    repeat refine ⟨by omega, ?_⟩
    refine hK _ ?_
    clear hK K
    refine SW.cond _ rfl (by simp) ?_ ?_
    case' refine_2 =>
     intro hb2
     first
     | (exfalso; simp at hb2; done)
     | (exfalso; simp at hb2; omega)
     | (
      have n2 : 0 ≤ szR b.sz (szR a.sz 1048576) := by simp at hb2; omega
      have hb : b.ok := Gor.sz_ok (by omega)
      have hWg : b.tw ≤ 2 ^ 30 := by omega
      have hg0 : b.regs.length ≤ 2 ^ 30 := by have := hb.1; omega
      have hg1 : b.trace.length ≤ 2 ^ 30 := by have := hb.2; omega
      have hpl := pls_len (p := a) (g := b) (n := n) ha
      refine SW.skip ?_
      refine hK2 _ ?_
      refine SW.drawK mixed [.q [(0, false), (1, false), (2, false), (3, false), (4, false), (5, false), (6, false)]] (by kernel_rfl) rfl fun K hK => ?_
      simp -implicitDefEqProofs
      first | refine ⟨by omega, by omega, ?_⟩ | refine ⟨by omega, ?_⟩ | skip
      first
        | refine CallQ.fzE (toProg_ok a ha) (by simp) ?_
        | refine CallK.fzE (toProg_ok a ha) (by simp) ?_
      simp -implicitDefEqProofs
      first | refine ⟨by omega, by omega, ?_⟩ | refine ⟨by omega, ?_⟩ | skip
      first
        | refine CallQ.fzE (toGor_ok b hb) (by simp) ?_
        | refine CallK.fzE (toGor_ok b hb) (by simp) ?_
      simp -implicitDefEqProofs
      first | refine ⟨by omega, by omega, ?_⟩ | refine ⟨by omega, ?_⟩ | skip
      first
        | refine CallQ.fzE (placesY_s a b n ha hb hc) (by simp) ?_
        | refine CallK.fzE (placesY_s a b n ha hb hc) (by simp) ?_
      simp -implicitDefEqProofs
      repeat refine ⟨by omega, ?_⟩
      refine hK _ ?_
      clear hK K
      refine SW.regionK fun K hK => ?_
      simp -implicitDefEqProofs
      first | refine ⟨by omega, by omega, ?_⟩ | refine ⟨by omega, ?_⟩ | skip
      refine CallK.imE (toProg_ok a ha) (by simp) (Prog_oI a) ?_
      simp -implicitDefEqProofs
      repeat refine ⟨by omega, ?_⟩
      refine hK _ ?_
      clear hK K
      refine SW.regionK fun K hK => ?_
      simp -implicitDefEqProofs
      first | refine ⟨by omega, by omega, ?_⟩ | refine ⟨by omega, ?_⟩ | skip
      refine CallK.imE (toGor_ok b hb) (by simp) (Gor_oI b) ?_
      simp -implicitDefEqProofs
      repeat refine ⟨by omega, ?_⟩
      refine hK _ ?_
      clear hK K
      refine SW.regionK fun K hK => ?_
      simp -implicitDefEqProofs
      first | refine ⟨by omega, by omega, ?_⟩ | refine ⟨by omega, ?_⟩ | skip
      refine CallK.imE (placesY_i a b n ha hb hc) (by simp) (PlaceS_okI _) ?_
      simp -implicitDefEqProofs
      repeat refine ⟨by omega, ?_⟩
      refine hK _ ?_
      clear hK K
      refine SW.seqK fun K3 hK3 => ?_
      refine SW.regionK fun K hK => ?_
      simp -implicitDefEqProofs
      first | refine ⟨by omega, by omega, ?_⟩ | refine ⟨by omega, ?_⟩ | skip
      refine CallK.fzE (eqPlaceS_ok (pls a b n) (by omega)) (by simp) ?_
      simp -implicitDefEqProofs
      repeat refine ⟨by omega, ?_⟩
      refine hK _ ?_
      clear hK K
      refine SW.cond _ rfl (by simp) ?_ ?_
      case' refine_2 =>
       intro hb3
       first
       | (exfalso; simp at hb3; done)
       | (exfalso; simp at hb3; omega)
       | (
        refine SW.skip ?_
        refine hK3 _ ?_
        refine SW.seqK fun K4 hK4 => ?_
        refine SW.drawK mixed [.q [(0, false), (1, false), (2, false), (3, false), (4, false)]] (by kernel_rfl) rfl fun K hK => ?_
        simp -implicitDefEqProofs
        first | refine ⟨by omega, by omega, ?_⟩ | refine ⟨by omega, ?_⟩ | skip
        first
          | refine CallQ.fzE (toProg_ok a ha) (by simp) ?_
          | refine CallK.fzE (toProg_ok a ha) (by simp) ?_
        simp -implicitDefEqProofs
        first | refine ⟨by omega, by omega, ?_⟩ | refine ⟨by omega, ?_⟩ | skip
        refine CallQ.fzE (eqProg_ok a ha) (by simp) ?_
        simp -implicitDefEqProofs
        repeat refine ⟨by omega, ?_⟩
        refine hK _ ?_
        clear hK K
        refine SW.cond _ rfl (by simp) ?_ ?_
        case' refine_2 =>
         intro hb4
         first
         | (exfalso; simp at hb4; done)
         | (exfalso; simp at hb4; omega)
         | (
          refine SW.skip ?_
          refine hK4 _ ?_
          refine SW.seqK fun K5 hK5 => ?_
          refine SW.drawK mixed [.q [(0, false), (1, false), (2, false), (3, false), (4, false)]] (by kernel_rfl) rfl fun K hK => ?_
          simp -implicitDefEqProofs
          first | refine ⟨by omega, by omega, ?_⟩ | refine ⟨by omega, ?_⟩ | skip
          first
            | refine CallQ.fzE (toGor_ok b hb) (by simp) ?_
            | refine CallK.fzE (toGor_ok b hb) (by simp) ?_
          simp -implicitDefEqProofs
          first | refine ⟨by omega, by omega, ?_⟩ | refine ⟨by omega, ?_⟩ | skip
          refine CallQ.fzE (eqGor_ok b hb) (by simp) ?_
          simp -implicitDefEqProofs
          repeat refine ⟨by omega, ?_⟩
          refine hK _ ?_
          clear hK K
          refine SW.cond _ rfl (by simp) ?_ ?_
          case' refine_2 =>
           intro hb5
           first
           | (exfalso; simp at hb5; done)
           | (exfalso; simp at hb5; omega)
           | (
            refine SW.skip ?_
            refine hK5 _ ?_
            refine SW.regionK fun K hK => ?_
            simp -implicitDefEqProofs
            repeat refine ⟨by omega, ?_⟩
            refine hK _ ?_
            clear hK K
            refine SW.regionK fun K hK => ?_
            simp -implicitDefEqProofs
            first | refine ⟨by omega, by omega, ?_⟩ | refine ⟨by omega, ?_⟩ | skip
            refine CallS.mono (mark_Prog a 1 _ 2 3 4 _ rfl (by simp) _ rfl (by simp) _ rfl (by simp) (by simp) hW hl0 hl1 hl2 (by omega) (by omega)) ?_
            rintro o h' ⟨rfl, m1, m2, rfl⟩
            simp -implicitDefEqProofs
            repeat refine ⟨by omega, ?_⟩
            refine hK _ ?_
            clear hK K
            refine SW.regionK fun K hK => ?_
            simp -implicitDefEqProofs
            first | refine ⟨by omega, by omega, ?_⟩ | refine ⟨by omega, ?_⟩ | skip
            refine CallS.mono (mark_Gor b (1 + (a.tw : Int)) _ 6 7 _ rfl (by simp) _ rfl (by simp) (by simp) hWg hg0 hg1 (by omega) (by omega)) ?_
            rintro o h' ⟨rfl, rfl⟩
            simp -implicitDefEqProofs
            repeat refine ⟨by omega, ?_⟩
            refine hK _ ?_
            clear hK K
            refine SW.seqK fun K6 hK6 => ?_
            refine SW.regionK fun K hK => ?_
            simp -implicitDefEqProofs
            first | refine ⟨by omega, by omega, ?_⟩ | refine ⟨by omega, ?_⟩ | skip
            refine CallG.fzE (by simp) (fun _ => eqPlaceS_ok (pls a b n) (by omega)) (by simp) ?_
            simp -implicitDefEqProofs
            repeat refine ⟨by omega, ?_⟩
            refine hK _ ?_
            clear hK K
            refine SW.cond _ rfl (by simp) ?_ ?_
            case' refine_2 =>
             intro hb6
             first
             | (exfalso; simp at hb6; done)
             | (exfalso; simp at hb6; omega)
             | (
              refine SW.skip ?_
              refine hK6 _ ?_
              refine SW.regionK fun K hK => ?_
              simp -implicitDefEqProofs
              repeat refine ⟨by omega, ?_⟩
              refine hK _ ?_
              clear hK K
              refine SW.regionK fun K hK => ?_
              simp -implicitDefEqProofs
              first | refine ⟨by omega, by omega, ?_⟩ | refine ⟨by omega, ?_⟩ | skip
              refine CallS.mono (mark_PlaceS (pls a b n) 1 _ 9 _ rfl (by simp) (by omega) (by omega) (by omega)) ?_
              rintro o h' ⟨rfl, rfl⟩
              simp -implicitDefEqProofs
              repeat refine ⟨by omega, ?_⟩
              refine hK _ ?_
              clear hK K
              refine SW.regionK fun K hK => ?_
              simp -implicitDefEqProofs
              repeat refine ⟨by omega, ?_⟩
              refine hK _ ?_
              clear hK K
              refine SW.regionK fun K hK => ?_
              simp -implicitDefEqProofs
              first | refine ⟨by omega, by omega, ?_⟩ | refine ⟨by omega, ?_⟩ | skip
              refine CallK.fzE (held_PlaceS (pls a b n).length 1 (by omega) (by omega) (by omega)) (by simp) ?_
              simp -implicitDefEqProofs
              repeat refine ⟨by omega, ?_⟩
              refine hK _ ?_
              clear hK K
              refine SW.seqK fun K7 hK7 => ?_
              refine SW.regionK fun K hK => ?_
              simp -implicitDefEqProofs
              repeat refine ⟨by omega, ?_⟩
              refine hK _ ?_
              clear hK K
              refine SW.cond _ rfl (by simp) ?_ ?_
              case' refine_2 =>
               intro hb7
               first
               | (exfalso; simp at hb7; done)
               | (exfalso; simp at hb7; omega)
               | (
                refine SW.skip ?_
                refine hK7 _ ?_
                refine SW.seqK fun K8 hK8 => ?_
                refine SW.regionK fun K hK => ?_
                simp -implicitDefEqProofs
                repeat refine ⟨by omega, ?_⟩
                refine hK _ ?_
                clear hK K
                refine SW.cond _ rfl (by simp) ?_ ?_
                case' refine_2 =>
                 intro hb8
                 first
                 | (exfalso; simp at hb8; done)
                 | (exfalso; simp at hb8; omega)
                 | (
                  refine SW.skip ?_
                  refine hK8 _ ?_
                  refine SW.drawK mixed [.q [(0, false), (1, false), (2, false), (3, false), (4, false), (5, false), (6, false)]] (by kernel_rfl) rfl fun K hK => ?_
                  simp -implicitDefEqProofs
                  first | refine ⟨by omega, by omega, ?_⟩ | refine ⟨by omega, ?_⟩ | skip
                  first
                    | refine CallQ.fzE (toProg_ok a ha) (by simp) ?_
                    | refine CallK.fzE (toProg_ok a ha) (by simp) ?_
                  simp -implicitDefEqProofs
                  first | refine ⟨by omega, by omega, ?_⟩ | refine ⟨by omega, ?_⟩ | skip
                  first
                    | refine CallQ.fzE (toGor_ok b hb) (by simp) ?_
                    | refine CallK.fzE (toGor_ok b hb) (by simp) ?_
                  simp -implicitDefEqProofs
                  first | refine ⟨by omega, by omega, ?_⟩ | refine ⟨by omega, ?_⟩ | skip
                  first
                    | refine CallQ.fzE (placesY_i a b n ha hb hc) (by simp) ?_
                    | refine CallK.fzE (placesY_i a b n ha hb hc) (by simp) ?_
                  simp -implicitDefEqProofs
                  repeat refine ⟨by omega, ?_⟩
                  refine hK _ ?_
                  clear hK K
                  refine SW.seqK fun K9 hK9 => ?_
                  refine SW.regionK fun K hK => ?_
                  simp -implicitDefEqProofs
                  first | refine ⟨by omega, by omega, ?_⟩ | refine ⟨by omega, ?_⟩ | skip
                  refine CallK.fzE (eqPlaceS_ok (pls a b n) (by omega)) (by simp) ?_
                  simp -implicitDefEqProofs
                  repeat refine ⟨by omega, ?_⟩
                  refine hK _ ?_
                  clear hK K
                  refine SW.cond _ rfl (by simp) ?_ ?_
                  case' refine_2 =>
                   intro hb9
                   first
                   | (exfalso; simp at hb9; done)
                   | (exfalso; simp at hb9; omega)
                   | (
                    refine SW.skip ?_
                    refine hK9 _ ?_
                    refine SW.regionK fun K hK => ?_
                    simp -implicitDefEqProofs
                    repeat refine ⟨by omega, ?_⟩
                    refine hK _ ?_
                    clear hK K
                    refine SW.regionK fun K hK => ?_
                    simp -implicitDefEqProofs
                    first | refine ⟨by omega, by omega, ?_⟩ | refine ⟨by omega, ?_⟩ | skip
                    refine CallK.fzE (held_PlaceS (pls a b n).length 1 (by omega) (by omega) (by omega)) (by simp) ?_
                    simp -implicitDefEqProofs
                    repeat refine ⟨by omega, ?_⟩
                    refine hK _ ?_
                    clear hK K
                    refine SW.seqK fun K10 hK10 => ?_
                    refine SW.regionK fun K hK => ?_
                    simp -implicitDefEqProofs
                    repeat refine ⟨by omega, ?_⟩
                    refine hK _ ?_
                    clear hK K
                    refine SW.cond _ rfl (by simp) ?_ ?_
                    case' refine_2 =>
                     intro hb10
                     first
                     | (exfalso; simp at hb10; done)
                     | (exfalso; simp at hb10; omega)
                     | (
                      refine SW.skip ?_
                      refine hK10 _ ?_
                      refine SW.seqK fun K11 hK11 => ?_
                      refine SW.regionK fun K hK => ?_
                      simp -implicitDefEqProofs
                      repeat refine ⟨by omega, ?_⟩
                      refine hK _ ?_
                      clear hK K
                      refine SW.cond _ rfl (by simp) ?_ ?_
                      case' refine_2 =>
                       intro hb11
                       first
                       | (exfalso; simp at hb11; done)
                       | (exfalso; simp at hb11; omega)
                       | (
                        refine SW.skip ?_
                        refine hK11 _ ?_
                        refine SW.regionK fun K hK => ?_
                        simp -implicitDefEqProofs
                        repeat refine ⟨by omega, ?_⟩
                        refine hK _ ?_
                        clear hK K
                        refine SW.ret ?_
                        simp [Ex.then, Ex.inBlock])
                      rotate_right
                      case' _ =>
                       intro hb11
                       first
                       | (exfalso; simp at hb11; done)
                       | (exfalso; simp at hb11; omega)
                       | (
                        refine SW.regionK fun K hK => ?_
                        simp -implicitDefEqProofs
                        repeat refine ⟨by omega, ?_⟩
                        refine hK _ ?_
                        clear hK K
                        refine SW.ret ?_
                        simp [Ex.then, Ex.inBlock]))
                    rotate_right
                    case' _ =>
                     intro hb10
                     first
                     | (exfalso; simp at hb10; done)
                     | (exfalso; simp at hb10; omega)
                     | (
                      refine SW.regionK fun K hK => ?_
                      simp -implicitDefEqProofs
                      repeat refine ⟨by omega, ?_⟩
                      refine hK _ ?_
                      clear hK K
                      refine SW.ret ?_
                      simp [Ex.then, Ex.inBlock]))
                  rotate_right
                  case' _ =>
                   intro hb9
                   first
                   | (exfalso; simp at hb9; done)
                   | (exfalso; simp at hb9; omega)
                   | (
                    refine SW.regionK fun K hK => ?_
                    simp -implicitDefEqProofs
                    repeat refine ⟨by omega, ?_⟩
                    refine hK _ ?_
                    clear hK K
                    refine SW.ret ?_
                    simp [Ex.then, Ex.inBlock]))
                rotate_right
                case' _ =>
                 intro hb8
                 first
                 | (exfalso; simp at hb8; done)
                 | (exfalso; simp at hb8; omega)
                 | (
                  refine SW.regionK fun K hK => ?_
                  simp -implicitDefEqProofs
                  repeat refine ⟨by omega, ?_⟩
                  refine hK _ ?_
                  clear hK K
                  refine SW.ret ?_
                  simp [Ex.then, Ex.inBlock]))
              rotate_right
              case' _ =>
               intro hb7
               first
               | (exfalso; simp at hb7; done)
               | (exfalso; simp at hb7; omega)
               | (
                refine SW.regionK fun K hK => ?_
                simp -implicitDefEqProofs
                repeat refine ⟨by omega, ?_⟩
                refine hK _ ?_
                clear hK K
                refine SW.ret ?_
                simp [Ex.then, Ex.inBlock]))
            rotate_right
            case' _ =>
             intro hb6
             first
             | (exfalso; simp at hb6; done)
             | (exfalso; simp at hb6; omega)
             | (
              refine SW.regionK fun K hK => ?_
              simp -implicitDefEqProofs
              repeat refine ⟨by omega, ?_⟩
              refine hK _ ?_
              clear hK K
              refine SW.ret ?_
              simp [Ex.then, Ex.inBlock]))
          rotate_right
          case' _ =>
           intro hb5
           first
           | (exfalso; simp at hb5; done)
           | (exfalso; simp at hb5; omega)
           | (
            refine SW.regionK fun K hK => ?_
            simp -implicitDefEqProofs
            repeat refine ⟨by omega, ?_⟩
            refine hK _ ?_
            clear hK K
            refine SW.ret ?_
            simp [Ex.then, Ex.inBlock]))
        rotate_right
        case' _ =>
         intro hb4
         first
         | (exfalso; simp at hb4; done)
         | (exfalso; simp at hb4; omega)
         | (
          refine SW.regionK fun K hK => ?_
          simp -implicitDefEqProofs
          repeat refine ⟨by omega, ?_⟩
          refine hK _ ?_
          clear hK K
          refine SW.ret ?_
          simp [Ex.then, Ex.inBlock]))
      rotate_right
      case' _ =>
       intro hb3
       first
       | (exfalso; simp at hb3; done)
       | (exfalso; simp at hb3; omega)
       | (
        refine SW.regionK fun K hK => ?_
        simp -implicitDefEqProofs
        repeat refine ⟨by omega, ?_⟩
        refine hK _ ?_
        clear hK K
        refine SW.ret ?_
        simp [Ex.then, Ex.inBlock]))
    rotate_right
    case' _ =>
     intro hb2
     first
     | (exfalso; simp at hb2; done)
     | (exfalso; simp at hb2; omega)
     | (
      refine SW.regionK fun K hK => ?_
      simp -implicitDefEqProofs
      repeat refine ⟨by omega, ?_⟩
      refine hK _ ?_
      clear hK K
      refine SW.ret ?_
      simp [Ex.then, Ex.inBlock]))
  rotate_right
  case' _ =>
   intro hb1
   first
   | (exfalso; simp at hb1; done)
   | (exfalso; simp at hb1; omega)
   | (
    refine SW.regionK fun K hK => ?_
    simp -implicitDefEqProofs
    repeat refine ⟨by omega, ?_⟩
    refine hK _ ?_
    clear hK K
    refine SW.ret ?_
    simp [Ex.then, Ex.inBlock])
set_option maxHeartbeats 1000000 in
theorem law_placesN (a : Prog) (b : Gor) (n : Int) (fa : a.fit) (fb : b.fit) (hc : plsOk a b n = false) : Fn Try.prog 3 [.agg a.fr, .agg b.fr, .int .i64 n] (.bool true) := by
  refine Fn.intro Try.func3 (by decide) rfl (rs := [.tmp 6]) rfl Try.ntmps3 (by simp) ?_
  have q1 := szR_cases a.sz 1048576
  have q2 := szR_cases b.sz (szR a.sz 1048576)
  have qt := Prog.tw_le a
  have qg := Gor.tw_le b
  refine SW.regionK fun K hK => ?_
  simp -implicitDefEqProofs
  repeat refine ⟨by omega, ?_⟩
  refine hK _ ?_
  clear hK K
  refine SW.regionK fun K hK => ?_
  simp -implicitDefEqProofs
  repeat refine ⟨by omega, ?_⟩
  refine hK _ ?_
  clear hK K
  refine SW.regionK fun K hK => ?_
  simp -implicitDefEqProofs
  first | refine ⟨by omega, by omega, ?_⟩ | refine ⟨by omega, ?_⟩ | skip
  refine CallK.fzE (szProg_ok a 1048576 fa (by omega) (by omega)) (by simp) ?_
  simp -implicitDefEqProofs
  repeat refine ⟨by omega, ?_⟩
  refine hK _ ?_
  clear hK K
  refine SW.seqK fun K1 hK1 => ?_
  refine SW.regionK fun K hK => ?_
  simp -implicitDefEqProofs
  repeat refine ⟨by omega, ?_⟩
  refine hK _ ?_
  clear hK K
  refine SW.cond _ rfl (by simp) ?_ ?_
  case' refine_2 =>
   intro hb1
   first
   | (exfalso; simp at hb1; done)
   | (exfalso; simp at hb1; omega)
   | (
    have n1 : 0 ≤ szR a.sz 1048576 := by simp at hb1; omega
    have ha : a.ok := Prog.sz_ok (by omega)
    have hW : a.tw ≤ 2 ^ 30 := by omega
    have hl0 : a.caps.length ≤ 2 ^ 30 := by have := ha.1; omega
    have hl1 : a.sels.length ≤ 2 ^ 30 := by have := ha.2.1; omega
    have hl2 : a.procs.length ≤ 2 ^ 30 := by have := ha.2.2.2.1; omega
    refine SW.skip ?_
    refine hK1 _ ?_
    refine SW.regionK fun K hK => ?_
    simp -implicitDefEqProofs
    first | refine ⟨by omega, by omega, ?_⟩ | refine ⟨by omega, ?_⟩ | skip
    refine CallK.fzE (szGor_ok b (szR a.sz 1048576) fb (by omega) (by omega)) (by simp) ?_
    simp -implicitDefEqProofs
    repeat refine ⟨by omega, ?_⟩
    refine hK _ ?_
    clear hK K
    refine SW.seqK fun K2 hK2 => ?_
    refine SW.regionK fun K hK => ?_
    simp -implicitDefEqProofs
    repeat refine ⟨by omega, ?_⟩
    refine hK _ ?_
    clear hK K
    refine SW.cond _ rfl (by simp) ?_ ?_
    case' refine_2 =>
     intro hb2
     first
     | (exfalso; simp at hb2; done)
     | (exfalso; simp at hb2; omega)
     | (
      have n2 : 0 ≤ szR b.sz (szR a.sz 1048576) := by simp at hb2; omega
      have hb : b.ok := Gor.sz_ok (by omega)
      have hWg : b.tw ≤ 2 ^ 30 := by omega
      have hg0 : b.regs.length ≤ 2 ^ 30 := by have := hb.1; omega
      have hg1 : b.trace.length ≤ 2 ^ 30 := by have := hb.2; omega
      have hpl := pls_len (p := a) (g := b) (n := n) ha
      refine SW.skip ?_
      refine hK2 _ ?_
      refine SW.drawK mixed [.q [(0, false), (1, false), (2, false), (3, false), (4, false), (5, false), (6, false)]] (by kernel_rfl) rfl fun K hK => ?_
      simp -implicitDefEqProofs
      first | refine ⟨by omega, by omega, ?_⟩ | refine ⟨by omega, ?_⟩ | skip
      first
        | refine CallQ.fzE (toProg_ok a ha) (by simp) ?_
        | refine CallK.fzE (toProg_ok a ha) (by simp) ?_
      simp -implicitDefEqProofs
      first | refine ⟨by omega, by omega, ?_⟩ | refine ⟨by omega, ?_⟩ | skip
      first
        | refine CallQ.fzE (toGor_ok b hb) (by simp) ?_
        | refine CallK.fzE (toGor_ok b hb) (by simp) ?_
      simp -implicitDefEqProofs
      first | refine ⟨by omega, by omega, ?_⟩ | refine ⟨by omega, ?_⟩ | skip
      first
        | refine CallQ.fzE (placesN_s a b n ha hb hc) (by simp) ?_
        | refine CallK.fzE (placesN_s a b n ha hb hc) (by simp) ?_
      simp -implicitDefEqProofs
      repeat refine ⟨by omega, ?_⟩
      refine hK _ ?_
      clear hK K
      refine SW.regionK fun K hK => ?_
      simp -implicitDefEqProofs
      first | refine ⟨by omega, by omega, ?_⟩ | refine ⟨by omega, ?_⟩ | skip
      refine CallK.imE (toProg_ok a ha) (by simp) (Prog_oI a) ?_
      simp -implicitDefEqProofs
      repeat refine ⟨by omega, ?_⟩
      refine hK _ ?_
      clear hK K
      refine SW.regionK fun K hK => ?_
      simp -implicitDefEqProofs
      first | refine ⟨by omega, by omega, ?_⟩ | refine ⟨by omega, ?_⟩ | skip
      refine CallK.imE (toGor_ok b hb) (by simp) (Gor_oI b) ?_
      simp -implicitDefEqProofs
      repeat refine ⟨by omega, ?_⟩
      refine hK _ ?_
      clear hK K
      refine SW.regionK fun K hK => ?_
      simp -implicitDefEqProofs
      first | refine ⟨by omega, by omega, ?_⟩ | refine ⟨by omega, ?_⟩ | skip
      first
        | refine CallQ.fzE (placesN_i a b n ha hb hc) (by simp) ?_
        | refine CallK.fzE (placesN_i a b n ha hb hc) (by simp) ?_
      simp -implicitDefEqProofs
      repeat refine ⟨by omega, ?_⟩
      refine hK _ ?_
      clear hK K
      refine SW.seqK fun K3 hK3 => ?_
      refine SW.regionK fun K hK => ?_
      simp -implicitDefEqProofs
      first | refine ⟨by omega, by omega, ?_⟩ | refine ⟨by omega, ?_⟩ | skip
      refine CallK.fzE (eqPlaceS_nil) (by simp) ?_
      simp -implicitDefEqProofs
      repeat refine ⟨by omega, ?_⟩
      refine hK _ ?_
      clear hK K
      refine SW.cond _ rfl (by simp) ?_ ?_
      case' refine_2 =>
       intro hb3
       first
       | (exfalso; simp at hb3; done)
       | (exfalso; simp at hb3; omega)
       | (
        refine SW.skip ?_
        refine hK3 _ ?_
        refine SW.seqK fun K4 hK4 => ?_
        refine SW.drawK mixed [.q [(0, false), (1, false), (2, false), (3, false), (4, false)]] (by kernel_rfl) rfl fun K hK => ?_
        simp -implicitDefEqProofs
        first | refine ⟨by omega, by omega, ?_⟩ | refine ⟨by omega, ?_⟩ | skip
        first
          | refine CallQ.fzE (toProg_ok a ha) (by simp) ?_
          | refine CallK.fzE (toProg_ok a ha) (by simp) ?_
        simp -implicitDefEqProofs
        first | refine ⟨by omega, by omega, ?_⟩ | refine ⟨by omega, ?_⟩ | skip
        refine CallQ.fzE (eqProg_ok a ha) (by simp) ?_
        simp -implicitDefEqProofs
        repeat refine ⟨by omega, ?_⟩
        refine hK _ ?_
        clear hK K
        refine SW.cond _ rfl (by simp) ?_ ?_
        case' refine_2 =>
         intro hb4
         first
         | (exfalso; simp at hb4; done)
         | (exfalso; simp at hb4; omega)
         | (
          refine SW.skip ?_
          refine hK4 _ ?_
          refine SW.seqK fun K5 hK5 => ?_
          refine SW.drawK mixed [.q [(0, false), (1, false), (2, false), (3, false), (4, false)]] (by kernel_rfl) rfl fun K hK => ?_
          simp -implicitDefEqProofs
          first | refine ⟨by omega, by omega, ?_⟩ | refine ⟨by omega, ?_⟩ | skip
          first
            | refine CallQ.fzE (toGor_ok b hb) (by simp) ?_
            | refine CallK.fzE (toGor_ok b hb) (by simp) ?_
          simp -implicitDefEqProofs
          first | refine ⟨by omega, by omega, ?_⟩ | refine ⟨by omega, ?_⟩ | skip
          refine CallQ.fzE (eqGor_ok b hb) (by simp) ?_
          simp -implicitDefEqProofs
          repeat refine ⟨by omega, ?_⟩
          refine hK _ ?_
          clear hK K
          refine SW.cond _ rfl (by simp) ?_ ?_
          case' refine_2 =>
           intro hb5
           first
           | (exfalso; simp at hb5; done)
           | (exfalso; simp at hb5; omega)
           | (
            refine SW.skip ?_
            refine hK5 _ ?_
            refine SW.regionK fun K hK => ?_
            simp -implicitDefEqProofs
            repeat refine ⟨by omega, ?_⟩
            refine hK _ ?_
            clear hK K
            refine SW.regionK fun K hK => ?_
            simp -implicitDefEqProofs
            first | refine ⟨by omega, by omega, ?_⟩ | refine ⟨by omega, ?_⟩ | skip
            refine CallS.mono (mark_Prog a 1 _ 2 3 4 _ rfl (by simp) _ rfl (by simp) _ rfl (by simp) (by simp) hW hl0 hl1 hl2 (by omega) (by omega)) ?_
            rintro o h' ⟨rfl, m1, m2, rfl⟩
            simp -implicitDefEqProofs
            repeat refine ⟨by omega, ?_⟩
            refine hK _ ?_
            clear hK K
            refine SW.regionK fun K hK => ?_
            simp -implicitDefEqProofs
            first | refine ⟨by omega, by omega, ?_⟩ | refine ⟨by omega, ?_⟩ | skip
            refine CallS.mono (mark_Gor b (1 + (a.tw : Int)) _ 6 7 _ rfl (by simp) _ rfl (by simp) (by simp) hWg hg0 hg1 (by omega) (by omega)) ?_
            rintro o h' ⟨rfl, rfl⟩
            simp -implicitDefEqProofs
            repeat refine ⟨by omega, ?_⟩
            refine hK _ ?_
            clear hK K
            refine SW.seqK fun K6 hK6 => ?_
            refine SW.regionK fun K hK => ?_
            simp -implicitDefEqProofs
            first | refine ⟨by omega, by omega, ?_⟩ | refine ⟨by omega, ?_⟩ | skip
            refine CallG.fzE (by simp) (fun _ => eqPlaceS_nil) (by simp) ?_
            simp -implicitDefEqProofs
            repeat refine ⟨by omega, ?_⟩
            refine hK _ ?_
            clear hK K
            refine SW.cond _ rfl (by simp) ?_ ?_
            case' refine_2 =>
             intro hb6
             first
             | (exfalso; simp at hb6; done)
             | (exfalso; simp at hb6; omega)
             | (
              refine SW.skip ?_
              refine hK6 _ ?_
              refine SW.regionK fun K hK => ?_
              simp -implicitDefEqProofs
              repeat refine ⟨by omega, ?_⟩
              refine hK _ ?_
              clear hK K
              refine SW.regionK fun K hK => ?_
              simp -implicitDefEqProofs
              first | refine ⟨by omega, by omega, ?_⟩ | refine ⟨by omega, ?_⟩ | skip
              refine CallS.mono (mark_PlaceS_nil _ 1) ?_
              rintro o h' ⟨rfl, rfl⟩
              simp -implicitDefEqProofs
              repeat refine ⟨by omega, ?_⟩
              refine hK _ ?_
              clear hK K
              refine SW.regionK fun K hK => ?_
              simp -implicitDefEqProofs
              repeat refine ⟨by omega, ?_⟩
              refine hK _ ?_
              clear hK K
              refine SW.regionK fun K hK => ?_
              simp -implicitDefEqProofs
              first | refine ⟨by omega, by omega, ?_⟩ | refine ⟨by omega, ?_⟩ | skip
              refine CallK.fzE (held_PlaceS_nil) (by simp) ?_
              simp -implicitDefEqProofs
              repeat refine ⟨by omega, ?_⟩
              refine hK _ ?_
              clear hK K
              refine SW.seqK fun K7 hK7 => ?_
              refine SW.regionK fun K hK => ?_
              simp -implicitDefEqProofs
              repeat refine ⟨by omega, ?_⟩
              refine hK _ ?_
              clear hK K
              refine SW.cond _ rfl (by simp) ?_ ?_
              case' refine_2 =>
               intro hb7
               first
               | (exfalso; simp at hb7; done)
               | (exfalso; simp at hb7; omega)
               | (
                refine SW.skip ?_
                refine hK7 _ ?_
                refine SW.seqK fun K8 hK8 => ?_
                refine SW.regionK fun K hK => ?_
                simp -implicitDefEqProofs
                repeat refine ⟨by omega, ?_⟩
                refine hK _ ?_
                clear hK K
                refine SW.cond _ rfl (by simp) ?_ ?_
                case' refine_2 =>
                 intro hb8
                 first
                 | (exfalso; simp at hb8; done)
                 | (exfalso; simp at hb8; omega)
                 | (
                  refine SW.skip ?_
                  refine hK8 _ ?_
                  refine SW.drawK mixed [.q [(0, false), (1, false), (2, false), (3, false), (4, false), (5, false), (6, false)]] (by kernel_rfl) rfl fun K hK => ?_
                  simp -implicitDefEqProofs
                  first | refine ⟨by omega, by omega, ?_⟩ | refine ⟨by omega, ?_⟩ | skip
                  first
                    | refine CallQ.fzE (toProg_ok a ha) (by simp) ?_
                    | refine CallK.fzE (toProg_ok a ha) (by simp) ?_
                  simp -implicitDefEqProofs
                  first | refine ⟨by omega, by omega, ?_⟩ | refine ⟨by omega, ?_⟩ | skip
                  first
                    | refine CallQ.fzE (toGor_ok b hb) (by simp) ?_
                    | refine CallK.fzE (toGor_ok b hb) (by simp) ?_
                  simp -implicitDefEqProofs
                  first | refine ⟨by omega, by omega, ?_⟩ | refine ⟨by omega, ?_⟩ | skip
                  first
                    | refine CallQ.fzE (placesN_i a b n ha hb hc) (by simp) ?_
                    | refine CallK.fzE (placesN_i a b n ha hb hc) (by simp) ?_
                  simp -implicitDefEqProofs
                  repeat refine ⟨by omega, ?_⟩
                  refine hK _ ?_
                  clear hK K
                  refine SW.seqK fun K9 hK9 => ?_
                  refine SW.regionK fun K hK => ?_
                  simp -implicitDefEqProofs
                  first | refine ⟨by omega, by omega, ?_⟩ | refine ⟨by omega, ?_⟩ | skip
                  refine CallK.fzE (eqPlaceS_nil) (by simp) ?_
                  simp -implicitDefEqProofs
                  repeat refine ⟨by omega, ?_⟩
                  refine hK _ ?_
                  clear hK K
                  refine SW.cond _ rfl (by simp) ?_ ?_
                  case' refine_2 =>
                   intro hb9
                   first
                   | (exfalso; simp at hb9; done)
                   | (exfalso; simp at hb9; omega)
                   | (
                    refine SW.skip ?_
                    refine hK9 _ ?_
                    refine SW.regionK fun K hK => ?_
                    simp -implicitDefEqProofs
                    repeat refine ⟨by omega, ?_⟩
                    refine hK _ ?_
                    clear hK K
                    refine SW.regionK fun K hK => ?_
                    simp -implicitDefEqProofs
                    first | refine ⟨by omega, by omega, ?_⟩ | refine ⟨by omega, ?_⟩ | skip
                    refine CallK.fzE (held_PlaceS_nil) (by simp) ?_
                    simp -implicitDefEqProofs
                    repeat refine ⟨by omega, ?_⟩
                    refine hK _ ?_
                    clear hK K
                    refine SW.seqK fun K10 hK10 => ?_
                    refine SW.regionK fun K hK => ?_
                    simp -implicitDefEqProofs
                    repeat refine ⟨by omega, ?_⟩
                    refine hK _ ?_
                    clear hK K
                    refine SW.cond _ rfl (by simp) ?_ ?_
                    case' refine_2 =>
                     intro hb10
                     first
                     | (exfalso; simp at hb10; done)
                     | (exfalso; simp at hb10; omega)
                     | (
                      refine SW.skip ?_
                      refine hK10 _ ?_
                      refine SW.seqK fun K11 hK11 => ?_
                      refine SW.regionK fun K hK => ?_
                      simp -implicitDefEqProofs
                      repeat refine ⟨by omega, ?_⟩
                      refine hK _ ?_
                      clear hK K
                      refine SW.cond _ rfl (by simp) ?_ ?_
                      case' refine_2 =>
                       intro hb11
                       first
                       | (exfalso; simp at hb11; done)
                       | (exfalso; simp at hb11; omega)
                       | (
                        refine SW.skip ?_
                        refine hK11 _ ?_
                        refine SW.regionK fun K hK => ?_
                        simp -implicitDefEqProofs
                        repeat refine ⟨by omega, ?_⟩
                        refine hK _ ?_
                        clear hK K
                        refine SW.ret ?_
                        simp [Ex.then, Ex.inBlock])
                      rotate_right
                      case' _ =>
                       intro hb11
                       first
                       | (exfalso; simp at hb11; done)
                       | (exfalso; simp at hb11; omega)
                       | (
                        refine SW.regionK fun K hK => ?_
                        simp -implicitDefEqProofs
                        repeat refine ⟨by omega, ?_⟩
                        refine hK _ ?_
                        clear hK K
                        refine SW.ret ?_
                        simp [Ex.then, Ex.inBlock]))
                    rotate_right
                    case' _ =>
                     intro hb10
                     first
                     | (exfalso; simp at hb10; done)
                     | (exfalso; simp at hb10; omega)
                     | (
                      refine SW.regionK fun K hK => ?_
                      simp -implicitDefEqProofs
                      repeat refine ⟨by omega, ?_⟩
                      refine hK _ ?_
                      clear hK K
                      refine SW.ret ?_
                      simp [Ex.then, Ex.inBlock]))
                  rotate_right
                  case' _ =>
                   intro hb9
                   first
                   | (exfalso; simp at hb9; done)
                   | (exfalso; simp at hb9; omega)
                   | (
                    refine SW.regionK fun K hK => ?_
                    simp -implicitDefEqProofs
                    repeat refine ⟨by omega, ?_⟩
                    refine hK _ ?_
                    clear hK K
                    refine SW.ret ?_
                    simp [Ex.then, Ex.inBlock]))
                rotate_right
                case' _ =>
                 intro hb8
                 first
                 | (exfalso; simp at hb8; done)
                 | (exfalso; simp at hb8; omega)
                 | (
                  refine SW.regionK fun K hK => ?_
                  simp -implicitDefEqProofs
                  repeat refine ⟨by omega, ?_⟩
                  refine hK _ ?_
                  clear hK K
                  refine SW.ret ?_
                  simp [Ex.then, Ex.inBlock]))
              rotate_right
              case' _ =>
               intro hb7
               first
               | (exfalso; simp at hb7; done)
               | (exfalso; simp at hb7; omega)
               | (
                refine SW.regionK fun K hK => ?_
                simp -implicitDefEqProofs
                repeat refine ⟨by omega, ?_⟩
                refine hK _ ?_
                clear hK K
                refine SW.ret ?_
                simp [Ex.then, Ex.inBlock]))
            rotate_right
            case' _ =>
             intro hb6
             first
             | (exfalso; simp at hb6; done)
             | (exfalso; simp at hb6; omega)
             | (
              refine SW.regionK fun K hK => ?_
              simp -implicitDefEqProofs
              repeat refine ⟨by omega, ?_⟩
              refine hK _ ?_
              clear hK K
              refine SW.ret ?_
              simp [Ex.then, Ex.inBlock]))
          rotate_right
          case' _ =>
           intro hb5
           first
           | (exfalso; simp at hb5; done)
           | (exfalso; simp at hb5; omega)
           | (
            refine SW.regionK fun K hK => ?_
            simp -implicitDefEqProofs
            repeat refine ⟨by omega, ?_⟩
            refine hK _ ?_
            clear hK K
            refine SW.ret ?_
            simp [Ex.then, Ex.inBlock]))
        rotate_right
        case' _ =>
         intro hb4
         first
         | (exfalso; simp at hb4; done)
         | (exfalso; simp at hb4; omega)
         | (
          refine SW.regionK fun K hK => ?_
          simp -implicitDefEqProofs
          repeat refine ⟨by omega, ?_⟩
          refine hK _ ?_
          clear hK K
          refine SW.ret ?_
          simp [Ex.then, Ex.inBlock]))
      rotate_right
      case' _ =>
       intro hb3
       first
       | (exfalso; simp at hb3; done)
       | (exfalso; simp at hb3; omega)
       | (
        refine SW.regionK fun K hK => ?_
        simp -implicitDefEqProofs
        repeat refine ⟨by omega, ?_⟩
        refine hK _ ?_
        clear hK K
        refine SW.ret ?_
        simp [Ex.then, Ex.inBlock]))
    rotate_right
    case' _ =>
     intro hb2
     first
     | (exfalso; simp at hb2; done)
     | (exfalso; simp at hb2; omega)
     | (
      refine SW.regionK fun K hK => ?_
      simp -implicitDefEqProofs
      repeat refine ⟨by omega, ?_⟩
      refine hK _ ?_
      clear hK K
      refine SW.ret ?_
      simp [Ex.then, Ex.inBlock]))
  rotate_right
  case' _ =>
   intro hb1
   first
   | (exfalso; simp at hb1; done)
   | (exfalso; simp at hb1; omega)
   | (
    refine SW.regionK fun K hK => ?_
    simp -implicitDefEqProofs
    repeat refine ⟨by omega, ?_⟩
    refine hK _ ?_
    clear hK K
    refine SW.ret ?_
    simp [Ex.then, Ex.inBlock])
theorem law_places (a : Prog) (b : Gor) (n : Int) (fa : a.fit) (fb : b.fit) : Fn Try.prog 3 [.agg a.fr, .agg b.fr, .int .i64 n] (.bool true) := by
  cases hc : plsOk a b n with
  | true => exact law_placesY a b n fa fb hc
  | false => exact law_placesN a b n fa fb hc
end HT
