import Derived.Test.YtnehpceohjlacaaHTW
import Derived.Test.YtnehpceohjlacaaG5
import Derived.Test.YtnehpceohjlacaaHK36
/-
  My own texts (road H): HTX.
-/
set_option linter.unusedSimpArgs false
set_option linter.unusedVariables false
namespace HT
open Go Go.Proofs HK
def nxt (p : Prog) (g : Gor) : Instr × Bool :=
  if gorOk p g && ((burnR p 500 2000 g 0).1.state == 1 && isShared (atI p (burnR p 500 2000 g 0).1).op) then (atI p (burnR p 500 2000 g 0).1, true) else (⟨0, 0, 0, 0⟩, false)
set_option maxHeartbeats 1000000 in
theorem nxt_s (p : Prog) (g : Gor) (h : p.ok) (hg : g.ok) : Fn Try.prog 21 [.agg p.fr, .agg g.fr] (.tup [.agg (nxt p g).1.cl, .bool (nxt p g).2]) := by
  refine Fn.intro Try.func21 (by decide) rfl (rs := [.cell 4 51, .tmp 5]) rfl Try.ntmps21 (by simp) ?_
  have g1 := hg.1
  have g2 := hg.2
  refine SW.regionK fun K hK => ?_
  simp -implicitDefEqProofs
  repeat (refine And.intro (by clear hK; first | omega | (intros; simp_all; done) | (intros; grind)) ?_)
  refine hK _ ?_
  clear hK K
  refine SW.seqK fun K1 hK1 => ?_
  refine SW.regionK fun K hK => ?_
  simp -implicitDefEqProofs
  repeat (refine And.intro (by clear hK; first | omega | (intros; simp_all; done) | (intros; grind)) ?_)
  first
    | refine CallQ.fzE (gorOk_s p g h hg) (by simp) ?_
    | refine CallK.fzE (gorOk_s p g h hg) (by simp) ?_
  simp -implicitDefEqProofs
  repeat (refine And.intro (by clear hK; first | omega | (intros; simp_all; done) | (intros; grind)) ?_)
  refine hK _ ?_
  clear hK K
  refine SW.cond _ rfl (by simp) ?_ ?_
  case' refine_2 =>
   intro hb1
   first
   | (exfalso; simp at hb1; done)
   | (exfalso; simp at hb1; omega)
   | (
    have hk : gorOk p g = true := by simpa using hb1
    have hk6 : g.regs.length = 6 := by
      simp only [gorOk, gorIn, gorHead, Bool.and_eq_true, decide_eq_true_eq] at hk
      omega
    have hpo : progOk p = true := by simp only [gorOk, Bool.and_eq_true] at hk; exact hk.1
    have hI : Inv p g 1050000 := ⟨hpo, gor_at hk, hk6, by omega⟩
    have hR := burn_inv (most := 500) (f := 2000) (n := 0) hI
    have hr0 : nxt p g = if ((burnR p 500 2000 g 0).1.state == 1 && isShared (atI p (burnR p 500 2000 g 0).1).op) then (atI p (burnR p 500 2000 g 0).1, true) else (⟨0, 0, 0, 0⟩, false) := by rw [nxt, hk]; simp
    have hBs := burn_s p g 500 h hI
    have hBi := burn_i p g 500 h hI
    generalize burnR p 500 2000 g 0 = r at hR hr0 hBs hBi
    have hat := hR.here
    refine SW.skip ?_
    refine hK1 _ ?_
    refine SW.regionK fun K hK => ?_
    simp -implicitDefEqProofs
    repeat (refine And.intro (by clear hK; first | omega | (intros; simp_all; done) | (intros; grind)) ?_)
    refine CallK.fzE hBs (by simp) ?_
    simp -implicitDefEqProofs
    repeat (refine And.intro (by clear hK; first | omega | (intros; simp_all; done) | (intros; grind)) ?_)
    refine hK _ ?_
    clear hK K
    refine SW.seqK fun K2 hK2 => ?_
    refine SW.regionK fun K hK => ?_
    simp -implicitDefEqProofs
    repeat (refine And.intro (by clear hK; first | omega | (intros; simp_all; done) | (intros; grind)) ?_)
    refine CallG.fzE (by simp) (fun _ => instr_s p r.1 hat) (by simp) ?_
    simp -implicitDefEqProofs
    repeat (refine And.intro (by clear hK; first | omega | (intros; simp_all; done) | (intros; grind)) ?_)
    refine CallG.fzE (by simp) (fun _ => shared_s (atI p r.1).op) (by simp) ?_
    simp -implicitDefEqProofs
    repeat (refine And.intro (by clear hK; first | omega | (intros; simp_all; done) | (intros; grind)) ?_)
    refine hK _ ?_
    clear hK K
    refine SW.cond _ rfl (by simp) ?_ ?_
    case' refine_2 =>
     intro hb2
     first
     | (exfalso; simp at hb2; done)
     | (exfalso; simp at hb2; omega)
     | (
      have hr : nxt p g = (atI p r.1, true) := by
        rw [hr0, if_pos]
        simp at hb2 ⊢
        grind
      refine SW.skip ?_
      refine hK2 _ ?_
      refine SW.regionK fun K hK => ?_
      simp -implicitDefEqProofs
      repeat (refine And.intro (by clear hK; first | omega | (intros; simp_all; done) | (intros; grind)) ?_)
      refine CallK.fzE (instr_s p r.1 hat) (by simp) ?_
      simp -implicitDefEqProofs
      repeat (refine And.intro (by clear hK; first | omega | (intros; simp_all; done) | (intros; grind)) ?_)
      refine hK _ ?_
      clear hK K
      refine SW.ret ?_
      simp [Ex.then, Ex.inBlock]
      all_goals first
        | (rw [hr]; simp; done)
        | (simp [hr]; done)
        | fail)
    rotate_right
    case' _ =>
     intro hb2
     first
     | (exfalso; simp at hb2; done)
     | (exfalso; simp at hb2; omega)
     | (
      have hr : nxt p g = (⟨0, 0, 0, 0⟩, false) := by
        rw [hr0, if_neg]
        simp at hb2 ⊢
        grind
      refine SW.regionK fun K hK => ?_
      simp -implicitDefEqProofs
      repeat (refine And.intro (by clear hK; first | omega | (intros; simp_all; done) | (intros; grind)) ?_)
      refine hK _ ?_
      clear hK K
      refine SW.ret ?_
      simp [Ex.then, Ex.inBlock]
      all_goals first
        | (rw [hr]; simp; done)
        | (simp [hr]; done)
        | fail))
  rotate_right
  case' _ =>
   intro hb1
   first
   | (exfalso; simp at hb1; done)
   | (exfalso; simp at hb1; omega)
   | (
    have hr : nxt p g = (⟨0, 0, 0, 0⟩, false) := by
      have hk : gorOk p g = false := by simpa using hb1
      rw [nxt, hk]; simp
    refine SW.regionK fun K hK => ?_
    simp -implicitDefEqProofs
    repeat (refine And.intro (by clear hK; first | omega | (intros; simp_all; done) | (intros; grind)) ?_)
    refine hK _ ?_
    clear hK K
    refine SW.ret ?_
    simp [Ex.then, Ex.inBlock]
    all_goals first
      | (rw [hr]; simp; done)
      | (simp [hr]; done)
      | fail)
set_option maxHeartbeats 1000000 in
theorem nxt_i (p : Prog) (g : Gor) (h : p.ok) (hg : g.ok) : Fn Try.prog 22 [.agg p.fr, .agg g.fr] (.tup [.agg (nxt p g).1.cl, .bool (nxt p g).2]) := by
  refine Fn.intro Try.func22 (by decide) rfl (rs := [.cell 4 51, .tmp 5]) rfl Try.ntmps22 (by simp) ?_
  have g1 := hg.1
  have g2 := hg.2
  refine SW.regionK fun K hK => ?_
  simp -implicitDefEqProofs
  repeat (refine And.intro (by clear hK; first | omega | (intros; simp_all; done) | (intros; grind)) ?_)
  refine hK _ ?_
  clear hK K
  refine SW.seqK fun K1 hK1 => ?_
  refine SW.regionK fun K hK => ?_
  simp -implicitDefEqProofs
  repeat (refine And.intro (by clear hK; first | omega | (intros; simp_all; done) | (intros; grind)) ?_)
  first
    | refine CallQ.fzE (gorOk_i p g h hg) (by simp) ?_
    | refine CallK.fzE (gorOk_i p g h hg) (by simp) ?_
  simp -implicitDefEqProofs
  repeat (refine And.intro (by clear hK; first | omega | (intros; simp_all; done) | (intros; grind)) ?_)
  refine hK _ ?_
  clear hK K
  refine SW.cond _ rfl (by simp) ?_ ?_
  case' refine_2 =>
   intro hb1
   first
   | (exfalso; simp at hb1; done)
   | (exfalso; simp at hb1; omega)
   | (
    have hk : gorOk p g = true := by simpa using hb1
    have hk6 : g.regs.length = 6 := by
      simp only [gorOk, gorIn, gorHead, Bool.and_eq_true, decide_eq_true_eq] at hk
      omega
    have hpo : progOk p = true := by simp only [gorOk, Bool.and_eq_true] at hk; exact hk.1
    have hI : Inv p g 1050000 := ⟨hpo, gor_at hk, hk6, by omega⟩
    have hR := burn_inv (most := 500) (f := 2000) (n := 0) hI
    have hr0 : nxt p g = if ((burnR p 500 2000 g 0).1.state == 1 && isShared (atI p (burnR p 500 2000 g 0).1).op) then (atI p (burnR p 500 2000 g 0).1, true) else (⟨0, 0, 0, 0⟩, false) := by rw [nxt, hk]; simp
    have hBs := burn_s p g 500 h hI
    have hBi := burn_i p g 500 h hI
    generalize burnR p 500 2000 g 0 = r at hR hr0 hBs hBi
    have hat := hR.here
    refine SW.skip ?_
    refine hK1 _ ?_
    refine SW.regionK fun K hK => ?_
    simp -implicitDefEqProofs
    repeat (refine And.intro (by clear hK; first | omega | (intros; simp_all; done) | (intros; grind)) ?_)
    refine CallK.fzE hBi (by simp) ?_
    simp -implicitDefEqProofs
    repeat (refine And.intro (by clear hK; first | omega | (intros; simp_all; done) | (intros; grind)) ?_)
    refine hK _ ?_
    clear hK K
    refine SW.regionK fun K hK => ?_
    simp -implicitDefEqProofs
    repeat (refine And.intro (by clear hK; first | omega | (intros; simp_all; done) | (intros; grind)) ?_)
    refine CallK.fzE (instr_i p r.1 hat) (by simp) ?_
    simp -implicitDefEqProofs
    repeat (refine And.intro (by clear hK; first | omega | (intros; simp_all; done) | (intros; grind)) ?_)
    refine hK _ ?_
    clear hK K
    refine SW.seqK fun K2 hK2 => ?_
    refine SW.regionK fun K hK => ?_
    simp -implicitDefEqProofs
    repeat (refine And.intro (by clear hK; first | omega | (intros; simp_all; done) | (intros; grind)) ?_)
    refine CallG.fzE (by simp) (fun _ => shared_i (atI p r.1).op) (by simp) ?_
    simp -implicitDefEqProofs
    repeat (refine And.intro (by clear hK; first | omega | (intros; simp_all; done) | (intros; grind)) ?_)
    refine hK _ ?_
    clear hK K
    refine SW.cond _ rfl (by simp) ?_ ?_
    case' refine_2 =>
     intro hb2
     first
     | (exfalso; simp at hb2; done)
     | (exfalso; simp at hb2; omega)
     | (
      have hr : nxt p g = (atI p r.1, true) := by
        rw [hr0, if_pos]
        simp at hb2 ⊢
        grind
      refine SW.skip ?_
      refine hK2 _ ?_
      refine SW.regionK fun K hK => ?_
      simp -implicitDefEqProofs
      repeat (refine And.intro (by clear hK; first | omega | (intros; simp_all; done) | (intros; grind)) ?_)
      refine hK _ ?_
      clear hK K
      refine SW.ret ?_
      simp [Ex.then, Ex.inBlock]
      all_goals first
        | (rw [hr]; simp; done)
        | (simp [hr]; done)
        | fail)
    rotate_right
    case' _ =>
     intro hb2
     first
     | (exfalso; simp at hb2; done)
     | (exfalso; simp at hb2; omega)
     | (
      have hr : nxt p g = (⟨0, 0, 0, 0⟩, false) := by
        rw [hr0, if_neg]
        simp at hb2 ⊢
        grind
      refine SW.regionK fun K hK => ?_
      simp -implicitDefEqProofs
      repeat (refine And.intro (by clear hK; first | omega | (intros; simp_all; done) | (intros; grind)) ?_)
      refine hK _ ?_
      clear hK K
      refine SW.ret ?_
      simp [Ex.then, Ex.inBlock]
      all_goals first
        | (rw [hr]; simp; done)
        | (simp [hr]; done)
        | fail))
  rotate_right
  case' _ =>
   intro hb1
   first
   | (exfalso; simp at hb1; done)
   | (exfalso; simp at hb1; omega)
   | (
    have hr : nxt p g = (⟨0, 0, 0, 0⟩, false) := by
      have hk : gorOk p g = false := by simpa using hb1
      rw [nxt, hk]; simp
    refine SW.regionK fun K hK => ?_
    simp -implicitDefEqProofs
    repeat (refine And.intro (by clear hK; first | omega | (intros; simp_all; done) | (intros; grind)) ?_)
    refine hK _ ?_
    clear hK K
    refine SW.ret ?_
    simp [Ex.then, Ex.inBlock]
    all_goals first
      | (rw [hr]; simp; done)
      | (simp [hr]; done)
      | fail)
set_option maxHeartbeats 1000000 in
theorem law_nextShared (a : Prog) (b : Gor) (fa : a.fit) (fb : b.fit) : Fn Try.prog 4 [.agg a.fr, .agg b.fr] (.bool true) := by
  refine Fn.intro Try.func4 (by decide) rfl (rs := [.tmp 4]) rfl Try.ntmps4 (by simp) ?_
  have q1 := szR_cases a.sz 1048576
  have q2 := szR_cases b.sz (szR a.sz 1048576)
  refine SW.regionK fun K hK => ?_
  simp -implicitDefEqProofs
  repeat refine ⟨by omega, ?_⟩
  refine hK _ ?_
  clear hK K
  refine SW.regionK fun K hK => ?_
  simp -implicitDefEqProofs
  repeat refine ⟨by omega, ?_⟩
  refine hK _ ?_
  clear hK K
  refine SW.regionK fun K hK => ?_
  simp -implicitDefEqProofs
  first | refine ⟨by omega, by omega, ?_⟩ | refine ⟨by omega, ?_⟩ | skip
  refine CallK.fzE (szProg_ok a 1048576 fa (by omega) (by omega)) (by simp) ?_
  simp -implicitDefEqProofs
  repeat refine ⟨by omega, ?_⟩
  refine hK _ ?_
  clear hK K
  refine SW.seqK fun K1 hK1 => ?_
  refine SW.regionK fun K hK => ?_
  simp -implicitDefEqProofs
  repeat refine ⟨by omega, ?_⟩
  refine hK _ ?_
  clear hK K
  refine SW.cond _ rfl (by simp) ?_ ?_
  case' refine_2 =>
   intro hb1
   first
   | (exfalso; simp at hb1; done)
   | (exfalso; simp at hb1; omega)
   | (
    have n1 : 0 ≤ szR a.sz 1048576 := by simp at hb1; omega
    have ha : a.ok := Prog.sz_ok (by omega)
    refine SW.skip ?_
    refine hK1 _ ?_
    refine SW.regionK fun K hK => ?_
    simp -implicitDefEqProofs
    first | refine ⟨by omega, by omega, ?_⟩ | refine ⟨by omega, ?_⟩ | skip
    refine CallK.fzE (szGor_ok b (szR a.sz 1048576) fb (by omega) (by omega)) (by simp) ?_
    simp -implicitDefEqProofs
    repeat refine ⟨by omega, ?_⟩
    refine hK _ ?_
    clear hK K
    refine SW.seqK fun K2 hK2 => ?_
    refine SW.regionK fun K hK => ?_
    simp -implicitDefEqProofs
    repeat refine ⟨by omega, ?_⟩
    refine hK _ ?_
    clear hK K
    refine SW.cond _ rfl (by simp) ?_ ?_
    case' refine_2 =>
     intro hb2
     first
     | (exfalso; simp at hb2; done)
     | (exfalso; simp at hb2; omega)
     | (
      have n2 : 0 ≤ szR b.sz (szR a.sz 1048576) := by simp at hb2; omega
      have hb : b.ok := Gor.sz_ok (by omega)
      refine SW.skip ?_
      refine hK2 _ ?_
      refine SW.drawWK mixed [(0, false), (1, false), (2, false), (3, false), (4, false), (5, false), (6, false), (7, false), (8, true)] 9 7 [.q [(10, false)]] (by kernel_rfl) rfl fun K hK => ?_
      simp -implicitDefEqProofs
      first | refine ⟨by omega, by omega, ?_⟩ | refine ⟨by omega, ?_⟩ | skip
      first
        | refine CallQ.fzE (toProg_ok a ha) (by simp) ?_
        | refine CallK.fzE (toProg_ok a ha) (by simp) ?_
      simp -implicitDefEqProofs
      first | refine ⟨by omega, by omega, ?_⟩ | refine ⟨by omega, ?_⟩ | skip
      first
        | refine CallQ.fzE (toGor_ok b hb) (by simp) ?_
        | refine CallK.fzE (toGor_ok b hb) (by simp) ?_
      simp -implicitDefEqProofs
      first | refine ⟨by omega, by omega, ?_⟩ | refine ⟨by omega, ?_⟩ | skip
      first
        | refine CallQ.fzE (nxt_s a b ha hb) (by simp) ?_
        | refine CallK.fzE (nxt_s a b ha hb) (by simp) ?_
      simp -implicitDefEqProofs
      repeat refine ⟨by omega, ?_⟩
      refine hK _ ?_
      clear hK K
      refine SW.regionK fun K hK => ?_
      simp -implicitDefEqProofs
      first | refine ⟨by omega, by omega, ?_⟩ | refine ⟨by omega, ?_⟩ | skip
      refine CallK.imE (toProg_ok a ha) (by simp) (Prog_oI a) ?_
      simp -implicitDefEqProofs
      repeat refine ⟨by omega, ?_⟩
      refine hK _ ?_
      clear hK K
      refine SW.regionK fun K hK => ?_
      simp -implicitDefEqProofs
      first | refine ⟨by omega, by omega, ?_⟩ | refine ⟨by omega, ?_⟩ | skip
      refine CallK.imE (toGor_ok b hb) (by simp) (Gor_oI b) ?_
      simp -implicitDefEqProofs
      repeat refine ⟨by omega, ?_⟩
      refine hK _ ?_
      clear hK K
      refine SW.regionK fun K hK => ?_
      simp -implicitDefEqProofs
      first | refine ⟨by omega, by omega, ?_⟩ | refine ⟨by omega, ?_⟩ | skip
      first
        | refine CallQ.fzE (nxt_i a b ha hb) (by simp) ?_
        | refine CallK.fzE (nxt_i a b ha hb) (by simp) ?_
      simp -implicitDefEqProofs
      repeat refine ⟨by omega, ?_⟩
      refine hK _ ?_
      clear hK K
      refine SW.seqK fun K3 hK3 => ?_
      refine SW.regionK fun K hK => ?_
      simp -implicitDefEqProofs
      first | refine ⟨by omega, by omega, ?_⟩ | refine ⟨by omega, ?_⟩ | skip
      refine CallK.fzE (eqInstr_ok (nxt a b).1) (by simp) ?_
      simp -implicitDefEqProofs
      repeat refine ⟨by omega, ?_⟩
      refine hK _ ?_
      clear hK K
      refine SW.cond _ rfl (by simp) ?_ ?_
      case' refine_2 =>
       intro hb3
       first
       | (exfalso; simp at hb3; done)
       | (exfalso; simp at hb3; omega)
       | (
        refine SW.skip ?_
        refine hK3 _ ?_
        refine SW.seqK fun K4 hK4 => ?_
        refine SW.drawK mixed [.q [(0, false), (1, false), (2, false), (3, false), (4, false)]] (by kernel_rfl) rfl fun K hK => ?_
        simp -implicitDefEqProofs
        first | refine ⟨by omega, by omega, ?_⟩ | refine ⟨by omega, ?_⟩ | skip
        first
          | refine CallQ.fzE (toProg_ok a ha) (by simp) ?_
          | refine CallK.fzE (toProg_ok a ha) (by simp) ?_
        simp -implicitDefEqProofs
        first | refine ⟨by omega, by omega, ?_⟩ | refine ⟨by omega, ?_⟩ | skip
        refine CallQ.fzE (eqProg_ok a ha) (by simp) ?_
        simp -implicitDefEqProofs
        repeat refine ⟨by omega, ?_⟩
        refine hK _ ?_
        clear hK K
        refine SW.cond _ rfl (by simp) ?_ ?_
        case' refine_2 =>
         intro hb4
         first
         | (exfalso; simp at hb4; done)
         | (exfalso; simp at hb4; omega)
         | (
          refine SW.skip ?_
          refine hK4 _ ?_
          refine SW.seqK fun K5 hK5 => ?_
          refine SW.drawK mixed [.q [(0, false), (1, false), (2, false), (3, false), (4, false)]] (by kernel_rfl) rfl fun K hK => ?_
          simp -implicitDefEqProofs
          first | refine ⟨by omega, by omega, ?_⟩ | refine ⟨by omega, ?_⟩ | skip
          first
            | refine CallQ.fzE (toGor_ok b hb) (by simp) ?_
            | refine CallK.fzE (toGor_ok b hb) (by simp) ?_
          simp -implicitDefEqProofs
          first | refine ⟨by omega, by omega, ?_⟩ | refine ⟨by omega, ?_⟩ | skip
          refine CallQ.fzE (eqGor_ok b hb) (by simp) ?_
          simp -implicitDefEqProofs
          repeat refine ⟨by omega, ?_⟩
          refine hK _ ?_
          clear hK K
          refine SW.cond _ rfl (by simp) ?_ ?_
          case' refine_2 =>
           intro hb5
           first
           | (exfalso; simp at hb5; done)
           | (exfalso; simp at hb5; omega)
           | (
            refine SW.skip ?_
            refine hK5 _ ?_
            refine SW.regionK fun K hK => ?_
            simp -implicitDefEqProofs
            repeat refine ⟨by omega, ?_⟩
            refine hK _ ?_
            clear hK K
            refine SW.ret ?_
            simp [Ex.then, Ex.inBlock])
          rotate_right
          case' _ =>
           intro hb5
           first
           | (exfalso; simp at hb5; done)
           | (exfalso; simp at hb5; omega)
           | (
            refine SW.regionK fun K hK => ?_
            simp -implicitDefEqProofs
            repeat refine ⟨by omega, ?_⟩
            refine hK _ ?_
            clear hK K
            refine SW.ret ?_
            simp [Ex.then, Ex.inBlock]))
        rotate_right
        case' _ =>
         intro hb4
         first
         | (exfalso; simp at hb4; done)
         | (exfalso; simp at hb4; omega)
         | (
          refine SW.regionK fun K hK => ?_
          simp -implicitDefEqProofs
          repeat refine ⟨by omega, ?_⟩
          refine hK _ ?_
          clear hK K
          refine SW.ret ?_
          simp [Ex.then, Ex.inBlock]))
      rotate_right
      case' _ =>
       intro hb3
       first
       | (exfalso; simp at hb3; done)
       | (exfalso; simp at hb3; omega)
       | (
        refine SW.regionK fun K hK => ?_
        simp -implicitDefEqProofs
        repeat refine ⟨by omega, ?_⟩
        refine hK _ ?_
        clear hK K
        refine SW.ret ?_
        simp [Ex.then, Ex.inBlock]))
    rotate_right
    case' _ =>
     intro hb2
     first
     | (exfalso; simp at hb2; done)
     | (exfalso; simp at hb2; omega)
     | (
      refine SW.regionK fun K hK => ?_
      simp -implicitDefEqProofs
      repeat refine ⟨by omega, ?_⟩
      refine hK _ ?_
      clear hK K
      refine SW.ret ?_
      simp [Ex.then, Ex.inBlock]))
  rotate_right
  case' _ =>
   intro hb1
   first
   | (exfalso; simp at hb1; done)
   | (exfalso; simp at hb1; omega)
   | (
    refine SW.regionK fun K hK => ?_
    simp -implicitDefEqProofs
    repeat refine ⟨by omega, ?_⟩
    refine hK _ ?_
    clear hK K
    refine SW.ret ?_
    simp [Ex.then, Ex.inBlock])
end HT
