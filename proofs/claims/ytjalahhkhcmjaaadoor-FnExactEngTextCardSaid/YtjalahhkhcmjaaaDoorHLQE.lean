import Derived.Test.YtjalahhkhcmjaaaDoorHLQDS
import Derived.Test.YtjalahhkhcmjaaaDoorHLQDI
import Derived.Test.YtjalahhkhcmjaaaDoorG5
/-
  My own texts (road H): HLQE.
-/
set_option linter.unusedSimpArgs false
set_option linter.unusedVariables false
namespace HT
open Go Go.Proofs HK
set_option maxHeartbeats 1000000 in
theorem law_engText (a : Eng) (fa : a.fit) : FnT gA tabA Tryd.prog 3 [.agg a.fr] (.bool true) := by
  refine FnT.intro Tryd.func3 (by decide) rfl (rs := [.tmp 2]) rfl Tryd.ntmps3 (by simp) ?_; have q1 := szR_cases a.sz 1048576
  refine ST.regionK fun K hK => ?_; simp -implicitDefEqProofs; repeat refine ⟨by omega, ?_⟩
  refine hK _ ?_; clear hK K; refine ST.regionK fun K hK => ?_; simp -implicitDefEqProofs; repeat refine ⟨by omega, ?_⟩
  refine hK _ ?_; clear hK K; refine ST.regionK fun K hK => ?_; simp -implicitDefEqProofs; iterate 2 (try refine ⟨by omega, ?_⟩)
  refine CallK.fzE (szEng_ok a 1048576 fa (by omega) (by omega)) (by simp) ?_; simp -implicitDefEqProofs; repeat refine ⟨by omega, ?_⟩
  refine hK _ ?_; clear hK K; refine ST.seqK fun K1 hK1 => ?_; refine ST.regionK fun K hK => ?_; simp -implicitDefEqProofs; repeat refine ⟨by omega, ?_⟩
  refine hK _ ?_; clear hK K; refine ST.cond _ rfl (by simp) ?_ ?_
  case' refine_2 =>
   intro hb1
   first
   | (exfalso; simp at hb1; done)
   | (exfalso; simp at hb1; omega)
   | (
    have n1 : 0 ≤ szR a.sz 1048576 := by simp at hb1; omega
    have ha : a.ok := Eng.sz_ok (by omega)
    have hwt : wt a.gs ≤ 1048576 := by have := wt_sz a; omega
    refine ST.skip ?_; refine hK1 _ ?_; refine ST.regionK fun K hK => ?_; simp -implicitDefEqProofs; iterate 2 (try refine ⟨by omega, ?_⟩)
    first
      | refine CallQ.fzE (toEng_ok a ha) (by simp) ?_
      | refine CallK.fzE (toEng_ok a ha) (by simp) ?_
    simp -implicitDefEqProofs; iterate 2 (try refine ⟨by omega, ?_⟩)
    first
      | refine CallQ.fzE (engText_s a hwt) (by simp) ?_
      | refine CallK.fzE (engText_s a hwt) (by simp) ?_
    simp -implicitDefEqProofs; repeat refine ⟨by omega, ?_⟩
    refine hK _ ?_; clear hK K; refine ST.regionK fun K hK => ?_; simp -implicitDefEqProofs; iterate 2 (try refine ⟨by omega, ?_⟩)
    refine CallK.imE (toEng_ok a ha) (by simp) (Eng_oI a) ?_; simp -implicitDefEqProofs; repeat refine ⟨by omega, ?_⟩
    refine hK _ ?_; clear hK K; refine ST.regionTK fun K hK => ?_; simp -implicitDefEqProofs; refine CallT.fzE (engText_i a hwt) (by simp) ?_; simp -implicitDefEqProofs; refine hK _ ?_; clear hK K; refine ST.seqK fun K2 hK2 => ?_
    refine ST.regionK fun K hK => ?_; simp -implicitDefEqProofs; repeat refine ⟨by omega, ?_⟩
    refine hK _ ?_; clear hK K; refine ST.cond _ rfl (by simp) ?_ ?_
    case' refine_2 =>
     intro hb2
     first
     | (exfalso; simp at hb2; done)
     | (exfalso; simp at hb2; omega)
     | (
      refine ST.skip ?_; refine hK2 _ ?_; refine ST.seqK fun K3 hK3 => ?_; refine ST.drawK mixed [.q [(0, false), (1, false), (2, false), (3, false), (4, false)]] (by kernel_rfl) rfl fun K hK => ?_; simp -implicitDefEqProofs
      iterate 2 (try refine ⟨by omega, ?_⟩)
      first
        | refine CallQ.fzE (toEng_ok a ha) (by simp) ?_
        | refine CallK.fzE (toEng_ok a ha) (by simp) ?_
      simp -implicitDefEqProofs; iterate 2 (try refine ⟨by omega, ?_⟩)
      refine CallQ.fzE (eqEng_ok a ha) (by simp) ?_; simp -implicitDefEqProofs; repeat refine ⟨by omega, ?_⟩
      refine hK _ ?_; clear hK K; refine ST.cond _ rfl (by simp) ?_ ?_
      case' refine_2 =>
       intro hb3
       first
       | (exfalso; simp at hb3; done)
       | (exfalso; simp at hb3; omega)
       | (
        refine ST.skip ?_; refine hK3 _ ?_; refine ST.regionK fun K hK => ?_; simp -implicitDefEqProofs; repeat refine ⟨by omega, ?_⟩
        refine hK _ ?_; clear hK K; refine ST.ret ?_
        simp [Ex.then, Ex.ib])
      rotate_right
      case' _ =>
       intro hb3
       first
       | (exfalso; simp at hb3; done)
       | (exfalso; simp at hb3; omega)
       | (
        refine ST.regionK fun K hK => ?_; simp -implicitDefEqProofs; repeat refine ⟨by omega, ?_⟩
        refine hK _ ?_; clear hK K; refine ST.ret ?_
        simp [Ex.then, Ex.ib]))
    rotate_right
    case' _ =>
     intro hb2
     first
     | (exfalso; simp at hb2; done)
     | (exfalso; simp at hb2; omega)
     | (
      refine ST.regionK fun K hK => ?_; simp -implicitDefEqProofs; repeat refine ⟨by omega, ?_⟩
      refine hK _ ?_; clear hK K; refine ST.ret ?_
      simp [Ex.then, Ex.ib]))
  rotate_right
  case' _ =>
   intro hb1
   first
   | (exfalso; simp at hb1; done)
   | (exfalso; simp at hb1; omega)
   | (
    refine ST.regionK fun K hK => ?_; simp -implicitDefEqProofs; repeat refine ⟨by omega, ?_⟩
    refine hK _ ?_; clear hK K; refine ST.ret ?_
    simp [Ex.then, Ex.ib])
end HT
