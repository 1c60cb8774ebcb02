import Derived.Test.YteeefpifkepbpaaEHSZ4
import Derived.Test.YteeefpifkepbpaaEHSZA
import Derived.Test.YteeefpifkepbpaaEHK56
/-
  My own texts (road H): HSZ5.
-/
set_option linter.unusedSimpArgs false
set_option linter.unusedVariables false
namespace HS
open Go Go.Proofs HK
theorem putVar_i7 (n : Int) (h : numOk n = true) : Fn Try.prog 58 [.fz (YS wordL), .int .i64 n] (.tup [.own 1 (YS (wordL ++ varB n.toNat)), .bool true]) := by rw [← putVar_yes h]; exact putVar_impl wordL n (by decide)
theorem renN_sl (ids : List Nat) (d id o l : Nat) : renN ids (d + 1) (.sl id o l) = .sl (ids.getD id 0) o l := rfl
abbrev itF (l : List Deed) : AV := .fn (.func 93) [] [.fptr [[.fz (DS l)]] 0 0, .fptr [[.int .i64 4]] 0 0]
abbrev hpL (p : Int) (l : List Deed) (i : Nat) : Heap := [some ⟨1, [[.sl 1 0 (i + 1)]]⟩, some ⟨1, CF (chs p l i)⟩]
theorem rnd_L (l : List Deed) : rnd (DS l) = rndL l := by simp [rnd, rndL]
set_option maxHeartbeats 4000000 in
theorem logB_i (p : Int) (l : List Deed) (hok : logOk p l = true) : Fn Try.prog 46 [LogC p l] (.tup [.own 1 (YS (logB p l)), .bool true]) := by
  refine Fn.introF Try.func46 (by decide) rfl (rs := [.tmp 2, .tmp 3]) rfl Try.ntmps46 (by simp) ?_; have hp : numOk p = true := by simp [logOk] at hok; exact hok.1
  have hf : fitL l = true := by simp [logOk] at hok; exact hok.2
  have hfa : l.all fitD = true := by simp only [fitL, Bool.and_eq_true] at hf; exact hf.1
  have hl : l.length ≤ 3000 := by simp only [fitL, Bool.and_eq_true, decide_eq_true_eq] at hf; exact hf.2
  refine SF.regionK fun K hK => ?_; simp -implicitDefEqProofs; refine hK _ ?_; clear hK K; refine SF.seqK fun K1 hK1 => ?_; refine SW.rg fun K hK => ?_; simp -implicitDefEqProofs [hok]; refine CallK.fzE (logOk_i p l (by omega)) (by simp) ?_
  simp -implicitDefEqProofs [hok]; refine hK _ ?_; clear hK K; refine SW.cond _ rfl (by simp) ?_ ?_
  case' refine_1 => intro hb1; exfalso; simp at hb1
  intro _; refine SW.skip ?_; refine hK1 _ ?_; clear hK1 K1; refine SF.regionCK fun K hK => ?_; simp -implicitDefEqProofs [rc_conv, bytB]; refine CallK.fzE (putVar_i7 p hp) (by simp [YS, wordL]) ?_; simp -implicitDefEqProofs; refine hK _ ?_
  clear hK K; refine SF.regionK fun K hK => ?_; simp -implicitDefEqProofs; refine hK _ ?_; clear hK K; refine SF.seqB (SB.regionK fun K hK => ?_); simp -implicitDefEqProofs; refine CallS.mono (chunk_ok (DS l) _) ?_
  rintro o h' ⟨rfl, rfl⟩
  simp -implicitDefEqProofs; refine hK _ ?_; clear hK K; have hds : ∀ e ∈ DS l, e.length = 4 := fun e he => DS_len he
  refine SB.wk (st' := ⟨[(26, itF l), (6, .ptr 0 0 0)], hpL p l 0⟩) ?_ ?_
  · exact Wk.ren [3, 2] (by simp) (by simp) (by simp) (by simp) (by simp [renE, renN]) (by simp [renH, renN, CF, chs, hdB]) (by simp [lowE, lowN]) (by simp [lowB, lowN, CF])
  refine SB.rangeK 93 [.fptr [[.fz (DS l)]] 0 0, .fptr [[.int .i64 4]] 0 0] (chk (DS l)) rfl (by simp) (by simp [lowN]) (chunk_it (DS l) hds (by simp; omega)) (hpL p l) (by decide) (Wk.refl _ _) ?_ ?_
  · intro i x lo hx
    obtain ⟨hi, rfl⟩ := chk_get hx; rw [rnd_L] at hi; rw [DS_cnk]; refine SI.regionE fun K hK => ?_; simp -implicitDefEqProofs; refine hK _ ⟨rfl, ?_⟩; clear hK K; refine SI.block ?_; refine SI.regionK fun K hK => ?_
    simp -implicitDefEqProofs; refine CallK.fzE (packSome_iy (cnk l i) (cnk_some hfa i)) (by simp) ?_; simp -implicitDefEqProofs; refine hK _ ?_; clear hK K; refine SI.regionE fun K hK => ?_; simp -implicitDefEqProofs
    have hrl : rndL l ≤ 751 := by unfold rndL; omega
    refine ⟨by omega, hK _ ⟨rfl, ?_⟩⟩; exact Wk.ren [0, 3] (by simp) (by simp) (by simp) (by simp) (by simp [renE, renN]) (by simp [renH, renN_sl, chs_succ, CF_snoc]) (by simp [lowE, lowN]) (by simp [lowB, lowN, CF])
  · intro mk
    rw [chk_len, rnd_L]; refine SI.regionK fun K hK => ?_; simp -implicitDefEqProofs; refine CallK.imE (strm_i (chs p l (rndL l)) (by simp [rndL]; omega) (chs_ok hp hfa _)) (by simp) (tupB_okI _) ?_; simp -implicitDefEqProofs; refine hK _ ?_
    clear hK K; refine SI.ret ?_; simp [Ex.then, Ex.ib]; exact ⟨fun x hx y hy => by obtain ⟨n, rfl⟩ := YS_int hx hy; rfl, rfl⟩
end HS
