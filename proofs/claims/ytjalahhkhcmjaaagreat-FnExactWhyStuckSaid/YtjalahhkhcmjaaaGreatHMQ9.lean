import Derived.Test.YtjalahhkhcmjaaaGreatHMQ8
/-
  My own texts (road H): HMQ9.
-/
set_option linter.unusedSimpArgs false
set_option linter.unusedVariables false
namespace HT
open Go Go.Proofs HK
set_option maxHeartbeats 1000000 in
theorem insText_i (i : Instr) : Fn Tryz.prog 29 [.agg i.cl] (.str (insT i)) := by
  refine Fn.intro Tryz.func29 (by decide) rfl (rs := [.tmp 2]) rfl Tryz.ntmps29 (by simp) ?_; obtain ⟨op, a, b, c⟩ := i; refine SW.rg fun K hK => ?_; simp -implicitDefEqProofs; repeat refine ⟨by omega, ?_⟩
  refine hK _ ?_; clear hK K; refine SW.rg fun K hK => ?_; simp -implicitDefEqProofs; iterate 2 (try refine ⟨by omega, ?_⟩)
  first
    | refine CallQ.fzE (fields_i op) (by simp) ?_
    | refine CallK.fzE (fields_i op) (by simp) ?_
  simp -implicitDefEqProofs; repeat refine ⟨by omega, ?_⟩
  refine hK _ ?_; clear hK K; refine SW.seqK fun K1 hK1 => ?_; refine SW.rg fun K hK => ?_; simp -implicitDefEqProofs; repeat refine ⟨by omega, ?_⟩
  refine hK _ ?_; clear hK K; refine SW.cond _ rfl (by simp) ?_ ?_
  case' refine_2 =>
   intro hb1
   first
   | (exfalso; simp at hb1; done)
   | (exfalso; simp at hb1; omega)
   | (
    have hf : 0 ≤ fieldsOf op := by simp at hb1; omega
    obtain ⟨M, hM, hM3⟩ := fieldsOf_nat hf; refine SW.skip ?_; refine hK1 _ ?_; refine SW.rg fun K hK => ?_; simp -implicitDefEqProofs; iterate 2 (try refine ⟨by omega, ?_⟩)
    first
      | refine CallQ.fzE (opWord_i op) (by simp) ?_
      | refine CallK.fzE (opWord_i op) (by simp) ?_
    simp -implicitDefEqProofs; repeat refine ⟨by omega, ?_⟩
    refine hK _ ?_; clear hK K; refine SW.seqK fun K2 hK2 => ?_; refine SW.rg fun K hK => ?_; simp -implicitDefEqProofs [hM]; repeat refine ⟨by omega, ?_⟩
    refine hK _ ?_; clear hK K; refine SW.block ?_
    refine SW.loop (α := Nat) (fun j => ⟨[(24, .int .i64 j), (23, .int .i64 3), (22, .sl 2 0 3), (4, .sl 1 0 (wls ⟨op, a, b, c⟩ (min j M)).length), (3, .int .i64 M), (1, .ptr 0 0 0)], [some ⟨4, [[.int .i64 op, .int .i64 a, .int .i64 b, .int .i64 c]]⟩, some ⟨1, StrS (wls ⟨op, a, b, c⟩ (min j M))⟩, some ⟨1, [[.int .i64 a], [.int .i64 b], [.int .i64 c]]⟩]⟩) (fun j => j ≤ 3 ∧ ∀ t, t < j → M ≤ t → fv ⟨op, a, b, c⟩ t = 0) (fun j => 3 - j) (0) ?_ ?_ (fun j hx => ?_)
    case' refine_1 =>
     exact ⟨by omega, fun t ht => by omega⟩
    case' refine_2 =>
     exact Wk.cut (by simp) (by simp [subE, wls, hM]) (by simp [cutH, wls]) (by simp [lowE, lowN]) (by simp [lowB, lowN])
    case' refine_3 =>
     skip
     refine SW.rg fun K hK => ?_; simp -implicitDefEqProofs; repeat refine ⟨by omega, ?_⟩
     refine hK _ ?_; clear hK K; refine SW.seqK fun K3 hK3 => ?_; refine SW.cond _ rfl (by simp) ?_ ?_
     case' refine_2 =>
      intro hb2
      first
      | (exfalso; simp at hb2; done)
      | (exfalso; simp at hb2; omega)
      | (
       have hj3 : j = 3 := by simp at hb2; omega
       have hmn : min j M = M := by omega
       have hres : joinW (wls ⟨op, a, b, c⟩ (min j M)) spB = insT ⟨op, a, b, c⟩ := by rw [hmn]; exact insT_join hM (restOk_of fun t h1 h2 => hx.2 t (by omega) h2)
       have hsz : (joinB spB (wls ⟨op, a, b, c⟩ (min j M))).size ≤ 2 ^ 40 := by rw [join_wls]; have := cat_size ⟨op, a, b, c⟩ (min j M); omega
       have hln : (wls ⟨op, a, b, c⟩ (min j M)).length ≤ 2 ^ 40 := by rw [wls_len]; omega
       refine SW.exit ?_; simp only [Ex.then, Ex.ib]; try simp only [if_true, if_false, reduceIte]
       refine hK2 _ ?_; refine SW.rg fun K hK => ?_; simp -implicitDefEqProofs; iterate 2 (try refine ⟨by omega, ?_⟩)
       refine CallS.mono (CallS.frame [1] (joined_i (wls ⟨op, a, b, c⟩ (min j M)) spB hsz hln) (by simp) (by simp [lowN]) (by simp) (by simp) (by simp [renH]) (by simp [lowB, lowN]) (by simp) ?_) ?_
       · rintro o h' ⟨rfl, rfl⟩
         exact ⟨by simp, by simp [nfzB, lowN, nfz, strN], rfl, rfl⟩
       rintro o h' ⟨o0, h0, ⟨rfl, rfl⟩, rfl, rfl⟩
       simp -implicitDefEqProofs; repeat refine ⟨by omega, ?_⟩
       refine hK _ ?_; clear hK K; refine SW.ret ?_; simp [Ex.then, Ex.ib]
       all_goals first
         | (rw [hres]; done)
         | fail)
     rotate_right
     case' _ =>
      intro hb2
      first
      | (exfalso; simp at hb2; done)
      | (exfalso; simp at hb2; omega)
      | (
       have hlt : j < 3 := by simp at hb2; omega
       have hwl := wls_len ⟨op, a, b, c⟩ (min j M)
       have htk : List.take (wls ⟨op, a, b, c⟩ (min j M)).length (StrS (wls ⟨op, a, b, c⟩ (min j M))) = StrS (wls ⟨op, a, b, c⟩ (min j M)) := List.take_of_length_le (by simp)
       have hget : ([[AV.int .i64 a], [.int .i64 b], [.int .i64 c]] : List (List AV))[j]? = some [.int .i64 (fv ⟨op, a, b, c⟩ j)] := by
         rcases j with _ | _ | _ | j
         · rfl
         · rfl
         · rfl
         · omega
       have hgE : ∀ h, ([[AV.int .i64 a], [.int .i64 b], [.int .i64 c]] : List (List AV))[j]'h = [.int .i64 (fv ⟨op, a, b, c⟩ j)] := fun h => (List.getElem?_eq_some_iff.1 hget).2
       have hfb : ((j : Int) == 0 && hasCh op) = fb ⟨op, a, b, c⟩ j := by
         simp only [fb]; congr 1; rw [Bool.eq_iff_iff]; simp
       refine SW.skip ?_; refine hK3 _ ?_; refine SW.seqK fun K4 hK4 => ?_; refine SW.block ?_; refine SW.rg fun K hK => ?_; simp -implicitDefEqProofs [hgE, hlt]; repeat refine ⟨by omega, ?_⟩
       refine hK _ ?_; clear hK K; refine SW.block ?_; refine SW.rg fun K hK => ?_; simp -implicitDefEqProofs; repeat refine ⟨by omega, ?_⟩
       refine hK _ ?_; clear hK K; refine SW.cond _ rfl (by simp) ?_ ?_
       case' refine_2 =>
        intro hb3
        first
        | (exfalso; simp at hb3; done)
        | (exfalso; simp at hb3; omega)
        | (
         have h3 : M ≤ j → fv ⟨op, a, b, c⟩ j = 0 := by simpa using hb3
         refine SW.rg fun K hK => ?_; simp -implicitDefEqProofs; repeat refine ⟨by omega, ?_⟩
         refine hK _ ?_; clear hK K; refine SW.cond _ rfl (by simp) ?_ ?_
         case' refine_2 =>
          intro hb4
          first
          | (exfalso; simp at hb4; done)
          | (exfalso; simp at hb4; omega)
          | (
           have hMj : j < M := by simpa using hb4
           have hmn : min j M = j := by omega
           have hmn2 : min (j + 1) M = j + 1 := by omega
           have htk2 := htk
           rw [hmn] at htk2; refine SW.rg fun K hK => ?_; simp -implicitDefEqProofs [hfb]; iterate 2 (try refine ⟨by omega, ?_⟩)
           first
             | refine CallQG.fzE (by simp) (fun _ => hasCh_i op) (by simp) ?_
             | refine CallG.fzE (by simp) (fun _ => hasCh_i op) (by simp) ?_
             | refine CallQ.fzE (hasCh_i op) (by simp) ?_
             | refine CallK.fzE (hasCh_i op) (by simp) ?_
           simp -implicitDefEqProofs [hfb]; repeat refine ⟨by omega, ?_⟩
           refine hK _ ?_; clear hK K; refine SW.cond _ rfl (by simp) ?_ ?_
           case' refine_2 =>
            intro hb5
            first
            | (exfalso; simp at hb5; done)
            | (exfalso; simp at hb5; omega)
            | (
             have hft : ftx ⟨op, a, b, c⟩ j = numB (fv ⟨op, a, b, c⟩ j) := by rw [chan_ftx, if_neg (by simpa using hb5)]
             refine SW.regionE fun K hK => ?_; simp -implicitDefEqProofs; iterate 2 (try refine ⟨by omega, ?_⟩)
             first
               | refine CallQ.fzE (numT_i (fv ⟨op, a, b, c⟩ j)) (by simp) ?_
               | refine CallK.fzE (numT_i (fv ⟨op, a, b, c⟩ j)) (by simp) ?_
             simp -implicitDefEqProofs; repeat refine ⟨by omega, ?_⟩
             refine hK _ ?_
             clear hK K)
           rotate_right
           case' _ =>
            intro hb5
            first
            | (exfalso; simp at hb5; done)
            | (exfalso; simp at hb5; omega)
            | (
             have hft : ftx ⟨op, a, b, c⟩ j = chanB (fv ⟨op, a, b, c⟩ j) := by rw [chan_ftx, if_pos (by simpa using hb5)]
             refine SW.regionE fun K hK => ?_; simp -implicitDefEqProofs; iterate 2 (try refine ⟨by omega, ?_⟩)
             first
               | refine CallQ.fzE (chanT_i (fv ⟨op, a, b, c⟩ j)) (by simp) ?_
               | refine CallK.fzE (chanT_i (fv ⟨op, a, b, c⟩ j)) (by simp) ?_
             simp -implicitDefEqProofs; repeat refine ⟨by omega, ?_⟩
             refine hK _ ?_
             clear hK K))
         rotate_right
         case' _ =>
          intro hb4
          first
          | (exfalso; simp at hb4; done)
          | (exfalso; simp at hb4; omega)
          | (
           have hMle : M ≤ j := by simpa using hb4
           have hmn : min (j + 1) M = min j M := by omega
           refine SW.skip ?_))
       rotate_right
       case' _ =>
        intro hb3
        first
        | (exfalso; simp at hb3; done)
        | (exfalso; simp at hb3; omega)
        | (
         have hres : insT ⟨op, a, b, c⟩ = noB := by
           simp at hb3; exact insT_rest hM (j := j) (by omega) hlt (by simpa using hb3.2)
         refine SW.rg fun K hK => ?_; simp -implicitDefEqProofs; repeat refine ⟨by omega, ?_⟩
         refine hK _ ?_; clear hK K; refine SW.ret ?_; simp [Ex.then, Ex.ib]
         all_goals first
           | (rw [hres]; done)
           | fail)
       all_goals (
        refine hK4 _ ?_; refine SW.regionE fun K hK => ?_; simp -implicitDefEqProofs; repeat refine ⟨by omega, ?_⟩
        refine hK _ ?_; clear hK K; refine ⟨j + 1, ⟨by omega, ?_⟩, by omega, ?_⟩
        · intro t ht hMt
          by_cases ht2 : t = j
          · subst ht2; exact h3 hMt
          · exact hx.2 t (by omega) hMt
        first
          | (have _ := hMle; exact Wk.cut (by simp) (by simp [subE, hmn, wrap1 j (by omega)]) (by simp [cutH, hmn]) (by simp [lowE, lowN]) (by simp [lowB, lowN]))
          | (have _ := hft; exact Wk.ren [0, 4, 2] (by simp) (by simp) (by simp) (by simp) (by simp [renE, renN, hmn, hmn2, wls, hft, wrap1 j (by omega)]) (by simp [renH, htk2, hmn, hmn2, wls, hft]) (by simp [lowE, lowN]) (by simp [lowB, lowN])))))
  rotate_right
  case' _ =>
   intro hb1
   first
   | (exfalso; simp at hb1; done)
   | (exfalso; simp at hb1; omega)
   | (
    have hres : insT ⟨op, a, b, c⟩ = noB := by
      unfold insT; rw [decide_eq_false (by show ¬ (0 ≤ fieldsOf op); simp at hb1; omega)]; simp
    refine SW.rg fun K hK => ?_; simp -implicitDefEqProofs; repeat refine ⟨by omega, ?_⟩
    refine hK _ ?_; clear hK K; refine SW.ret ?_; simp [Ex.then, Ex.ib]
    all_goals first
      | (rw [hres]; done)
      | fail)
end HT
