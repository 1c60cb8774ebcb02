import Derived.Test.YteeefpifkepbpaaHSU
/-
  My own texts (road H): HSUS.
-/
set_option linter.unusedSimpArgs false
namespace HS
open Go Go.Proofs HK
set_option maxHeartbeats 4000000 in
theorem frame_s (b : List Int) (N : Nat) (hN : N ≤ b.length) (hl : b.length ≤ 2 ^ 30) (hb : ∀ x ∈ b, isB x) : Fn Try.prog 97 [.fz (YS b), .int .i64 N] (frA (b.drop N) N) := by
  refine Fn.intro Try.func97 (by decide) rfl (rs := [.tmp 4, .tmp 5, .tmp 6, .tmp 7]) rfl Try.ntmps97 (by simp) ?_; obtain ⟨f, hf⟩ : ∃ f, b.drop N = f := ⟨_, rfl⟩
  have hfl : f.length = b.length - N := by rw [← hf, List.length_drop]
  have hbf : ∀ x ∈ f, isB x := by rw [← hf]; exact dropB hb
  have hmn : min (b.length - N) f.length = f.length := by omega
  have hft : List.take (b.length - N) f = f := List.take_of_length_le (by omega)
  have hsF := getI_lt4 (l := (f.drop 1).take 3) (takeB (dropB hbf)) (by rw [List.length_take]; omega)
  have hcF := getI_lt4 (l := (f.drop 4).take 3) (takeB (dropB hbf)) (by rw [List.length_take]; omega)
  have hwc := wrapI (15 + (getI ((f.drop 4).take 3) : Int)) (by omega) (by omega)
  have hwn := wrapI ((N : Int) + 15) (by omega) (by omega)
  have hwm := wrapI ((N : Int) + 15 + (getI ((f.drop 4).take 3) : Int)) (by omega) (by omega)
  have w1 := wrapI ((N : Int) + 1) (by omega) (by omega)
  have w4 := wrapI ((N : Int) + 4) (by omega) (by omega)
  have w7 := wrapI ((N : Int) + 7) (by omega) (by omega)
  have w11 := wrapI ((N : Int) + 11) (by omega) (by omega)
  have wL := wrapI ((b.length : Int) - N) (by omega) (by omega)
  have wM := wrapI ((b.length : Int) - N - 15) (by omega) (by omega)
  rw [hf]; refine SW.rg fun K hK => ?_; simp -implicitDefEqProofs; repeat (refine And.intro (by clear hK; first | omega | (intros; omega) | (intros; simp_all; done) | (intros; grind)) ?_)
  refine hK _ ?_; clear hK K; refine SW.seqK fun K1 hK1 => ?_; refine SW.rg fun K hK => ?_; simp -implicitDefEqProofs; repeat (refine And.intro (by clear hK; first | omega | (intros; omega) | (intros; simp_all; done) | (intros; grind)) ?_)
  refine hK _ ?_; clear hK K; refine SW.cond _ rfl (by simp) ?_ ?_
  case' refine_2 =>
   intro hb1
   first
   | (exfalso; simp at hb1; done)
   | (exfalso; simp at hb1; omega)
   | (
    refine SW.skip ?_; refine hK1 _ ?_; refine SW.seqK fun K2 hK2 => ?_; refine SW.rg fun K hK => ?_; simp -implicitDefEqProofs [YS_dropN, YS_takeN, hf, hmn, hft, hwn, hwm, w1, w4, w7, w11, wL, wM]
    repeat (refine And.intro (by clear hK; first | omega | (intros; omega) | (intros; simp_all; done) | (intros; grind)) ?_)
    refine hK _ ?_; clear hK K; refine SW.cond _ rfl (by simp) ?_ ?_
    case' refine_2 =>
     intro hb2
     first
     | (exfalso; simp at hb2; done)
     | (exfalso; simp at hb2; omega)
     | (
      have h11 : 11 ≤ f.length := by simp [wL] at hb2; omega
      obtain ⟨x0, hx0⟩ : ∃ q, f[0]? = some q := ⟨_, List.getElem?_eq_getElem (by omega)⟩
      have hx0b : b[N]? = some x0 := by rw [← hx0, ← hf, List.getElem?_drop, Nat.add_zero]
      have h7S : ((N : Int) + 7).toNat - N = 7 := by omega
      refine SW.skip ?_; refine hK2 _ ?_; refine SW.rg fun K hK => ?_; simp -implicitDefEqProofs [YS_dropN, YS_takeN, hf, hmn, hft, hwn, hwm, w1, w4, w7, w11, wL, wM, hx0, hx0b]
      repeat (refine And.intro (by clear hK; first | omega | (intros; omega) | (intros; simp_all; done) | (intros; grind)) ?_)
      first
        | refine CallQG.fzE (by simp) (fun _ => (show Fn Try.prog 106 [.fz (YS b), .int .i64 ((N + 1 : Nat) : Int), .int .i64 ((3 : Nat) : Int)] (.int .i64 (getI ((f.drop 1).take 3) : Nat)) by have h9 := get_s b (N + 1) 3 (by omega) (by omega) (by omega) hb; rw [show b.drop (N + 1) = f.drop 1 by rw [← hf, List.drop_drop]] at h9; exact h9)) (by simp) ?_
        | refine CallG.fzE (by simp) (fun _ => (show Fn Try.prog 106 [.fz (YS b), .int .i64 ((N + 1 : Nat) : Int), .int .i64 ((3 : Nat) : Int)] (.int .i64 (getI ((f.drop 1).take 3) : Nat)) by have h9 := get_s b (N + 1) 3 (by omega) (by omega) (by omega) hb; rw [show b.drop (N + 1) = f.drop 1 by rw [← hf, List.drop_drop]] at h9; exact h9)) (by simp) ?_
        | refine CallQ.fzE ((show Fn Try.prog 106 [.fz (YS b), .int .i64 ((N + 1 : Nat) : Int), .int .i64 ((3 : Nat) : Int)] (.int .i64 (getI ((f.drop 1).take 3) : Nat)) by have h9 := get_s b (N + 1) 3 (by omega) (by omega) (by omega) hb; rw [show b.drop (N + 1) = f.drop 1 by rw [← hf, List.drop_drop]] at h9; exact h9)) (by simp) ?_
        | refine CallK.fzE ((show Fn Try.prog 106 [.fz (YS b), .int .i64 ((N + 1 : Nat) : Int), .int .i64 ((3 : Nat) : Int)] (.int .i64 (getI ((f.drop 1).take 3) : Nat)) by have h9 := get_s b (N + 1) 3 (by omega) (by omega) (by omega) hb; rw [show b.drop (N + 1) = f.drop 1 by rw [← hf, List.drop_drop]] at h9; exact h9)) (by simp) ?_
      simp -implicitDefEqProofs [YS_dropN, YS_takeN, hf, hmn, hft, hwn, hwm, w1, w4, w7, w11, wL, wM, hx0, hx0b]; repeat (refine And.intro (by clear hK; first | omega | (intros; omega) | (intros; simp_all; done) | (intros; grind)) ?_)
      refine hK _ ?_; clear hK K; refine SW.rg fun K hK => ?_; simp -implicitDefEqProofs [YS_dropN, YS_takeN, hf, hmn, hft, hwn, hwm, w1, w4, w7, w11, wL, wM, hx0, hx0b]
      repeat (refine And.intro (by clear hK; first | omega | (intros; omega) | (intros; simp_all; done) | (intros; grind)) ?_)
      first
        | refine CallQG.fzE (by simp) (fun _ => (show Fn Try.prog 106 [.fz (YS b), .int .i64 ((N + 4 : Nat) : Int), .int .i64 ((3 : Nat) : Int)] (.int .i64 (getI ((f.drop 4).take 3) : Nat)) by have h9 := get_s b (N + 4) 3 (by omega) (by omega) (by omega) hb; rw [show b.drop (N + 4) = f.drop 4 by rw [← hf, List.drop_drop]] at h9; exact h9)) (by simp) ?_
        | refine CallG.fzE (by simp) (fun _ => (show Fn Try.prog 106 [.fz (YS b), .int .i64 ((N + 4 : Nat) : Int), .int .i64 ((3 : Nat) : Int)] (.int .i64 (getI ((f.drop 4).take 3) : Nat)) by have h9 := get_s b (N + 4) 3 (by omega) (by omega) (by omega) hb; rw [show b.drop (N + 4) = f.drop 4 by rw [← hf, List.drop_drop]] at h9; exact h9)) (by simp) ?_
        | refine CallQ.fzE ((show Fn Try.prog 106 [.fz (YS b), .int .i64 ((N + 4 : Nat) : Int), .int .i64 ((3 : Nat) : Int)] (.int .i64 (getI ((f.drop 4).take 3) : Nat)) by have h9 := get_s b (N + 4) 3 (by omega) (by omega) (by omega) hb; rw [show b.drop (N + 4) = f.drop 4 by rw [← hf, List.drop_drop]] at h9; exact h9)) (by simp) ?_
        | refine CallK.fzE ((show Fn Try.prog 106 [.fz (YS b), .int .i64 ((N + 4 : Nat) : Int), .int .i64 ((3 : Nat) : Int)] (.int .i64 (getI ((f.drop 4).take 3) : Nat)) by have h9 := get_s b (N + 4) 3 (by omega) (by omega) (by omega) hb; rw [show b.drop (N + 4) = f.drop 4 by rw [← hf, List.drop_drop]] at h9; exact h9)) (by simp) ?_
      simp -implicitDefEqProofs [YS_dropN, YS_takeN, hf, hmn, hft, hwn, hwm, w1, w4, w7, w11, wL, wM, hx0, hx0b]; repeat (refine And.intro (by clear hK; first | omega | (intros; omega) | (intros; simp_all; done) | (intros; grind)) ?_)
      refine hK _ ?_; clear hK K; refine SW.seqK fun K3 hK3 => ?_
      refine SW.drawK mixed [.q [(0, false), (1, false), (2, false), (3, false), (4, false), (5, false), (6, false), (7, false), (8, false), (9, false), (10, false), (11, false), (12, false), (13, false), (14, false), (15, false), (16, false), (17, false), (18, false), (19, false), (20, false), (21, false), (22, false), (23, false), (24, false), (25, false)]] (by kernel_rfl) rfl fun K hK => ?_
      simp -implicitDefEqProofs [YS_dropN, YS_takeN, hf, hmn, hft, hwn, hwm, w1, w4, w7, w11, wL, wM, hx0, hx0b, h7S]; repeat (refine And.intro (by clear hK; first | omega | (intros; omega) | (intros; simp_all; done) | (intros; grind)) ?_)
      first
        | refine CallQG.fzE (by simp) (fun _ => (show Fn Try.prog 106 [.fz (YS b), .int .i64 ((N + 7 : Nat) : Int), .int .i64 ((4 : Nat) : Int)] (.int .i64 (getI ((f.drop 7).take 4) : Nat)) by have h9 := get_s b (N + 7) 4 (by omega) (by omega) (by omega) hb; rw [show b.drop (N + 7) = f.drop 7 by rw [← hf, List.drop_drop]] at h9; exact h9)) (by simp) ?_
        | refine CallG.fzE (by simp) (fun _ => (show Fn Try.prog 106 [.fz (YS b), .int .i64 ((N + 7 : Nat) : Int), .int .i64 ((4 : Nat) : Int)] (.int .i64 (getI ((f.drop 7).take 4) : Nat)) by have h9 := get_s b (N + 7) 4 (by omega) (by omega) (by omega) hb; rw [show b.drop (N + 7) = f.drop 7 by rw [← hf, List.drop_drop]] at h9; exact h9)) (by simp) ?_
        | refine CallQ.fzE ((show Fn Try.prog 106 [.fz (YS b), .int .i64 ((N + 7 : Nat) : Int), .int .i64 ((4 : Nat) : Int)] (.int .i64 (getI ((f.drop 7).take 4) : Nat)) by have h9 := get_s b (N + 7) 4 (by omega) (by omega) (by omega) hb; rw [show b.drop (N + 7) = f.drop 7 by rw [← hf, List.drop_drop]] at h9; exact h9)) (by simp) ?_
        | refine CallK.fzE ((show Fn Try.prog 106 [.fz (YS b), .int .i64 ((N + 7 : Nat) : Int), .int .i64 ((4 : Nat) : Int)] (.int .i64 (getI ((f.drop 7).take 4) : Nat)) by have h9 := get_s b (N + 7) 4 (by omega) (by omega) (by omega) hb; rw [show b.drop (N + 7) = f.drop 7 by rw [← hf, List.drop_drop]] at h9; exact h9)) (by simp) ?_
      simp -implicitDefEqProofs [YS_dropN, YS_takeN, hf, hmn, hft, hwn, hwm, w1, w4, w7, w11, wL, wM, hx0, hx0b, h7S]; repeat (refine And.intro (by clear hK; first | omega | (intros; omega) | (intros; simp_all; done) | (intros; grind)) ?_)
      first
        | refine CallQG.fzE (by simp) (fun _ => crc_s (f.take 7) (by rw [List.length_take]; omega) (takeB hbf)) (by simp) ?_
        | refine CallG.fzE (by simp) (fun _ => crc_s (f.take 7) (by rw [List.length_take]; omega) (takeB hbf)) (by simp) ?_
        | refine CallQ.fzE (crc_s (f.take 7) (by rw [List.length_take]; omega) (takeB hbf)) (by simp) ?_
        | refine CallK.fzE (crc_s (f.take 7) (by rw [List.length_take]; omega) (takeB hbf)) (by simp) ?_
      simp -implicitDefEqProofs [YS_dropN, YS_takeN, hf, hmn, hft, hwn, hwm, w1, w4, w7, w11, wL, wM, hx0, hx0b, h7S]; repeat (refine And.intro (by clear hK; first | omega | (intros; omega) | (intros; simp_all; done) | (intros; grind)) ?_)
      refine hK _ ?_; clear hK K; refine SW.cond _ rfl (by simp) ?_ ?_
      case' refine_2 =>
       intro hb3
       first
       | (exfalso; simp at hb3; done)
       | (exfalso; simp at hb3; omega)
       | (
        have hh : headF f = true := by
          rw [headF_at hx0]; simp at hb3 ⊢; refine ⟨⟨⟨?_, ?_⟩, ?_⟩, ?_⟩ <;> (first | grind | fail)
        refine SW.skip ?_; refine hK3 _ ?_; refine SW.seqK fun K4 hK4 => ?_; refine SW.rg fun K hK => ?_; simp -implicitDefEqProofs [YS_dropN, YS_takeN, hf, hmn, hft, hwn, hwm, w1, w4, w7, w11, wL, wM, hx0, hx0b]
        repeat (refine And.intro (by clear hK; first | omega | (intros; omega) | (intros; simp_all; done) | (intros; grind)) ?_)
        refine hK _ ?_; clear hK K; refine SW.cond _ rfl (by simp) ?_ ?_
        case' refine_2 =>
         intro hb4
         first
         | (exfalso; simp at hb4; done)
         | (exfalso; simp at hb4; omega)
         | (
          have h15b : 15 + getI ((f.drop 4).take 3) ≤ f.length := by simp [wL, wM] at hb4; omega
          have h15 : ¬ f.length < 15 + cntF f := by show ¬ f.length < 15 + getI ((f.drop 4).take 3); omega
          have hdS : List.take ((N : Int) + 15 + (getI ((f.drop 4).take 3) : Int) - ((N : Int) + 15)).toNat (List.drop ((N : Int) + 15).toNat b) = datF f := by unfold datF cntF; rw [show f.drop 15 = b.drop (N + 15) by rw [← hf, List.drop_drop], show ((N : Int) + 15).toNat = N + 15 by omega]; congr 1; omega
          have hdE := hdS
          have hdl : (datF f).length ≤ 2 ^ 30 := by unfold datF; rw [List.length_take, List.length_drop]; omega
          refine SW.skip ?_; refine hK4 _ ?_; refine SW.rg fun K hK => ?_; simp -implicitDefEqProofs [YS_dropN, YS_takeN, hf, hmn, hft, hwn, hwm, w1, w4, w7, w11, wL, wM, hx0, hx0b, hdE, hdS]
          refine ⟨⟨by omega, by omega, by omega, fun _ => YS_lenG b _ (by omega)⟩, ⟨fun e he => YS_len he, fun x hx y hy => YS_oc hx hy, by omega⟩, ?_⟩; refine hK _ ?_; clear hK K; refine SW.seqK fun K5 hK5 => ?_; refine SW.rg fun K hK => ?_
          simp -implicitDefEqProofs [YS_dropN, YS_takeN, hf, hmn, hft, hwn, hwm, w1, w4, w7, w11, wL, wM, hx0, hx0b, hdE, hdS]
          repeat (refine And.intro (by clear hK; first | omega | (intros; omega) | (intros; simp_all; done) | (intros; grind)) ?_)
          first
            | refine CallQG.fzE (by simp) (fun _ => (show Fn Try.prog 106 [.fz (YS b), .int .i64 ((N + 11 : Nat) : Int), .int .i64 ((4 : Nat) : Int)] (.int .i64 (getI ((f.drop 11).take 4) : Nat)) by have h9 := get_s b (N + 11) 4 (by omega) (by omega) (by omega) hb; rw [show b.drop (N + 11) = f.drop 11 by rw [← hf, List.drop_drop]] at h9; exact h9)) (by simp) ?_
            | refine CallG.fzE (by simp) (fun _ => (show Fn Try.prog 106 [.fz (YS b), .int .i64 ((N + 11 : Nat) : Int), .int .i64 ((4 : Nat) : Int)] (.int .i64 (getI ((f.drop 11).take 4) : Nat)) by have h9 := get_s b (N + 11) 4 (by omega) (by omega) (by omega) hb; rw [show b.drop (N + 11) = f.drop 11 by rw [← hf, List.drop_drop]] at h9; exact h9)) (by simp) ?_
            | refine CallQ.fzE ((show Fn Try.prog 106 [.fz (YS b), .int .i64 ((N + 11 : Nat) : Int), .int .i64 ((4 : Nat) : Int)] (.int .i64 (getI ((f.drop 11).take 4) : Nat)) by have h9 := get_s b (N + 11) 4 (by omega) (by omega) (by omega) hb; rw [show b.drop (N + 11) = f.drop 11 by rw [← hf, List.drop_drop]] at h9; exact h9)) (by simp) ?_
            | refine CallK.fzE ((show Fn Try.prog 106 [.fz (YS b), .int .i64 ((N + 11 : Nat) : Int), .int .i64 ((4 : Nat) : Int)] (.int .i64 (getI ((f.drop 11).take 4) : Nat)) by have h9 := get_s b (N + 11) 4 (by omega) (by omega) (by omega) hb; rw [show b.drop (N + 11) = f.drop 11 by rw [← hf, List.drop_drop]] at h9; exact h9)) (by simp) ?_
          simp -implicitDefEqProofs [YS_dropN, YS_takeN, hf, hmn, hft, hwn, hwm, w1, w4, w7, w11, wL, wM, hx0, hx0b, hdE, hdS]
          repeat (refine And.intro (by clear hK; first | omega | (intros; omega) | (intros; simp_all; done) | (intros; grind)) ?_)
          first
            | refine CallQ.fzE (crc_s (datF f) (by omega) (takeB (dropB hbf))) (by simp) ?_
            | refine CallK.fzE (crc_s (datF f) (by omega) (takeB (dropB hbf))) (by simp) ?_
          simp -implicitDefEqProofs [YS_dropN, YS_takeN, hf, hmn, hft, hwn, hwm, w1, w4, w7, w11, wL, wM, hx0, hx0b, hdE, hdS]
          repeat (refine And.intro (by clear hK; first | omega | (intros; omega) | (intros; simp_all; done) | (intros; grind)) ?_)
          refine hK _ ?_; clear hK K; refine SW.cond _ rfl (by simp) ?_ ?_
          case' refine_2 =>
           intro hb5
           first
           | (exfalso; simp at hb5; done)
           | (exfalso; simp at hb5; omega)
           | (
            have hres := frA_yes (f := f) (N := N) (by unfold frC; rw [if_neg (by omega), if_neg (by simp [hh]), if_neg h15, if_pos (by simp at hb5; omega)])
            refine SW.skip ?_; refine hK5 _ ?_; refine SW.rg fun K hK => ?_; simp -implicitDefEqProofs [YS_dropN, YS_takeN, hf, hmn, hft, hwn, hwm, w1, w4, w7, w11, wL, wM, hx0, hx0b, hdE, hdS]
            repeat (refine And.intro (by clear hK; first | omega | (intros; omega) | (intros; simp_all; done) | (intros; grind)) ?_)
            refine hK _ ?_; clear hK K; refine SW.ret ?_; simp [Ex.then, Ex.ib]
            all_goals first
              | (rw [hres]; done)
              | (rw [hres]; refine ⟨fun x hx y hy => by obtain ⟨n, rfl⟩ := YS_int hx hy; rfl, ?_⟩; simp [seqF, cntF]; done)
              | (rw [hres]; simp; done)
              | fail)
          rotate_right
          case' _ =>
           intro hb5
           first
           | (exfalso; simp at hb5; done)
           | (exfalso; simp at hb5; omega)
           | (
            have hres := frA_no (f := f) (N := N) (c := 5) (by unfold frC; rw [if_neg (by omega), if_neg (by simp [hh]), if_neg h15, if_neg (by simp at hb5; omega)]) (by decide)
            refine SW.rg fun K hK => ?_; simp -implicitDefEqProofs; repeat (refine And.intro (by clear hK; first | omega | (intros; omega) | (intros; simp_all; done) | (intros; grind)) ?_)
            refine hK _ ?_; clear hK K; refine SW.ret ?_; simp [Ex.then, Ex.ib]
            all_goals first
              | (rw [hres]; done)
              | (rw [hres]; refine ⟨fun x hx y hy => by obtain ⟨n, rfl⟩ := YS_int hx hy; rfl, ?_⟩; simp [seqF, cntF]; done)
              | (rw [hres]; simp; done)
              | fail))
        rotate_right
        case' _ =>
         intro hb4
         first
         | (exfalso; simp at hb4; done)
         | (exfalso; simp at hb4; omega)
         | (
          have hres := frA_no (f := f) (N := N) (c := 4) (by unfold frC; rw [if_neg (by omega), if_neg (by simp [hh]), if_pos (by show f.length < 15 + getI ((f.drop 4).take 3); simp [wL, wM] at hb4; omega)]) (by decide)
          refine SW.rg fun K hK => ?_; simp -implicitDefEqProofs; repeat (refine And.intro (by clear hK; first | omega | (intros; omega) | (intros; simp_all; done) | (intros; grind)) ?_)
          refine hK _ ?_; clear hK K; refine SW.ret ?_; simp [Ex.then, Ex.ib]
          all_goals first
            | (rw [hres]; done)
            | (rw [hres]; refine ⟨fun x hx y hy => by obtain ⟨n, rfl⟩ := YS_int hx hy; rfl, ?_⟩; simp [seqF, cntF]; done)
            | (rw [hres]; simp; done)
            | fail))
      rotate_right
      case' _ =>
       intro hb3
       first
       | (exfalso; simp at hb3; done)
       | (exfalso; simp at hb3; omega)
       | (
        have hh : headF f = false := by
          cases h9 : headF f with
          | false => rfl
          | true =>
            exfalso; rw [headF_at hx0] at h9; simp only [Bool.and_eq_true, decide_eq_true_eq] at h9; obtain ⟨⟨⟨q1, q2⟩, q3⟩, q4⟩ := h9; simp [q1, q2] at hb3 q3; omega
        have hres := frA_no (f := f) (N := N) (c := 3) (by unfold frC; rw [if_neg (by omega), if_pos hh]) (by decide)
        refine SW.rg fun K hK => ?_; simp -implicitDefEqProofs; repeat (refine And.intro (by clear hK; first | omega | (intros; omega) | (intros; simp_all; done) | (intros; grind)) ?_)
        refine hK _ ?_; clear hK K; refine SW.ret ?_; simp [Ex.then, Ex.ib]
        all_goals first
          | (rw [hres]; done)
          | (rw [hres]; refine ⟨fun x hx y hy => by obtain ⟨n, rfl⟩ := YS_int hx hy; rfl, ?_⟩; simp [seqF, cntF]; done)
          | (rw [hres]; simp; done)
          | fail))
    rotate_right
    case' _ =>
     intro hb2
     first
     | (exfalso; simp at hb2; done)
     | (exfalso; simp at hb2; omega)
     | (
      have hres := frA_no (f := f) (N := N) (c := 2) (if_pos (by simp [wL] at hb2; omega)) (by decide)
      refine SW.rg fun K hK => ?_; simp -implicitDefEqProofs; repeat (refine And.intro (by clear hK; first | omega | (intros; omega) | (intros; simp_all; done) | (intros; grind)) ?_)
      refine hK _ ?_; clear hK K; refine SW.ret ?_; simp [Ex.then, Ex.ib]
      all_goals first
        | (rw [hres]; done)
        | (rw [hres]; refine ⟨fun x hx y hy => by obtain ⟨n, rfl⟩ := YS_int hx hy; rfl, ?_⟩; simp [seqF, cntF]; done)
        | (rw [hres]; simp; done)
        | fail))
  rotate_right
  case' _ =>
   intro hb1
   first
   | (exfalso; simp at hb1; done)
   | (exfalso; simp at hb1; omega)
   | (
    exfalso; simp at hb1; omega; refine SW.rg fun K hK => ?_; simp -implicitDefEqProofs; repeat (refine And.intro (by clear hK; first | omega | (intros; omega) | (intros; simp_all; done) | (intros; grind)) ?_)
    refine hK _ ?_; clear hK K; refine SW.ret ?_; simp [Ex.then, Ex.ib]
    all_goals first
      | (rw [hres]; done)
      | (rw [hres]; refine ⟨fun x hx y hy => by obtain ⟨n, rfl⟩ := YS_int hx hy; rfl, ?_⟩; simp [seqF, cntF]; done)
      | (rw [hres]; simp; done)
      | fail)
end HS
