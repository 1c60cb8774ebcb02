import Derived.Test.YteeefpifkepbpaaEHST
/-
  My own texts (road H): HSU.
-/
set_option linter.unusedSimpArgs false
namespace HS
open Go Go.Proofs HK
def seqF (f : List Int) : Nat := getI ((f.drop 1).take 3)
def cntF (f : List Int) : Nat := getI ((f.drop 4).take 3)
def datF (f : List Int) : List Int := (f.drop 15).take (cntF f)
def headF (f : List Int) : Bool := decide (f[0]? = some 82) && decide (getI ((f.drop 7).take 4) = crc (f.take 7)) && decide (seqF f ≤ 100000) && decide (cntF f ≤ 4000)
def frC (f : List Int) : Nat := if f.length < 11 then 2 else if headF f = false then 3 else if f.length < 15 + cntF f then 4 else if getI ((f.drop 11).take 4) = crc (datF f) then 0 else 5
def frA (f : List Int) (N : Nat) : AV := if frC f = 0 then .tup [.int .i64 (seqF f), .own 1 (YS (datF f)), .int .i64 ((N + 15 + cntF f : Nat) : Int), .int .i64 0] else .tup [.int .i64 0, .nil, .int .i64 0, .int .i64 (frC f)]
theorem headF_at {f : List Int} {x0 : Int} (h : f[0]? = some x0) : headF f = (decide (x0 = 82) && decide (getI ((f.drop 7).take 4) = crc (f.take 7)) && decide (getI ((f.drop 1).take 3) ≤ 100000) && decide (getI ((f.drop 4).take 3) ≤ 4000)) := by
  unfold headF seqF cntF; rw [h]; simp
theorem frA_no {f : List Int} {N c : Nat} (h : frC f = c) (hc : ¬ c = 0) : frA f N = .tup [.int .i64 0, .nil, .int .i64 0, .int .i64 c] := by unfold frA; rw [h, if_neg hc]
theorem frA_yes {f : List Int} {N : Nat} (h : frC f = 0) : frA f N = .tup [.int .i64 (seqF f), .own 1 (YS (datF f)), .int .i64 ((N + 15 + cntF f : Nat) : Int), .int .i64 0] := by unfold frA; rw [if_pos h]
@[simp] theorem YS_tail (l : List Int) : (YS l).tail = YS l.tail := by cases l <;> rfl
theorem crc_lt {l : List Int} (hb : ∀ x ∈ l, isB x) : crc l < 2 ^ 32 := Nat.xor_lt_two_pow (crcL_lt (by omega) hb) (by omega)
theorem dropB {l : List Int} {n : Nat} (hb : ∀ x ∈ l, isB x) : ∀ x ∈ l.drop n, isB x := fun x hx => hb x (List.mem_of_mem_drop hx)
theorem takeB {l : List Int} {n : Nat} (hb : ∀ x ∈ l, isB x) : ∀ x ∈ l.take n, isB x := fun x hx => hb x (List.mem_of_mem_take hx)
set_option maxHeartbeats 4000000 in
theorem frame_i (b : List Int) (N : Nat) (hN : N ≤ b.length) (hl : b.length ≤ 2 ^ 30) (hb : ∀ x ∈ b, isB x) : Fn Try.prog 95 [.fz (YS b), .int .i64 N] (frA (b.drop N) N) := by
  refine Fn.intro Try.func95 (by decide) rfl (rs := [.tmp 4, .tmp 5, .tmp 6, .tmp 7]) rfl Try.ntmps95 (by simp) ?_; obtain ⟨f, hf⟩ : ∃ f, b.drop N = f := ⟨_, rfl⟩
  have hfl : f.length = b.length - N := by rw [← hf, List.length_drop]
  have hbf : ∀ x ∈ f, isB x := by rw [← hf]; exact dropB hb
  have hmn : min (b.length - N) f.length = f.length := by omega
  have hft : List.take (b.length - N) f = f := List.take_of_length_le (by omega)
  have hsF := getI_lt4 (l := (f.drop 1).take 3) (takeB (dropB hbf)) (by rw [List.length_take]; omega)
  have hcF := getI_lt4 (l := (f.drop 4).take 3) (takeB (dropB hbf)) (by rw [List.length_take]; omega)
  have hwc := wrapI (15 + (getI ((f.drop 4).take 3) : Int)) (by omega) (by omega)
  have hwn := wrapI ((N : Int) + 15) (by omega) (by omega)
  have hwm := wrapI ((N : Int) + 15 + (getI ((f.drop 4).take 3) : Int)) (by omega) (by omega)
  rw [hf]; refine SW.rg fun K hK => ?_; simp -implicitDefEqProofs; repeat (refine And.intro (by clear hK; first | omega | (intros; omega) | (intros; simp_all; done) | (intros; grind)) ?_)
  refine hK _ ?_; clear hK K; refine SW.seqK fun K1 hK1 => ?_; refine SW.rg fun K hK => ?_; simp -implicitDefEqProofs; repeat (refine And.intro (by clear hK; first | omega | (intros; omega) | (intros; simp_all; done) | (intros; grind)) ?_)
  refine hK _ ?_; clear hK K; refine SW.cond _ rfl (by simp) ?_ ?_
  case' refine_2 =>
   intro hb1
   first
   | (exfalso; simp at hb1; done)
   | (exfalso; simp at hb1; omega)
   | (
    refine SW.skip ?_; refine hK1 _ ?_; refine SW.rg fun K hK => ?_; simp -implicitDefEqProofs [YS_dropN, YS_takeN, hf, hmn, hft]
    repeat (refine And.intro (by clear hK; first | omega | (intros; omega) | (intros; simp_all; done) | (intros; grind)) ?_)
    refine hK _ ?_; clear hK K; refine SW.seqK fun K2 hK2 => ?_; refine SW.rg fun K hK => ?_; simp -implicitDefEqProofs; repeat (refine And.intro (by clear hK; first | omega | (intros; omega) | (intros; simp_all; done) | (intros; grind)) ?_)
    refine hK _ ?_; clear hK K; refine SW.cond _ rfl (by simp) ?_ ?_
    case' refine_2 =>
     intro hb2
     first
     | (exfalso; simp at hb2; done)
     | (exfalso; simp at hb2; omega)
     | (
      have h11 : 11 ≤ f.length := by simp at hb2; omega
      obtain ⟨x0, hx0⟩ : ∃ q, f[0]? = some q := ⟨_, List.getElem?_eq_getElem (by omega)⟩
      have hx0h : f.head? = some x0 := by rw [List.head?_eq_getElem?]; exact hx0
      refine SW.skip ?_; refine hK2 _ ?_; refine SW.rg fun K hK => ?_; simp -implicitDefEqProofs [YS_dropN, YS_takeN, hwc, hwn, hwm, hx0, hx0h]
      repeat (refine And.intro (by clear hK; first | omega | (intros; omega) | (intros; simp_all; done) | (intros; grind)) ?_)
      first
        | refine CallQ.fzE (get_i ((f.drop 1).take 3) (by rw [List.length_take]; omega) (takeB (dropB hbf))) (by simp) ?_
        | refine CallK.fzE (get_i ((f.drop 1).take 3) (by rw [List.length_take]; omega) (takeB (dropB hbf))) (by simp) ?_
      simp -implicitDefEqProofs [YS_dropN, YS_takeN, hwc, hwn, hwm, hx0, hx0h]; repeat (refine And.intro (by clear hK; first | omega | (intros; omega) | (intros; simp_all; done) | (intros; grind)) ?_)
      refine hK _ ?_; clear hK K; refine SW.rg fun K hK => ?_; simp -implicitDefEqProofs [YS_dropN, YS_takeN, hwc, hwn, hwm, hx0, hx0h]
      repeat (refine And.intro (by clear hK; first | omega | (intros; omega) | (intros; simp_all; done) | (intros; grind)) ?_)
      first
        | refine CallQ.fzE (get_i ((f.drop 4).take 3) (by rw [List.length_take]; omega) (takeB (dropB hbf))) (by simp) ?_
        | refine CallK.fzE (get_i ((f.drop 4).take 3) (by rw [List.length_take]; omega) (takeB (dropB hbf))) (by simp) ?_
      simp -implicitDefEqProofs [YS_dropN, YS_takeN, hwc, hwn, hwm, hx0, hx0h]; repeat (refine And.intro (by clear hK; first | omega | (intros; omega) | (intros; simp_all; done) | (intros; grind)) ?_)
      refine hK _ ?_; clear hK K; refine SW.seqK fun K3 hK3 => ?_
      refine SW.drawK mixed [.q [(0, false), (1, false), (2, false), (3, false), (4, false), (5, false), (6, false), (7, false), (8, false), (9, false), (10, false), (11, false), (12, false), (13, false), (14, false), (15, false), (16, false), (17, false), (18, false), (19, false), (20, false)]] (by kernel_rfl) rfl fun K hK => ?_
      simp -implicitDefEqProofs [YS_dropN, YS_takeN, hwc, hwn, hwm, hx0, hx0h]; repeat (refine And.intro (by clear hK; first | omega | (intros; omega) | (intros; simp_all; done) | (intros; grind)) ?_)
      first
        | refine CallQG.fzE (by simp) (fun _ => get_i ((f.drop 7).take 4) (by rw [List.length_take]; omega) (takeB (dropB hbf))) (by simp) ?_
        | refine CallG.fzE (by simp) (fun _ => get_i ((f.drop 7).take 4) (by rw [List.length_take]; omega) (takeB (dropB hbf))) (by simp) ?_
        | refine CallQ.fzE (get_i ((f.drop 7).take 4) (by rw [List.length_take]; omega) (takeB (dropB hbf))) (by simp) ?_
        | refine CallK.fzE (get_i ((f.drop 7).take 4) (by rw [List.length_take]; omega) (takeB (dropB hbf))) (by simp) ?_
      simp -implicitDefEqProofs [YS_dropN, YS_takeN, hwc, hwn, hwm, hx0, hx0h]; repeat (refine And.intro (by clear hK; first | omega | (intros; omega) | (intros; simp_all; done) | (intros; grind)) ?_)
      first
        | refine CallQG.fzE (by simp) (fun _ => crc_i (f.take 7) (by rw [List.length_take]; omega) (takeB hbf)) (by simp) ?_
        | refine CallG.fzE (by simp) (fun _ => crc_i (f.take 7) (by rw [List.length_take]; omega) (takeB hbf)) (by simp) ?_
        | refine CallQ.fzE (crc_i (f.take 7) (by rw [List.length_take]; omega) (takeB hbf)) (by simp) ?_
        | refine CallK.fzE (crc_i (f.take 7) (by rw [List.length_take]; omega) (takeB hbf)) (by simp) ?_
      simp -implicitDefEqProofs [YS_dropN, YS_takeN, hwc, hwn, hwm, hx0, hx0h]; repeat (refine And.intro (by clear hK; first | omega | (intros; omega) | (intros; simp_all; done) | (intros; grind)) ?_)
      refine hK _ ?_; clear hK K; refine SW.cond _ rfl (by simp) ?_ ?_
      case' refine_2 =>
       intro hb3
       first
       | (exfalso; simp at hb3; done)
       | (exfalso; simp at hb3; omega)
       | (
        have hh : headF f = true := by
          rw [headF_at hx0]; simp at hb3 ⊢; refine ⟨⟨⟨?_, ?_⟩, ?_⟩, ?_⟩ <;> (first | grind | fail)
        refine SW.skip ?_; refine hK3 _ ?_; refine SW.seqK fun K4 hK4 => ?_; refine SW.rg fun K hK => ?_; simp -implicitDefEqProofs [YS_dropN, YS_takeN, hwc, hwn, hwm, hx0, hx0h]
        repeat (refine And.intro (by clear hK; first | omega | (intros; omega) | (intros; simp_all; done) | (intros; grind)) ?_)
        refine hK _ ?_; clear hK K; refine SW.cond _ rfl (by simp) ?_ ?_
        case' refine_2 =>
         intro hb4
         first
         | (exfalso; simp at hb4; done)
         | (exfalso; simp at hb4; omega)
         | (
          have h15b : 15 + getI ((f.drop 4).take 3) ≤ f.length := by simp [hwc] at hb4; omega
          have h15 : ¬ f.length < 15 + cntF f := by show ¬ f.length < 15 + getI ((f.drop 4).take 3); omega
          have hdE : List.take (15 + (getI ((f.drop 4).take 3) : Int) - 15).toNat (List.drop 15 f) = datF f := by unfold datF cntF; congr 1; omega
          have hdl : (datF f).length ≤ 2 ^ 30 := by unfold datF; rw [List.length_take, List.length_drop]; omega
          refine SW.skip ?_; refine hK4 _ ?_; refine SW.rg fun K hK => ?_; simp -implicitDefEqProofs [YS_dropN, YS_takeN, hwc, hwn, hwm, hx0, hx0h, hdE]
          repeat (refine And.intro (by clear hK; first | omega | (intros; omega) | (intros; simp_all; done) | (intros; grind)) ?_)
          refine hK _ ?_; clear hK K; refine SW.seqK fun K5 hK5 => ?_; refine SW.rg fun K hK => ?_; simp -implicitDefEqProofs [YS_dropN, YS_takeN, hwc, hwn, hwm, hx0, hx0h, hdE]
          repeat (refine And.intro (by clear hK; first | omega | (intros; omega) | (intros; simp_all; done) | (intros; grind)) ?_)
          first
            | refine CallQ.fzE (get_i ((f.drop 11).take 4) (by rw [List.length_take]; omega) (takeB (dropB hbf))) (by simp) ?_
            | refine CallK.fzE (get_i ((f.drop 11).take 4) (by rw [List.length_take]; omega) (takeB (dropB hbf))) (by simp) ?_
          simp -implicitDefEqProofs [YS_dropN, YS_takeN, hwc, hwn, hwm, hx0, hx0h, hdE]; repeat (refine And.intro (by clear hK; first | omega | (intros; omega) | (intros; simp_all; done) | (intros; grind)) ?_)
          first
            | refine CallQ.fzE (crc_i (datF f) (by unfold datF; rw [List.length_take, List.length_drop]; omega) (takeB (dropB hbf))) (by simp) ?_
            | refine CallK.fzE (crc_i (datF f) (by unfold datF; rw [List.length_take, List.length_drop]; omega) (takeB (dropB hbf))) (by simp) ?_
          simp -implicitDefEqProofs [YS_dropN, YS_takeN, hwc, hwn, hwm, hx0, hx0h, hdE]; repeat (refine And.intro (by clear hK; first | omega | (intros; omega) | (intros; simp_all; done) | (intros; grind)) ?_)
          refine hK _ ?_; clear hK K; refine SW.cond _ rfl (by simp) ?_ ?_
          case' refine_2 =>
           intro hb5
           first
           | (exfalso; simp at hb5; done)
           | (exfalso; simp at hb5; omega)
           | (
            have hres := frA_yes (f := f) (N := N) (by unfold frC; rw [if_neg (by omega), if_neg (by simp [hh]), if_neg h15, if_pos (by simp at hb5; omega)])
            refine SW.skip ?_; refine hK5 _ ?_; refine SW.rg fun K hK => ?_; simp -implicitDefEqProofs [YS_dropN, YS_takeN, hwc, hwn, hwm, hx0, hx0h, hdE]
            repeat (refine And.intro (by clear hK; first | omega | (intros; omega) | (intros; simp_all; done) | (intros; grind)) ?_)
            refine CallK.im (clone_ok (datF f) (by omega)) (YS_okI _) ?_; simp -implicitDefEqProofs [YS_dropN, YS_takeN, hwc, hwn, hwm, hx0, hx0h, hdE]
            repeat (refine And.intro (by clear hK; first | omega | (intros; omega) | (intros; simp_all; done) | (intros; grind)) ?_)
            refine hK _ ?_; clear hK K; refine SW.ret ?_; simp [Ex.then, Ex.ib]
            all_goals first
              | (rw [hres]; done)
              | (rw [hres]; refine ⟨fun x hx y hy => by obtain ⟨n, rfl⟩ := YS_int hx hy; rfl, ?_⟩; simp [seqF, cntF]; done)
              | (rw [hres]; simp; done)
              | fail)
          rotate_right
          case' _ =>
           intro hb5
           first
           | (exfalso; simp at hb5; done)
           | (exfalso; simp at hb5; omega)
           | (
            have hres := frA_no (f := f) (N := N) (c := 5) (by unfold frC; rw [if_neg (by omega), if_neg (by simp [hh]), if_neg h15, if_neg (by simp at hb5; omega)]) (by decide)
            refine SW.rg fun K hK => ?_; simp -implicitDefEqProofs; repeat (refine And.intro (by clear hK; first | omega | (intros; omega) | (intros; simp_all; done) | (intros; grind)) ?_)
            refine hK _ ?_; clear hK K; refine SW.ret ?_; simp [Ex.then, Ex.ib]
            all_goals first
              | (rw [hres]; done)
              | (rw [hres]; refine ⟨fun x hx y hy => by obtain ⟨n, rfl⟩ := YS_int hx hy; rfl, ?_⟩; simp [seqF, cntF]; done)
              | (rw [hres]; simp; done)
              | fail))
        rotate_right
        case' _ =>
         intro hb4
         first
         | (exfalso; simp at hb4; done)
         | (exfalso; simp at hb4; omega)
         | (
          have hres := frA_no (f := f) (N := N) (c := 4) (by unfold frC; rw [if_neg (by omega), if_neg (by simp [hh]), if_pos (by show _ < 15 + getI ((f.drop 4).take 3); simp [hwc] at hb4; omega)]) (by decide)
          refine SW.rg fun K hK => ?_; simp -implicitDefEqProofs; repeat (refine And.intro (by clear hK; first | omega | (intros; omega) | (intros; simp_all; done) | (intros; grind)) ?_)
          refine hK _ ?_; clear hK K; refine SW.ret ?_; simp [Ex.then, Ex.ib]
          all_goals first
            | (rw [hres]; done)
            | (rw [hres]; refine ⟨fun x hx y hy => by obtain ⟨n, rfl⟩ := YS_int hx hy; rfl, ?_⟩; simp [seqF, cntF]; done)
            | (rw [hres]; simp; done)
            | fail))
      rotate_right
      case' _ =>
       intro hb3
       first
       | (exfalso; simp at hb3; done)
       | (exfalso; simp at hb3; omega)
       | (
        have hh : headF f = false := by
          cases h9 : headF f with
          | false => rfl
          | true =>
            exfalso; rw [headF_at hx0] at h9; simp only [Bool.and_eq_true, decide_eq_true_eq] at h9; obtain ⟨⟨⟨q1, q2⟩, q3⟩, q4⟩ := h9; simp [q1, q2] at hb3 q3; omega
        have hres := frA_no (f := f) (N := N) (c := 3) (by unfold frC; rw [if_neg (by omega), if_pos hh]) (by decide)
        refine SW.rg fun K hK => ?_; simp -implicitDefEqProofs; repeat (refine And.intro (by clear hK; first | omega | (intros; omega) | (intros; simp_all; done) | (intros; grind)) ?_)
        refine hK _ ?_; clear hK K; refine SW.ret ?_; simp [Ex.then, Ex.ib]
        all_goals first
          | (rw [hres]; done)
          | (rw [hres]; refine ⟨fun x hx y hy => by obtain ⟨n, rfl⟩ := YS_int hx hy; rfl, ?_⟩; simp [seqF, cntF]; done)
          | (rw [hres]; simp; done)
          | fail))
    rotate_right
    case' _ =>
     intro hb2
     first
     | (exfalso; simp at hb2; done)
     | (exfalso; simp at hb2; omega)
     | (
      have hres := frA_no (f := f) (N := N) (c := 2) (if_pos (by simp at hb2; omega)) (by decide)
      refine SW.rg fun K hK => ?_; simp -implicitDefEqProofs; repeat (refine And.intro (by clear hK; first | omega | (intros; omega) | (intros; simp_all; done) | (intros; grind)) ?_)
      refine hK _ ?_; clear hK K; refine SW.ret ?_; simp [Ex.then, Ex.ib]
      all_goals first
        | (rw [hres]; done)
        | (rw [hres]; refine ⟨fun x hx y hy => by obtain ⟨n, rfl⟩ := YS_int hx hy; rfl, ?_⟩; simp [seqF, cntF]; done)
        | (rw [hres]; simp; done)
        | fail))
  rotate_right
  case' _ =>
   intro hb1
   first
   | (exfalso; simp at hb1; done)
   | (exfalso; simp at hb1; omega)
   | (
    exfalso; simp at hb1; omega; refine SW.rg fun K hK => ?_; simp -implicitDefEqProofs; repeat (refine And.intro (by clear hK; first | omega | (intros; omega) | (intros; simp_all; done) | (intros; grind)) ?_)
    refine hK _ ?_; clear hK K; refine SW.ret ?_; simp [Ex.then, Ex.ib]
    all_goals first
      | (rw [hres]; done)
      | (rw [hres]; refine ⟨fun x hx y hy => by obtain ⟨n, rfl⟩ := YS_int hx hy; rfl, ?_⟩; simp [seqF, cntF]; done)
      | (rw [hres]; simp; done)
      | fail)
end HS
