import Derived.Test.YtjalahhkhcmjaaaDoorG3b
import Derived.Test.YtjalahhkhcmjaaaDoorHK48
/-
  My own texts (road H): HLQ0.
-/
set_option linter.unusedSimpArgs false
set_option linter.unusedVariables false
namespace HT
open Go Go.Proofs HK
abbrev noB : ByteArray := ⟨#[]⟩
def digB (n : Int) : ByteArray := ⟨#[UInt8.ofNat (48 + n.toNat)]⟩
def numN (n : Nat) : ByteArray := if h : n < 10 then digB n else numN (n / 10) ++ digB ((n % 10 : Nat) : Int)
termination_by n
decreasing_by omega
def isNumB (n : Int) : Bool := decide (0 ≤ n) && decide (n ≤ 4294967295)
def numB (n : Int) : ByteArray := if isNumB n then numN n.toNat else noB
theorem digB_size (n : Int) : (digB n).size = 1 := rfl
theorem numN_size (n : Nat) : (numN n).size ≤ n + 1 := by
  induction n using Nat.strongRecOn with
  | _ n ih =>
    rw [numN]; split
    · rw [digB_size]; omega
    · have := ih (n / 10) (by omega)
      rw [ByteArray.size_append, digB_size]; omega
theorem numN_pos (n : Nat) : 1 ≤ (numN n).size := by
  rw [numN]; split
  · rw [digB_size]; omega
  · rw [ByteArray.size_append, digB_size]; omega
theorem numB_size (n : Int) : (numB n).size ≤ 4294967296 := by
  unfold numB; split
  · rename_i h
    have := numN_size n.toNat
    simp [isNumB] at h; omega
  · show 0 ≤ _; omega
theorem numB_emp (n : Int) : numB n = noB ↔ isNumB n = false := by
  unfold numB; split
  · rename_i h
    have := numN_pos n.toNat
    constructor
    · intro e
      rw [e] at this; exact absurd this (by decide)
    · intro e; rw [e] at h; cases h
  · rename_i h
    simpa using h
theorem enc_dig {n : Int} (h0 : 0 ≤ n) (h9 : n < 10) : Utf8.encode (48 + n) = digB n := by
  obtain ⟨k, rfl⟩ := Int.eq_ofNat_of_zero_le h0; have : k = 0 ∨ k = 1 ∨ k = 2 ∨ k = 3 ∨ k = 4 ∨ k = 5 ∨ k = 6 ∨ k = 7 ∨ k = 8 ∨ k = 9 := by omega
  rcases this with rfl | rfl | rfl | rfl | rfl | rfl | rfl | rfl | rfl | rfl <;> rfl
theorem str_dig {n : Int} (h0 : 0 ≤ n) (h9 : n < 10) : strB [48 + n] = digB n := by
  obtain ⟨k, rfl⟩ := Int.eq_ofNat_of_zero_le h0; have : k = 0 ∨ k = 1 ∨ k = 2 ∨ k = 3 ∨ k = 4 ∨ k = 5 ∨ k = 6 ∨ k = 7 ∨ k = 8 ∨ k = 9 := by omega
  rcases this with rfl | rfl | rfl | rfl | rfl | rfl | rfl | rfl | rfl | rfl <;> rfl
theorem wrapR {n : Int} (h0 : 0 ≤ n) (h9 : n < 200) : IntKind.i32.wrap n = n := by
  have e : IntKind.i32.wrap n = if n % 2 ^ 32 ≥ 2 ^ 31 then n % 2 ^ 32 - 2 ^ 32 else n % 2 ^ 32 := by
    simp [IntKind.wrap, IntKind.bits, IntKind.signed]
  rw [e]; split <;> omega
theorem wrapB {n : Int} (h0 : 0 ≤ n) (h9 : n < 200) : IntKind.u8.wrap n = n := by
  have e : IntKind.u8.wrap n = n % 2 ^ 8 := by
    simp [IntKind.wrap, IntKind.bits, IntKind.signed]
  rw [e]; omega
theorem numB_one {n : Int} (h0 : 0 ≤ n) (h9 : n < 10) : numB n = digB n := by
  have : isNumB n = true := by simp [isNumB]; omega
  unfold numB; rw [if_pos this, numN, dif_pos (by omega)]
  congr 1; omega
theorem numB_more {n : Int} (h : isNumB n = true) (h9 : ¬ n < 10) : numB n = numB (n / 10) ++ digB (n % 10) := by
  have h2 := h
  simp [isNumB] at h2; have : isNumB (n / 10) = true := by simp [isNumB]; omega
  unfold numB; rw [if_pos this, if_pos h, numN, dif_neg (by omega)]
  congr 2 <;> omega
set_option maxHeartbeats 1000000 in
theorem isNum_s (n : Int) : Fn Tryd.prog 25 [.int .i64 n] (.bool (isNumB n)) := by
  refine Fn.intro Tryd.func25 (by decide) rfl (rs := [.tmp 2]) rfl Tryd.ntmps25 (by simp) ?_; refine SW.rg fun K hK => ?_; simp -implicitDefEqProofs; repeat refine ⟨by omega, ?_⟩
  refine hK _ ?_; clear hK K; refine SW.rg fun K hK => ?_; simp -implicitDefEqProofs; repeat refine ⟨by omega, ?_⟩
  refine hK _ ?_; clear hK K; refine SW.ret ?_; simp [Ex.then, Ex.ib]
  all_goals simp [isNumB]
set_option maxHeartbeats 1000000 in
theorem isNum_i (n : Int) : Fn Tryd.prog 31 [.int .i64 n] (.bool (isNumB n)) := by
  refine Fn.intro Tryd.func31 (by decide) rfl (rs := [.tmp 2]) rfl Tryd.ntmps31 (by simp) ?_; refine SW.rg fun K hK => ?_; simp -implicitDefEqProofs; repeat refine ⟨by omega, ?_⟩
  refine hK _ ?_; clear hK K; refine SW.rg fun K hK => ?_; simp -implicitDefEqProofs; repeat refine ⟨by omega, ?_⟩
  refine hK _ ?_; clear hK K; refine SW.ret ?_; simp [Ex.then, Ex.ib]
  all_goals simp [isNumB]
set_option maxHeartbeats 1000000 in
theorem numT_in (n : Int) (hn : isNumB n = false) : Fn Tryd.prog 17 [.int .i64 n] (.str noB) := by
  refine Fn.intro Tryd.func17 (by decide) rfl (rs := [.tmp 2]) rfl Tryd.ntmps17 (by simp) ?_; refine SW.rg fun K hK => ?_; simp -implicitDefEqProofs
  repeat (refine And.intro (by clear hK; first | omega | (intros; simp_all; done) | (intros; grind)) ?_)
  refine hK _ ?_; clear hK K; refine SW.seqK fun K1 hK1 => ?_; refine SW.rg fun K hK => ?_; simp -implicitDefEqProofs; repeat (refine And.intro (by clear hK; first | omega | (intros; simp_all; done) | (intros; grind)) ?_)
  first
    | refine CallQ.fzE ((show Fn Tryd.prog 31 [.int .i64 n] (.bool false) by have h := isNum_i n; rwa [hn] at h)) (by simp) ?_
    | refine CallK.fzE ((show Fn Tryd.prog 31 [.int .i64 n] (.bool false) by have h := isNum_i n; rwa [hn] at h)) (by simp) ?_
  simp -implicitDefEqProofs; repeat (refine And.intro (by clear hK; first | omega | (intros; simp_all; done) | (intros; grind)) ?_)
  refine hK _ ?_; clear hK K; refine SW.cond _ rfl (by simp) ?_ ?_
  case' refine_2 =>
   intro hb1
   first
   | (exfalso; simp at hb1; done)
   | (exfalso; simp at hb1; omega)
   | (
    refine SW.skip ?_; refine hK1 _ ?_; refine SW.seqK fun K2 hK2 => ?_; refine SW.rg fun K hK => ?_; simp -implicitDefEqProofs; repeat (refine And.intro (by clear hK; first | omega | (intros; simp_all; done) | (intros; grind)) ?_)
    refine hK _ ?_; clear hK K; refine SW.cond _ rfl (by simp) ?_ ?_
    case' refine_2 =>
     intro hb2
     first
     | (exfalso; simp at hb2; done)
     | (exfalso; simp at hb2; omega)
     | (
      refine SW.skip ?_; refine hK2 _ ?_; refine SW.rg fun K hK => ?_; simp -implicitDefEqProofs; repeat (refine And.intro (by clear hK; first | omega | (intros; simp_all; done) | (intros; grind)) ?_)
      fail
      simp -implicitDefEqProofs; repeat (refine And.intro (by clear hK; first | omega | (intros; simp_all; done) | (intros; grind)) ?_)
      refine hK _ ?_; clear hK K; refine SW.ret ?_
      simp [Ex.then, Ex.ib])
    rotate_right
    case' _ =>
     intro hb2
     first
     | (exfalso; simp at hb2; done)
     | (exfalso; simp at hb2; omega)
     | (
      refine SW.rg fun K hK => ?_; simp -implicitDefEqProofs; repeat (refine And.intro (by clear hK; first | omega | (intros; simp_all; done) | (intros; grind)) ?_)
      refine hK _ ?_; clear hK K; refine SW.ret ?_
      simp [Ex.then, Ex.ib]))
  rotate_right
  case' _ =>
   intro hb1
   first
   | (exfalso; simp at hb1; done)
   | (exfalso; simp at hb1; omega)
   | (
    refine SW.rg fun K hK => ?_; simp -implicitDefEqProofs; repeat (refine And.intro (by clear hK; first | omega | (intros; simp_all; done) | (intros; grind)) ?_)
    refine hK _ ?_; clear hK K; refine SW.ret ?_
    simp [Ex.then, Ex.ib])
set_option maxHeartbeats 1000000 in
theorem numT_i1 (n : Int) (hn : isNumB n = true) (h9 : n < 10) : Fn Tryd.prog 17 [.int .i64 n] (.str (digB n)) := by
  refine Fn.intro Tryd.func17 (by decide) rfl (rs := [.tmp 2]) rfl Tryd.ntmps17 (by simp) ?_; have h0 : 0 ≤ n := by simp [isNumB] at hn; omega
  have hle : n ≤ 4294967295 := by simp [isNumB] at hn; omega
  have hw := wrapI (48 + n) (by omega) (by omega)
  have hq : n.tdiv 10 = n / 10 := Int.tdiv_eq_ediv_of_nonneg h0
  have hr : n.tmod 10 = n % 10 := Int.tmod_eq_emod_of_nonneg h0
  have hwq := wrapI (n / 10) (by omega) (by omega)
  have hwr := wrapI (48 + n % 10) (by omega) (by omega)
  have hsz := numB_size (n / 10)
  have h1 := enc_dig (n := n) h0 h9
  have h2 := wrapR (n := 48 + n) (by omega) (by omega)
  refine SW.rg fun K hK => ?_; simp -implicitDefEqProofs; repeat (refine And.intro (by clear hK; first | omega | (intros; simp_all; done) | (intros; grind)) ?_)
  refine hK _ ?_; clear hK K; refine SW.seqK fun K1 hK1 => ?_; refine SW.rg fun K hK => ?_; simp -implicitDefEqProofs; repeat (refine And.intro (by clear hK; first | omega | (intros; simp_all; done) | (intros; grind)) ?_)
  first
    | refine CallQ.fzE ((show Fn Tryd.prog 31 [.int .i64 n] (.bool true) by have h := isNum_i n; rwa [hn] at h)) (by simp) ?_
    | refine CallK.fzE ((show Fn Tryd.prog 31 [.int .i64 n] (.bool true) by have h := isNum_i n; rwa [hn] at h)) (by simp) ?_
  simp -implicitDefEqProofs; repeat (refine And.intro (by clear hK; first | omega | (intros; simp_all; done) | (intros; grind)) ?_)
  refine hK _ ?_; clear hK K; refine SW.cond _ rfl (by simp) ?_ ?_
  case' refine_2 =>
   intro hb1
   first
   | (exfalso; simp at hb1; done)
   | (exfalso; simp at hb1; omega)
   | (
    refine SW.skip ?_; refine hK1 _ ?_; refine SW.seqK fun K2 hK2 => ?_; refine SW.rg fun K hK => ?_; simp -implicitDefEqProofs; repeat (refine And.intro (by clear hK; first | omega | (intros; simp_all; done) | (intros; grind)) ?_)
    refine hK _ ?_; clear hK K; refine SW.cond _ rfl (by simp) ?_ ?_
    case' refine_2 =>
     intro hb2
     first
     | (exfalso; simp at hb2; done)
     | (exfalso; simp at hb2; omega)
     | (
      refine SW.skip ?_; refine hK2 _ ?_; refine SW.rg fun K hK => ?_; simp -implicitDefEqProofs; repeat (refine And.intro (by clear hK; first | omega | (intros; simp_all; done) | (intros; grind)) ?_)
      fail
      simp -implicitDefEqProofs; repeat (refine And.intro (by clear hK; first | omega | (intros; simp_all; done) | (intros; grind)) ?_)
      refine hK _ ?_; clear hK K; refine SW.ret ?_
      simp [Ex.then, Ex.ib])
    rotate_right
    case' _ =>
     intro hb2
     first
     | (exfalso; simp at hb2; done)
     | (exfalso; simp at hb2; omega)
     | (
      refine SW.rg fun K hK => ?_; simp -implicitDefEqProofs [hw, h2, h1, bytC]; repeat (refine And.intro (by clear hK; first | omega | (intros; simp_all; done) | (intros; grind)) ?_)
      refine hK _ ?_; clear hK K; refine SW.ret ?_
      simp [Ex.then, Ex.ib]))
  rotate_right
  case' _ =>
   intro hb1
   first
   | (exfalso; simp at hb1; done)
   | (exfalso; simp at hb1; omega)
   | (
    refine SW.rg fun K hK => ?_; simp -implicitDefEqProofs; repeat (refine And.intro (by clear hK; first | omega | (intros; simp_all; done) | (intros; grind)) ?_)
    refine hK _ ?_; clear hK K; refine SW.ret ?_
    simp [Ex.then, Ex.ib])
set_option maxHeartbeats 1000000 in
theorem numT_im (n : Int) (hn : isNumB n = true) (h9 : ¬ n < 10) (ih : Fn Tryd.prog 17 [.int .i64 (n / 10)] (.str (numB (n / 10)))) : Fn Tryd.prog 17 [.int .i64 n] (.str (numB (n / 10) ++ digB (n % 10))) := by
  refine Fn.intro Tryd.func17 (by decide) rfl (rs := [.tmp 2]) rfl Tryd.ntmps17 (by simp) ?_; have h0 : 0 ≤ n := by simp [isNumB] at hn; omega
  have hle : n ≤ 4294967295 := by simp [isNumB] at hn; omega
  have hw := wrapI (48 + n) (by omega) (by omega)
  have hq : n.tdiv 10 = n / 10 := Int.tdiv_eq_ediv_of_nonneg h0
  have hr : n.tmod 10 = n % 10 := Int.tmod_eq_emod_of_nonneg h0
  have hwq := wrapI (n / 10) (by omega) (by omega)
  have hwr := wrapI (48 + n % 10) (by omega) (by omega)
  have hsz := numB_size (n / 10)
  have h1 := enc_dig (n := n % 10) (by omega) (by omega)
  have h2 := wrapR (n := 48 + n % 10) (by omega) (by omega)
  refine SW.rg fun K hK => ?_; simp -implicitDefEqProofs; repeat (refine And.intro (by clear hK; first | omega | (intros; simp_all; done) | (intros; grind)) ?_)
  refine hK _ ?_; clear hK K; refine SW.seqK fun K1 hK1 => ?_; refine SW.rg fun K hK => ?_; simp -implicitDefEqProofs; repeat (refine And.intro (by clear hK; first | omega | (intros; simp_all; done) | (intros; grind)) ?_)
  first
    | refine CallQ.fzE ((show Fn Tryd.prog 31 [.int .i64 n] (.bool true) by have h := isNum_i n; rwa [hn] at h)) (by simp) ?_
    | refine CallK.fzE ((show Fn Tryd.prog 31 [.int .i64 n] (.bool true) by have h := isNum_i n; rwa [hn] at h)) (by simp) ?_
  simp -implicitDefEqProofs; repeat (refine And.intro (by clear hK; first | omega | (intros; simp_all; done) | (intros; grind)) ?_)
  refine hK _ ?_; clear hK K; refine SW.cond _ rfl (by simp) ?_ ?_
  case' refine_2 =>
   intro hb1
   first
   | (exfalso; simp at hb1; done)
   | (exfalso; simp at hb1; omega)
   | (
    refine SW.skip ?_; refine hK1 _ ?_; refine SW.seqK fun K2 hK2 => ?_; refine SW.rg fun K hK => ?_; simp -implicitDefEqProofs; repeat (refine And.intro (by clear hK; first | omega | (intros; simp_all; done) | (intros; grind)) ?_)
    refine hK _ ?_; clear hK K; refine SW.cond _ rfl (by simp) ?_ ?_
    case' refine_2 =>
     intro hb2
     first
     | (exfalso; simp at hb2; done)
     | (exfalso; simp at hb2; omega)
     | (
      refine SW.skip ?_; refine hK2 _ ?_; refine SW.rg fun K hK => ?_; simp -implicitDefEqProofs [hq, hr, hwq, hwr, h2, h1, bytC, digB_size]
      repeat (refine And.intro (by clear hK; first | omega | (intros; simp_all; done) | (intros; grind)) ?_)
      first
        | refine CallQ.fzE (ih) (by simp) ?_
        | refine CallK.fzE (ih) (by simp) ?_
      simp -implicitDefEqProofs [hq, hr, hwq, hwr, h2, h1, bytC, digB_size]; repeat (refine And.intro (by clear hK; first | omega | (intros; simp_all; done) | (intros; grind)) ?_)
      refine hK _ ?_; clear hK K; refine SW.ret ?_
      simp [Ex.then, Ex.ib])
    rotate_right
    case' _ =>
     intro hb2
     first
     | (exfalso; simp at hb2; done)
     | (exfalso; simp at hb2; omega)
     | (
      refine SW.rg fun K hK => ?_; simp -implicitDefEqProofs; repeat (refine And.intro (by clear hK; first | omega | (intros; simp_all; done) | (intros; grind)) ?_)
      refine hK _ ?_; clear hK K; refine SW.ret ?_
      simp [Ex.then, Ex.ib]))
  rotate_right
  case' _ =>
   intro hb1
   first
   | (exfalso; simp at hb1; done)
   | (exfalso; simp at hb1; omega)
   | (
    refine SW.rg fun K hK => ?_; simp -implicitDefEqProofs; repeat (refine And.intro (by clear hK; first | omega | (intros; simp_all; done) | (intros; grind)) ?_)
    refine hK _ ?_; clear hK K; refine SW.ret ?_
    simp [Ex.then, Ex.ib])
theorem numT_i : ∀ n : Int, Fn Tryd.prog 17 [.int .i64 n] (.str (numB n)) := by
  have key : ∀ N : Nat, ∀ n : Int, n.toNat = N → Fn Tryd.prog 17 [.int .i64 n] (.str (numB n)) := by
    intro N
    induction N using Nat.strongRecOn with
    | _ N ih =>
      intro n hN
      cases hn : isNumB n with
      | false =>
        have h := numT_in n hn
        rwa [← (numB_emp n).2 hn] at h
      | true =>
        have h0 : 0 ≤ n := by simp [isNumB] at hn; omega
        by_cases h9 : n < 10
        · rw [numB_one h0 h9]; exact numT_i1 n hn h9
        · rw [numB_more hn h9]
          exact numT_im n hn h9 (ih (n / 10).toNat (by omega) _ rfl)
  exact fun n => key _ n rfl
set_option maxHeartbeats 1000000 in
theorem numT_sn (n : Int) (hn : isNumB n = false) : Fn Tryd.prog 12 [.int .i64 n] (.str noB) := by
  refine Fn.intro Tryd.func12 (by decide) rfl (rs := [.tmp 2]) rfl Tryd.ntmps12 (by simp) ?_; refine SW.rg fun K hK => ?_; simp -implicitDefEqProofs
  repeat (refine And.intro (by clear hK; first | omega | (intros; simp_all; done) | (intros; grind)) ?_)
  refine hK _ ?_; clear hK K; refine SW.seqK fun K1 hK1 => ?_; refine SW.rg fun K hK => ?_; simp -implicitDefEqProofs; repeat (refine And.intro (by clear hK; first | omega | (intros; simp_all; done) | (intros; grind)) ?_)
  first
    | refine CallQ.fzE ((show Fn Tryd.prog 25 [.int .i64 n] (.bool false) by have h := isNum_s n; rwa [hn] at h)) (by simp) ?_
    | refine CallK.fzE ((show Fn Tryd.prog 25 [.int .i64 n] (.bool false) by have h := isNum_s n; rwa [hn] at h)) (by simp) ?_
  simp -implicitDefEqProofs; repeat (refine And.intro (by clear hK; first | omega | (intros; simp_all; done) | (intros; grind)) ?_)
  refine hK _ ?_; clear hK K; refine SW.cond _ rfl (by simp) ?_ ?_
  case' refine_2 =>
   intro hb1
   first
   | (exfalso; simp at hb1; done)
   | (exfalso; simp at hb1; omega)
   | (
    refine SW.skip ?_; refine hK1 _ ?_; refine SW.seqK fun K2 hK2 => ?_; refine SW.rg fun K hK => ?_; simp -implicitDefEqProofs; repeat (refine And.intro (by clear hK; first | omega | (intros; simp_all; done) | (intros; grind)) ?_)
    refine hK _ ?_; clear hK K; refine SW.cond _ rfl (by simp) ?_ ?_
    case' refine_2 =>
     intro hb2
     first
     | (exfalso; simp at hb2; done)
     | (exfalso; simp at hb2; omega)
     | (
      refine SW.skip ?_; refine hK2 _ ?_; refine SW.drawK mixed [.q [(0, false), (1, false), (2, false), (3, false), (4, false), (5, false), (6, false), (7, true), (8, false), (9, false), (10, false)]] (by kernel_rfl) rfl fun K hK => ?_
      simp -implicitDefEqProofs; repeat (refine And.intro (by clear hK; first | omega | (intros; simp_all; done) | (intros; grind)) ?_)
      fail
      simp -implicitDefEqProofs; repeat (refine And.intro (by clear hK; first | omega | (intros; simp_all; done) | (intros; grind)) ?_)
      refine hK _ ?_; clear hK K; refine SW.ret ?_
      simp [Ex.then, Ex.ib])
    rotate_right
    case' _ =>
     intro hb2
     first
     | (exfalso; simp at hb2; done)
     | (exfalso; simp at hb2; omega)
     | (
      refine SW.rg fun K hK => ?_; simp -implicitDefEqProofs; repeat (refine And.intro (by clear hK; first | omega | (intros; simp_all; done) | (intros; grind)) ?_)
      refine hK _ ?_; clear hK K; refine SW.ret ?_
      simp [Ex.then, Ex.ib]))
  rotate_right
  case' _ =>
   intro hb1
   first
   | (exfalso; simp at hb1; done)
   | (exfalso; simp at hb1; omega)
   | (
    refine SW.rg fun K hK => ?_; simp -implicitDefEqProofs; repeat (refine And.intro (by clear hK; first | omega | (intros; simp_all; done) | (intros; grind)) ?_)
    refine hK _ ?_; clear hK K; refine SW.ret ?_
    simp [Ex.then, Ex.ib])
set_option maxHeartbeats 1000000 in
theorem numT_s1 (n : Int) (hn : isNumB n = true) (h9 : n < 10) : Fn Tryd.prog 12 [.int .i64 n] (.str (digB n)) := by
  refine Fn.intro Tryd.func12 (by decide) rfl (rs := [.tmp 2]) rfl Tryd.ntmps12 (by simp) ?_; have h0 : 0 ≤ n := by simp [isNumB] at hn; omega
  have hle : n ≤ 4294967295 := by simp [isNumB] at hn; omega
  have hw := wrapI (48 + n) (by omega) (by omega)
  have hq : n.tdiv 10 = n / 10 := Int.tdiv_eq_ediv_of_nonneg h0
  have hr : n.tmod 10 = n % 10 := Int.tmod_eq_emod_of_nonneg h0
  have hwq := wrapI (n / 10) (by omega) (by omega)
  have hwr := wrapI (48 + n % 10) (by omega) (by omega)
  have hsz := numB_size (n / 10)
  have h1 := str_dig (n := n) h0 h9
  have h2 := wrapB (n := 48 + n) (by omega) (by omega)
  refine SW.rg fun K hK => ?_; simp -implicitDefEqProofs; repeat (refine And.intro (by clear hK; first | omega | (intros; simp_all; done) | (intros; grind)) ?_)
  refine hK _ ?_; clear hK K; refine SW.seqK fun K1 hK1 => ?_; refine SW.rg fun K hK => ?_; simp -implicitDefEqProofs; repeat (refine And.intro (by clear hK; first | omega | (intros; simp_all; done) | (intros; grind)) ?_)
  first
    | refine CallQ.fzE ((show Fn Tryd.prog 25 [.int .i64 n] (.bool true) by have h := isNum_s n; rwa [hn] at h)) (by simp) ?_
    | refine CallK.fzE ((show Fn Tryd.prog 25 [.int .i64 n] (.bool true) by have h := isNum_s n; rwa [hn] at h)) (by simp) ?_
  simp -implicitDefEqProofs; repeat (refine And.intro (by clear hK; first | omega | (intros; simp_all; done) | (intros; grind)) ?_)
  refine hK _ ?_; clear hK K; refine SW.cond _ rfl (by simp) ?_ ?_
  case' refine_2 =>
   intro hb1
   first
   | (exfalso; simp at hb1; done)
   | (exfalso; simp at hb1; omega)
   | (
    refine SW.skip ?_; refine hK1 _ ?_; refine SW.seqK fun K2 hK2 => ?_; refine SW.rg fun K hK => ?_; simp -implicitDefEqProofs; repeat (refine And.intro (by clear hK; first | omega | (intros; simp_all; done) | (intros; grind)) ?_)
    refine hK _ ?_; clear hK K; refine SW.cond _ rfl (by simp) ?_ ?_
    case' refine_2 =>
     intro hb2
     first
     | (exfalso; simp at hb2; done)
     | (exfalso; simp at hb2; omega)
     | (
      refine SW.skip ?_; refine hK2 _ ?_; refine SW.drawK mixed [.q [(0, false), (1, false), (2, false), (3, false), (4, false), (5, false), (6, false), (7, true), (8, false), (9, false), (10, false)]] (by kernel_rfl) rfl fun K hK => ?_
      simp -implicitDefEqProofs; repeat (refine And.intro (by clear hK; first | omega | (intros; simp_all; done) | (intros; grind)) ?_)
      fail
      simp -implicitDefEqProofs; repeat (refine And.intro (by clear hK; first | omega | (intros; simp_all; done) | (intros; grind)) ?_)
      refine hK _ ?_; clear hK K; refine SW.ret ?_
      simp [Ex.then, Ex.ib])
    rotate_right
    case' _ =>
     intro hb2
     first
     | (exfalso; simp at hb2; done)
     | (exfalso; simp at hb2; omega)
     | (
      refine SW.rg fun K hK => ?_; simp -implicitDefEqProofs [hw, h2, h1, bytC]; repeat (refine And.intro (by clear hK; first | omega | (intros; simp_all; done) | (intros; grind)) ?_)
      refine hK _ ?_; clear hK K; refine SW.ret ?_
      simp [Ex.then, Ex.ib]))
  rotate_right
  case' _ =>
   intro hb1
   first
   | (exfalso; simp at hb1; done)
   | (exfalso; simp at hb1; omega)
   | (
    refine SW.rg fun K hK => ?_; simp -implicitDefEqProofs; repeat (refine And.intro (by clear hK; first | omega | (intros; simp_all; done) | (intros; grind)) ?_)
    refine hK _ ?_; clear hK K; refine SW.ret ?_
    simp [Ex.then, Ex.ib])
set_option maxHeartbeats 1000000 in
theorem numT_sm (n : Int) (hn : isNumB n = true) (h9 : ¬ n < 10) (ih : Fn Tryd.prog 12 [.int .i64 (n / 10)] (.str (numB (n / 10)))) : Fn Tryd.prog 12 [.int .i64 n] (.str (numB (n / 10) ++ digB (n % 10))) := by
  refine Fn.intro Tryd.func12 (by decide) rfl (rs := [.tmp 2]) rfl Tryd.ntmps12 (by simp) ?_; have h0 : 0 ≤ n := by simp [isNumB] at hn; omega
  have hle : n ≤ 4294967295 := by simp [isNumB] at hn; omega
  have hw := wrapI (48 + n) (by omega) (by omega)
  have hq : n.tdiv 10 = n / 10 := Int.tdiv_eq_ediv_of_nonneg h0
  have hr : n.tmod 10 = n % 10 := Int.tmod_eq_emod_of_nonneg h0
  have hwq := wrapI (n / 10) (by omega) (by omega)
  have hwr := wrapI (48 + n % 10) (by omega) (by omega)
  have hsz := numB_size (n / 10)
  have h1 := str_dig (n := n % 10) (by omega) (by omega)
  have h2 := wrapB (n := 48 + n % 10) (by omega) (by omega)
  refine SW.rg fun K hK => ?_; simp -implicitDefEqProofs; repeat (refine And.intro (by clear hK; first | omega | (intros; simp_all; done) | (intros; grind)) ?_)
  refine hK _ ?_; clear hK K; refine SW.seqK fun K1 hK1 => ?_; refine SW.rg fun K hK => ?_; simp -implicitDefEqProofs; repeat (refine And.intro (by clear hK; first | omega | (intros; simp_all; done) | (intros; grind)) ?_)
  first
    | refine CallQ.fzE ((show Fn Tryd.prog 25 [.int .i64 n] (.bool true) by have h := isNum_s n; rwa [hn] at h)) (by simp) ?_
    | refine CallK.fzE ((show Fn Tryd.prog 25 [.int .i64 n] (.bool true) by have h := isNum_s n; rwa [hn] at h)) (by simp) ?_
  simp -implicitDefEqProofs; repeat (refine And.intro (by clear hK; first | omega | (intros; simp_all; done) | (intros; grind)) ?_)
  refine hK _ ?_; clear hK K; refine SW.cond _ rfl (by simp) ?_ ?_
  case' refine_2 =>
   intro hb1
   first
   | (exfalso; simp at hb1; done)
   | (exfalso; simp at hb1; omega)
   | (
    refine SW.skip ?_; refine hK1 _ ?_; refine SW.seqK fun K2 hK2 => ?_; refine SW.rg fun K hK => ?_; simp -implicitDefEqProofs; repeat (refine And.intro (by clear hK; first | omega | (intros; simp_all; done) | (intros; grind)) ?_)
    refine hK _ ?_; clear hK K; refine SW.cond _ rfl (by simp) ?_ ?_
    case' refine_2 =>
     intro hb2
     first
     | (exfalso; simp at hb2; done)
     | (exfalso; simp at hb2; omega)
     | (
      refine SW.skip ?_; refine hK2 _ ?_; refine SW.drawK mixed [.q [(0, false), (1, false), (2, false), (3, false), (4, false), (5, false), (6, false), (7, true), (8, false), (9, false), (10, false)]] (by kernel_rfl) rfl fun K hK => ?_
      simp -implicitDefEqProofs [hq, hr, hwq, hwr, h2, h1, bytC, digB_size]; repeat (refine And.intro (by clear hK; first | omega | (intros; simp_all; done) | (intros; grind)) ?_)
      first
        | refine CallQ.fzE (ih) (by simp) ?_
        | refine CallK.fzE (ih) (by simp) ?_
      simp -implicitDefEqProofs [hq, hr, hwq, hwr, h2, h1, bytC, digB_size]; repeat (refine And.intro (by clear hK; first | omega | (intros; simp_all; done) | (intros; grind)) ?_)
      refine hK _ ?_; clear hK K; refine SW.ret ?_
      simp [Ex.then, Ex.ib])
    rotate_right
    case' _ =>
     intro hb2
     first
     | (exfalso; simp at hb2; done)
     | (exfalso; simp at hb2; omega)
     | (
      refine SW.rg fun K hK => ?_; simp -implicitDefEqProofs; repeat (refine And.intro (by clear hK; first | omega | (intros; simp_all; done) | (intros; grind)) ?_)
      refine hK _ ?_; clear hK K; refine SW.ret ?_
      simp [Ex.then, Ex.ib]))
  rotate_right
  case' _ =>
   intro hb1
   first
   | (exfalso; simp at hb1; done)
   | (exfalso; simp at hb1; omega)
   | (
    refine SW.rg fun K hK => ?_; simp -implicitDefEqProofs; repeat (refine And.intro (by clear hK; first | omega | (intros; simp_all; done) | (intros; grind)) ?_)
    refine hK _ ?_; clear hK K; refine SW.ret ?_
    simp [Ex.then, Ex.ib])
theorem numT_s : ∀ n : Int, Fn Tryd.prog 12 [.int .i64 n] (.str (numB n)) := by
  have key : ∀ N : Nat, ∀ n : Int, n.toNat = N → Fn Tryd.prog 12 [.int .i64 n] (.str (numB n)) := by
    intro N
    induction N using Nat.strongRecOn with
    | _ N ih =>
      intro n hN
      cases hn : isNumB n with
      | false =>
        have h := numT_sn n hn
        rwa [← (numB_emp n).2 hn] at h
      | true =>
        have h0 : 0 ≤ n := by simp [isNumB] at hn; omega
        by_cases h9 : n < 10
        · rw [numB_one h0 h9]; exact numT_s1 n hn h9
        · rw [numB_more hn h9]
          exact numT_sm n hn h9 (ih (n / 10).toNat (by omega) _ rfl)
  exact fun n => key _ n rfl
end HT
