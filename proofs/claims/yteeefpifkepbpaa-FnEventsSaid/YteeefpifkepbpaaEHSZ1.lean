import Derived.Test.YteeefpifkepbpaaEHSU
import Derived.Test.YteeefpifkepbpaaEHSV
import Derived.Test.YteeefpifkepbpaaEHS5
import Derived.Test.YteeefpifkepbpaaEHK36
/-
  My own texts (road H): HSZ1.
-/
set_option linter.unusedSimpArgs false
set_option linter.unusedVariables false
namespace HS
open Go Go.Proofs HK
def shf (n i : Nat) : Nat := n / 256 ^ i
def byt (n i : Nat) : Int := ((n / 256 ^ i % 256 : Nat) : Int)
def putB (n k : Nat) : List Int := (List.range k).map fun j => byt n (k - 1 - j)
@[simp] theorem putB_len (n k : Nat) : (putB n k).length = k := by simp [putB]
theorem putB_isB (n k : Nat) : ∀ x ∈ putB n k, isB x := fun x hx => by
  obtain ⟨j, _, rfl⟩ := List.mem_map.1 hx; unfold byt; exact ⟨by omega, by omega⟩
theorem putB_step {n k i : Nat} (h : i < k) : (putB n k).take (k - i) = (putB n k).take (k - (i + 1)) ++ [byt n i] := by
  have e : k - i = (k - (i + 1)) + 1 := by omega
  rw [e, List.take_add_one]
  congr 1
  have hlt : k - (i + 1) < (putB n k).length := by simp; omega
  rw [List.getElem?_eq_getElem hlt]; simp only [putB, List.getElem_map, List.getElem_range, Option.toList_some]; rw [show k - 1 - (k - (i + 1)) = i by omega]
theorem put_cells (l : List Int) {n k i : Nat} (h : i < k) : List.take (l.length + (k - (i + 1))) (YS (l ++ (putB n k).take (k - (i + 1)))) ++ [[.int .u8 (byt n i)]] = YS (l ++ (putB n k).take (k - i)) := by
  rw [putB_step h, List.take_of_length_le (by simp)]; simp [YS_app, YS]
theorem u8w (m : Nat) : IntKind.u8.wrap (m : Int) = ((m % 256 : Nat) : Int) := by
  unfold IntKind.wrap; rw [if_neg (by simp [IntKind.signed])]
  show (m : Int) % 256 = _
  omega
theorem sh_u8 (n i : Nat) (hi : i ≤ 4) : IntKind.u8.wrap ((n : Int).fdiv (2 ^ min (8 * (i : Int)).toNat IntKind.i64.bits)) = byt n i := by
  have e : min (8 * (i : Int)).toNat IntKind.i64.bits = 8 * i := by
    show min (8 * (i : Int)).toNat 64 = 8 * i
    rw [Nat.min_def]; split <;> omega
  have e2 : (2 : Int) ^ (8 * i) = ((256 ^ i : Nat) : Int) := by
    rw [show (256 : Nat) = 2 ^ 8 from rfl, ← Nat.pow_mul]; push_cast; rfl
  rw [e, e2, Int.fdiv_eq_ediv_of_nonneg _ (Int.natCast_nonneg _), ← Int.natCast_ediv, u8w]; rfl
theorem YS_nfz (n : Nat) (l : List Int) : nfzB n (some ⟨1, YS l⟩) = true := by
  simp only [nfzB, List.all_eq_true]; intro x hx y hy; obtain ⟨m, rfl⟩ := YS_int hx hy; rfl
set_option maxHeartbeats 1000000 in
theorem put0_i (l : List Int) (n k : Nat) (hl : l.length ≤ 2 ^ 40) (hn : n < 2 ^ 32) (hk : k ≤ 4) : CallS Try.prog 101 [.sl 0 0 l.length, .int .i64 (n : Nat), .int .i64 (k : Nat)] ([some ⟨1, YS l⟩]) (fun o h' => o = .sl 1 0 (l.length + k) ∧ h' = [none, some ⟨1, YS (l ++ putB n k)⟩]) := by
  refine CallS.intro Try.func101 (by decide) rfl (rs := [.tmp 6]) rfl Try.ntmps101 (by simp) ?_; have hwk := wrapI ((k : Int) - 1) (by omega) (by omega)
  refine SW.rg fun K hK => ?_; simp -implicitDefEqProofs; repeat (refine And.intro (by clear hK; first | omega | (intros; omega) | (intros; simp_all; done) | (intros; grind)) ?_)
  refine hK _ ?_; clear hK K; refine SW.seqK fun K1 hK1 => ?_; refine SW.rg fun K hK => ?_; simp -implicitDefEqProofs; repeat (refine And.intro (by clear hK; first | omega | (intros; omega) | (intros; simp_all; done) | (intros; grind)) ?_)
  refine hK _ ?_; clear hK K; refine SW.block ?_
  refine SW.loop (α := Nat) (fun r => ⟨[(7, .int .i64 ((r : Int) - 1)), (0, .sl 1 0 (l.length + (k - r))), (1, .int .i64 (n : Nat)), (2, .int .i64 (k : Nat))], [none, some ⟨1, YS (l ++ (putB n k).take (k - r))⟩]⟩) (fun r => r ≤ k) (fun r => r) (k) ?_ ?_ (fun r hx => ?_)
  case' refine_1 =>
   exact Nat.le_refl _
  case' refine_2 =>
   exact Wk.renX [0, 0] (by simp) (by intro j hj; simp at hj; subst hj; rfl) (by simp) (by simp) (by simp [renE, renN, hwk]) (by simp [renH]) (by simp [lowE, lowN]) (by simp)
  case' refine_3 =>
   skip
   refine SW.seqK fun K2 hK2 => ?_; refine SW.rg fun K hK => ?_; simp -implicitDefEqProofs; repeat (refine And.intro (by clear hK; first | omega | (intros; omega) | (intros; simp_all; done) | (intros; grind)) ?_)
   refine hK _ ?_; clear hK K; refine SW.cond _ rfl (by simp) ?_ ?_
   case' refine_2 =>
    intro hb1
    first
    | (exfalso; simp at hb1; done)
    | (exfalso; simp at hb1; omega)
    | (
     have hr0 : r = 0 := by simp at hb1; omega
     subst hr0; refine SW.exit ?_; simp only [Ex.then, Ex.ib]; try simp only [if_true, if_false, reduceIte]
     refine hK1 _ ?_; refine SW.rg fun K hK => ?_; simp -implicitDefEqProofs; repeat (refine And.intro (by clear hK; first | omega | (intros; omega) | (intros; simp_all; done) | (intros; grind)) ?_)
     refine hK _ ?_; clear hK K; refine SW.ret ?_; simp [Ex.then, Ex.ib]
     all_goals first
       | (rw [List.take_of_length_le (by simp)]; done)
       | fail)
   rotate_right
   case' _ =>
    intro hb1
    first
    | (exfalso; simp at hb1; done)
    | (exfalso; simp at hb1; omega)
    | (
     obtain ⟨i, rfl⟩ : ∃ i, r = i + 1 := ⟨r - 1, by simp at hb1; omega⟩
     have hi4 : i ≤ 4 := by omega
     have hwi := wrapI ((i : Int) - 1) (by omega) (by omega)
     have hw8 := wrapI (8 * (i : Int)) (by omega) (by omega)
     have hki : l.length + (k - (i + 1)) + 1 = l.length + (k - i) := by omega
     have hki2 : k - (i + 1) + 1 = k - i := by omega
     refine SW.skip ?_; refine hK2 _ ?_; refine SW.seqK fun K3 hK3 => ?_; refine SW.block ?_; refine SW.regionE fun K hK => ?_; simp -implicitDefEqProofs [hw8, sh_u8 n i hi4]
     repeat (refine And.intro (by clear hK; first | omega | (intros; omega) | (intros; simp_all; done) | (intros; grind)) ?_)
     refine hK _ ?_; clear hK K; refine hK3 _ ?_; refine SW.regionE fun K hK => ?_; simp -implicitDefEqProofs; repeat (refine And.intro (by clear hK; first | omega | (intros; omega) | (intros; simp_all; done) | (intros; grind)) ?_)
     refine hK _ ?_; clear hK K; refine ⟨i, by omega, by omega, ?_⟩
     exact Wk.renX [0, 3] (by simp) (by intro j hj; simp at hj; subst hj; rfl) (by simp) (by simp) (by simp [renE, renN, hwi, hki, hki2]) (by simp [renH, put_cells l (show i < k by omega)]) (by simp [lowE, lowN]) (by simp))
theorem put_i (l : List Int) (n k m : Nat) (H : Heap) (id : Nat) (hm : l.length = m) (hh : H[id]? = some (some ⟨1, YS l⟩)) (hl : m ≤ 2 ^ 40) (hn : n < 2 ^ 32) (hk : k ≤ 4) :
    CallS Try.prog 101 [.sl id 0 m, .int .i64 (n : Nat), .int .i64 (k : Nat)] H (fun o h' => o = .sl H.length 0 (m + k) ∧ h' = H.set id none ++ [some ⟨1, YS (l ++ putB n k)⟩]) := by
  subst hm; have hi : id < H.length := (List.getElem?_eq_some_iff.1 hh).1
  refine CallS.mono (CallS.frame [id] (put0_i l n k hl hn hk) (by simp) (by simp [lowN]) (by simp) (by simpa using hi) (by simp [renH, hh]) (by simp) (by simp) ?_) ?_
  · rintro o h' ⟨rfl, rfl⟩
    refine ⟨by simp, ?_, by simp [lowN], rfl⟩; intro x hx; simp only [List.mem_cons, List.not_mem_nil, or_false] at hx; rcases hx with rfl | rfl
    · rfl
    · exact YS_nfz _ _
  · rintro o h' ⟨o0, h0, ⟨rfl, rfl⟩, rfl, rfl⟩
    exact ⟨by simp [fids, renN], by simp [frameH, merge, renB, fids]⟩
end HS
