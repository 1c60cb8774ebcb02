import Derived.Test.YteeefpifkepbpaaEHSU
import Derived.Test.YteeefpifkepbpaaEHSUS
/-
  My own texts (road H): HSV.
-/
set_option linter.unusedSimpArgs false
namespace HS
open Go Go.Proofs HK
def scan (b : List Int) (at_ : Nat) (out : List (List Int)) : List (List Int) × Nat × Nat :=
  if _h : at_ < b.length then
    if frC (b.drop at_) = 0 ∧ seqF (b.drop at_) = out.length then scan b (at_ + 15 + cntF (b.drop at_)) (out ++ [datF (b.drop at_)])
    else (out, at_, if frC (b.drop at_) = 2 ∨ frC (b.drop at_) = 4 then 1 else 2)
  else (out, at_, 0)
termination_by b.length - at_
decreasing_by omega
theorem scan_go {b : List Int} {a : Nat} {out : List (List Int)} (h0 : frC (b.drop a) = 0) (hs : seqF (b.drop a) = out.length) (ha : a < b.length) : scan b a out = scan b (a + 15 + cntF (b.drop a)) (out ++ [datF (b.drop a)]) := by
  rw [scan, dif_pos ha, if_pos ⟨h0, hs⟩]
theorem scan_stop {b : List Int} {a : Nat} {out : List (List Int)} (h : ¬ (frC (b.drop a) = 0 ∧ seqF (b.drop a) = out.length)) (ha : a < b.length) : scan b a out = (out, a, if frC (b.drop a) = 2 ∨ frC (b.drop a) = 4 then 1 else 2) := by
  rw [scan, dif_pos ha, if_neg h]
theorem scan_end {b : List Int} {a : Nat} {out : List (List Int)} (ha : ¬ a < b.length) : scan b a out = (out, a, 0) := by
  rw [scan, dif_neg ha]
theorem frC_ge {f : List Int} (h : frC f = 0) : 15 + cntF f ≤ f.length := by
  unfold frC at h; split at h
  · cases h
  · split at h
    · cases h
    · split at h
      · cases h
      · omega
def CF (l : List (List Int)) : List (List AV) := l.map fun d => [AV.fz (YS d)]
@[simp] theorem CF_length (l : List (List Int)) : (CF l).length = l.length := by simp [CF]
@[simp] theorem CF_get (l : List (List Int)) (k : Nat) : (CF l)[k]? = (l[k]?).map fun d => [AV.fz (YS d)] := by simp [CF]
@[simp] theorem CF_nil : CF [] = [] := rfl
theorem CF_snoc (l : List (List Int)) (d : List Int) : CF (l ++ [d]) = CF l ++ [[AV.fz (YS d)]] := by simp [CF]
@[simp] theorem CF_take (l : List (List Int)) : List.take l.length (CF l) = CF l := List.take_of_length_le (by simp)
@[simp] theorem CF_low (n : Nat) (l : List (List Int)) : lowEs n (CF l) = true := by simp [lowEs, CF]
@[simp] theorem CF_ren (l : List (List Int)) (ids : List Nat) (d : Nat) : (CF l).map (List.map (renN ids (d + 1))) = CF l := by simp [CF, Function.comp_def]
abbrev logZ : Blk := ⟨2, [[.int .i64 0, .nil]]⟩
set_option maxHeartbeats 4000000 in
theorem scan_i (b : List Int) (hl : b.length ≤ 2 ^ 30) (hb : ∀ x ∈ b, isB x) (r : List (List Int) × Nat × Nat) (hr : scan b 0 [] = r) : CallS Try.prog 81 [.fz (YS b)] ([some logZ]) (fun o h' => o = .tup [.sl 1 0 r.1.length, .int .i64 (r.2.1 : Nat), .int .i64 (r.2.2 : Nat)] ∧ h' = [some logZ, some ⟨1, CF r.1⟩]) := by
  refine CallS.intro Try.func81 (by decide) rfl (rs := [.tmp 2, .tmp 3, .tmp 4]) rfl Try.ntmps81 (by simp) ?_; refine SW.rg fun K hK => ?_; simp -implicitDefEqProofs
  repeat (refine And.intro (by clear hK; first | omega | (intros; simp_all; done) | (intros; grind)) ?_)
  refine hK _ ?_; clear hK K; refine SW.rg fun K hK => ?_; simp -implicitDefEqProofs; repeat (refine And.intro (by clear hK; first | omega | (intros; simp_all; done) | (intros; grind)) ?_)
  refine hK _ ?_; clear hK K; refine SW.rg fun K hK => ?_; simp -implicitDefEqProofs; repeat (refine And.intro (by clear hK; first | omega | (intros; simp_all; done) | (intros; grind)) ?_)
  refine hK _ ?_; clear hK K; refine SW.block ?_
  refine SW.loop (α := Nat × List (List Int)) (fun x => ⟨[(6, .int .i64 (x.1 : Nat)), (5, .sl 1 0 x.2.length), (0, .fz (YS b))], [some logZ, some ⟨1, CF x.2⟩]⟩) (fun x => x.1 ≤ b.length ∧ 15 * x.2.length ≤ x.1 ∧ scan b 0 [] = scan b x.1 x.2) (fun x => b.length - x.1) ((0, [])) ?_ ?_ (fun x hx => ?_)
  case' refine_1 =>
   exact ⟨by simp, by simp, rfl⟩
  case' refine_2 =>
   exact Wk.cut (by simp) (by simp [subE]) (by simp [cutH]) (by simp [lowE, lowN]) (by simp [lowB, lowN])
  case' refine_3 =>
   skip
   refine SW.block ?_; rcases Classical.em (frC (b.drop x.1) = 0) with h0 | h0n
   all_goals (
    refine SW.rg fun K hK => ?_; simp -implicitDefEqProofs; repeat (refine And.intro (by clear hK; first | omega | (intros; simp_all; done) | (intros; grind)) ?_)
    first
      | (have _ := h0; refine CallK.fzE (show Fn Try.prog 95 _ _ by have h9 := frame_i b x.1 hx.1 hl hb; rw [frA_yes h0] at h9; exact h9) (by simp) ?_)
      | (refine CallK.fzE (show Fn Try.prog 95 _ _ by have h9 := frame_i b x.1 hx.1 hl hb; rw [frA_no rfl h0n] at h9; exact h9) (by simp) ?_)
    simp -implicitDefEqProofs; repeat (refine And.intro (by clear hK; first | omega | (intros; simp_all; done) | (intros; grind)) ?_)
    refine hK _ ?_; clear hK K; refine SW.seqK fun K1 hK1 => ?_; refine SW.rg fun K hK => ?_; simp -implicitDefEqProofs; repeat (refine And.intro (by clear hK; first | omega | (intros; simp_all; done) | (intros; grind)) ?_)
    refine hK _ ?_; clear hK K; refine SW.cond _ rfl (by simp) ?_ ?_
    case' refine_2 =>
     intro hb1
     first
     | (exfalso; simp at hb1; done)
     | (exfalso; simp at hb1; omega)
     | (
      have hst : ¬ (frC (b.drop x.1) = 0 ∧ seqF (b.drop x.1) = x.2.length) := by
        intro ⟨e1, e2⟩
        first
        | exact h0n e1
        | (simp [e2] at hb1)
      refine SW.skip ?_; refine hK1 _ ?_; refine SW.seqK fun K2 hK2 => ?_; refine SW.block ?_; refine SW.rg fun K hK => ?_; simp -implicitDefEqProofs
      repeat (refine And.intro (by clear hK; first | omega | (intros; simp_all; done) | (intros; grind)) ?_)
      refine hK _ ?_; clear hK K; refine SW.cond _ rfl (by simp) ?_ ?_
      case' refine_2 =>
       intro hb2
       first
       | (exfalso; simp at hb2; done)
       | (exfalso; simp at hb2; omega)
       | (
        have hat : x.1 < b.length := by have := hx.1; simp at hb2; omega
        refine SW.rg fun K hK => ?_; simp -implicitDefEqProofs; repeat (refine And.intro (by clear hK; first | omega | (intros; simp_all; done) | (intros; grind)) ?_)
        refine hK _ ?_; clear hK K; refine SW.cond _ rfl (by simp) ?_ ?_
        case' refine_2 =>
         intro hb3
         first
         | (exfalso; simp at hb3; done)
         | (exfalso; simp at hb3; omega)
         | (
          have hres : r = (x.2, x.1, 2) := by rw [← hr, hx.2.2, scan_stop hst hat, if_neg (by simp at hb3; omega)]
          refine SW.skip ?_; refine hK2 _ ?_; refine SW.rg fun K hK => ?_; simp -implicitDefEqProofs; repeat (refine And.intro (by clear hK; first | omega | (intros; simp_all; done) | (intros; grind)) ?_)
          refine hK _ ?_; clear hK K; refine SW.ret ?_; simp [Ex.then, Ex.ib]
          all_goals first
            | (simp [hres]; done)
            | (rw [hres]; simp; done)
            | fail)
        rotate_right
        case' _ =>
         intro hb3
         first
         | (exfalso; simp at hb3; done)
         | (exfalso; simp at hb3; omega)
         | (
          have hres : r = (x.2, x.1, 1) := by rw [← hr, hx.2.2, scan_stop hst hat, if_pos (by simp at hb3; omega)]
          refine SW.rg fun K hK => ?_; simp -implicitDefEqProofs; repeat (refine And.intro (by clear hK; first | omega | (intros; simp_all; done) | (intros; grind)) ?_)
          refine hK _ ?_; clear hK K; refine SW.ret ?_; simp [Ex.then, Ex.ib]
          all_goals first
            | (simp [hres]; done)
            | (rw [hres]; simp; done)
            | fail))
      rotate_right
      case' _ =>
       intro hb2
       first
       | (exfalso; simp at hb2; done)
       | (exfalso; simp at hb2; omega)
       | (
        have hres : r = (x.2, x.1, 0) := by rw [← hr, hx.2.2]; exact scan_end (by simp at hb2; omega)
        refine SW.rg fun K hK => ?_; simp -implicitDefEqProofs; repeat (refine And.intro (by clear hK; first | omega | (intros; simp_all; done) | (intros; grind)) ?_)
        refine hK _ ?_; clear hK K; refine SW.ret ?_; simp [Ex.then, Ex.ib]
        all_goals first
          | (simp [hres]; done)
          | (rw [hres]; simp; done)
          | fail))
    rotate_right
    case' _ =>
     intro hb1
     first
     | (exfalso; simp at hb1; done)
     | (exfalso; simp at hb1; omega)
     | (
      have hge := frC_ge h0
      have hdl : (b.drop x.1).length = b.length - x.1 := List.length_drop
      have hsq : seqF (b.drop x.1) = x.2.length := by simp at hb1; omega
      refine SW.rg fun K hK => ?_; simp -implicitDefEqProofs; repeat (refine And.intro (by clear hK; first | omega | (intros; simp_all; done) | (intros; grind)) ?_)
      refine hK _ ?_; clear hK K; refine SW.rg fun K hK => ?_; simp -implicitDefEqProofs; repeat (refine And.intro (by clear hK; first | omega | (intros; simp_all; done) | (intros; grind)) ?_)
      refine hK _ ?_; clear hK K; refine SW.exit ?_; simp only [Ex.then, Ex.ib]; try simp only [if_true, if_false, reduceIte]
      try simp only [Ex.then, Ex.ib]
      refine ⟨(x.1 + 15 + cntF (b.drop x.1), x.2 ++ [datF (b.drop x.1)]), ⟨by simp only []; omega, by simp only [List.length_append, List.length_singleton]; omega, by rw [hx.2.2]; exact scan_go h0 hsq (by omega)⟩, by simp only []; omega, ?_⟩
      exact Wk.ren [0, 3] (by simp) (by simp) (by simp) (by simp) (by simp [renE]) (by simp [renH, CF_snoc]) (by simp [lowE, lowN]) (by simp [lowB, lowN, CF])))
end HS
