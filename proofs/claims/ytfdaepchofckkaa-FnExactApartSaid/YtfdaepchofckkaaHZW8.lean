import Derived.Test.YtfdaepchofckkaaHZW7
/-
  My own texts (road H): HZW8.
-/
set_option linter.unusedSimpArgs false
set_option linter.unusedVariables false
namespace HT
open Go Go.Proofs HK
set_option maxHeartbeats 1000000 in
theorem aheadN_i (p : Prog) (l : List Deed) (n : Int) (h : p.ok) (hl : l.length ≤ 1048576) (hin : inL l n = false) : Fn Try.prog 24 [.agg p.fr, .fz (DeedS l), .int .i64 n] (.own 1 (IntS (ahead p l n))) := by
  refine Fn.intro Try.func24 (by decide) rfl (rs := [.tmp 6]) rfl Try.ntmps24 (by simp) ?_
  have hin2 : (decide (0 ≤ n) && decide (n < (l.length : Int))) = false := hin
  refine SW.regionK fun K hK => ?_
  simp -implicitDefEqProofs
  repeat (refine And.intro (by clear hK; first | omega | (intros; simp_all; done) | (intros; grind)) ?_)
  refine hK _ ?_
  clear hK K
  refine SW.regionK fun K hK => ?_
  simp -implicitDefEqProofs
  repeat (refine And.intro (by clear hK; first | omega | (intros; simp_all; done) | (intros; grind)) ?_)
  refine hK _ ?_
  clear hK K
  refine SW.seqK fun K1 hK1 => ?_
  refine SW.regionK fun K hK => ?_
  simp -implicitDefEqProofs
  repeat (refine And.intro (by clear hK; first | omega | (intros; simp_all; done) | (intros; grind)) ?_)
  first
    | refine CallQ.fzE (within_ok n 0 l.length) (by simp) ?_
    | refine CallK.fzE (within_ok n 0 l.length) (by simp) ?_
  simp -implicitDefEqProofs
  repeat (refine And.intro (by clear hK; first | omega | (intros; simp_all; done) | (intros; grind)) ?_)
  refine hK _ ?_
  clear hK K
  refine SW.cond _ rfl (by simp) ?_ ?_
  case' refine_2 =>
   intro hb1
   have hno : (0 : Int) = 1 := by
     exfalso
     simp at hb1 hin2
     omega
   first
   | (exfalso; simp at hb1; done)
   | (exfalso; simp at hb1; omega)
   | (
    refine SW.skip ?_
    refine hK1 _ ?_
    refine SW.seqK fun K2 hK2 => ?_
    refine SW.regionK fun K hK => ?_
    simp -implicitDefEqProofs
    repeat (refine And.intro (by clear hK; first | omega | (intros; simp_all; done) | (intros; grind)) ?_)
    fail
    simp -implicitDefEqProofs
    repeat (refine And.intro (by clear hK; first | omega | (intros; simp_all; done) | (intros; grind)) ?_)
    fail
    simp -implicitDefEqProofs
    repeat (refine And.intro (by clear hK; first | omega | (intros; simp_all; done) | (intros; grind)) ?_)
    refine hK _ ?_
    clear hK K
    refine SW.block ?_
    refine SW.loop (α := Nat) (fun k => ⟨[], []⟩) (fun k => True) (fun k => 0) (0) ?_ ?_ (fun k hx => ?_)
    case' refine_1 =>
     simp
    case' refine_2 =>
     fail
    case' refine_3 =>
     skip
     refine SW.regionK fun K hK => ?_
     simp -implicitDefEqProofs
     repeat (refine And.intro (by clear hK; first | omega | (intros; simp_all; done) | (intros; grind)) ?_)
     refine hK _ ?_
     clear hK K
     refine SW.seqK fun K3 hK3 => ?_
     refine SW.cond _ rfl (by simp) ?_ ?_
     case' refine_2 =>
      intro hb2
      first
      | (exfalso; simp at hb2; done)
      | (exfalso; simp at hb2; omega)
      | (
       refine SW.exit ?_
       simp only [Ex.then, Ex.inBlock]
       try simp only [if_true, if_false, reduceIte]
       refine hK2 _ ?_
       refine SW.regionK fun K hK => ?_
       simp -implicitDefEqProofs
       repeat (refine And.intro (by clear hK; first | omega | (intros; simp_all; done) | (intros; grind)) ?_)
       refine hK _ ?_
       clear hK K
       refine SW.ret ?_
       simp [Ex.then, Ex.inBlock, -strN]
       all_goals (rw [ahead_out hin]; rfl))
     rotate_right
     case' _ =>
      intro hb2
      first
      | (exfalso; simp at hb2; done)
      | (exfalso; simp at hb2; omega)
      | (
       refine SW.skip ?_
       refine hK3 _ ?_
       refine SW.seqK fun K4 hK4 => ?_
       refine SW.block ?_
       refine SW.regionK fun K hK => ?_
       simp -implicitDefEqProofs
       repeat (refine And.intro (by clear hK; first | omega | (intros; simp_all; done) | (intros; grind)) ?_)
       refine hK _ ?_
       clear hK K
       refine SW.regionK fun K hK => ?_
       simp -implicitDefEqProofs
       repeat (refine And.intro (by clear hK; first | omega | (intros; simp_all; done) | (intros; grind)) ?_)
       refine hK _ ?_
       clear hK K
       refine SW.cond _ rfl (by simp) ?_ ?_
       case' refine_2 =>
        intro hb3
        first
        | (exfalso; simp at hb3; done)
        | (exfalso; simp at hb3; omega)
        | (
         refine SW.skip ?_)
       rotate_right
       case' _ =>
        intro hb3
        first
        | (exfalso; simp at hb3; done)
        | (exfalso; simp at hb3; omega)
        | (
         refine SW.regionE fun K hK => ?_
         simp -implicitDefEqProofs
         repeat (refine And.intro (by clear hK; first | omega | (intros; simp_all; done) | (intros; grind)) ?_)
         refine hK _ ?_
         clear hK K)
       all_goals (
        refine hK4 _ ?_
        refine SW.regionE fun K hK => ?_
        simp -implicitDefEqProofs
        repeat (refine And.intro (by clear hK; first | omega | (intros; simp_all; done) | (intros; grind)) ?_)
        refine hK _ ?_
        clear hK K
        fail)))
  rotate_right
  case' _ =>
   intro hb1
   first
   | (exfalso; simp at hb1; done)
   | (exfalso; simp at hb1; omega)
   | (
    refine SW.regionK fun K hK => ?_
    simp -implicitDefEqProofs
    repeat (refine And.intro (by clear hK; first | omega | (intros; simp_all; done) | (intros; grind)) ?_)
    refine hK _ ?_
    clear hK K
    refine SW.ret ?_
    simp [Ex.then, Ex.inBlock, -strN]
    all_goals (rw [ahead_out hin]; rfl))
theorem AH.all {p : Prog} {l : List Deed} {i : Nat} : ∀ (c : Nat) (f : Nat → Bool), c ≤ i + 1 → AH p l i c f → AH p l i 0 (aheadF p l i)
  | 0, f, _, h => by rw [← h.fin]; exact h
  | c + 1, f, hc, h => AH.all c _ (by omega) (h.step (by omega))
theorem ahead_fin (p : Prog) (l : List Deed) (i : Nat) : AH p l i 0 (aheadF p l i) := AH.all (i + 1) _ (Nat.le_refl _) (AH.init p l i)
set_option maxHeartbeats 1000000 in
theorem aheadY_i (p : Prog) (l : List Deed) (n : Int) (h : p.ok) (hl : l.length ≤ 1048576) (hin : inL l n = true) : Fn Try.prog 24 [.agg p.fr, .fz (DeedS l), .int .i64 n] (.own 1 (IntS (ahead p l n))) := by
  refine Fn.intro Try.func24 (by decide) rfl (rs := [.tmp 6]) rfl Try.ntmps24 (by simp) ?_
  have hin2 := hin
  simp [inL] at hin
  obtain ⟨hA, hB⟩ := hin
  have hlt9 : n.toNat < l.length := by omega
  obtain ⟨i, hi⟩ : ∃ i, n.toNat = i := ⟨_, rfl⟩
  have hni : n = (i : Int) := by omega
  rw [hi] at hlt9
  have hr : ahead p l n = natI (List.filter (aheadF p l i) (List.range i)) := by simp [ahead, aheadN, inL, hA, hB, hi]
  subst hni
  have hrall := ahead_all (ahead_fin p l i) hlt9
  refine SW.regionK fun K hK => ?_
  simp -implicitDefEqProofs
  repeat (refine And.intro (by clear hK; first | omega | (intros; simp_all; done) | (intros; grind)) ?_)
  refine hK _ ?_
  clear hK K
  refine SW.regionK fun K hK => ?_
  simp -implicitDefEqProofs
  repeat (refine And.intro (by clear hK; first | omega | (intros; simp_all; done) | (intros; grind)) ?_)
  refine hK _ ?_
  clear hK K
  refine SW.seqK fun K1 hK1 => ?_
  refine SW.regionK fun K hK => ?_
  simp -implicitDefEqProofs [hA, hB]
  repeat (refine And.intro (by clear hK; first | omega | (intros; simp_all; done) | (intros; grind)) ?_)
  first
    | refine CallQ.fzE (within_ok i 0 l.length) (by simp) ?_
    | refine CallK.fzE (within_ok i 0 l.length) (by simp) ?_
  simp -implicitDefEqProofs [hA, hB]
  repeat (refine And.intro (by clear hK; first | omega | (intros; simp_all; done) | (intros; grind)) ?_)
  refine hK _ ?_
  clear hK K
  refine SW.cond _ rfl (by simp) ?_ ?_
  case' refine_2 =>
   intro hb1
   first
   | (exfalso; simp at hb1; done)
   | (exfalso; simp at hb1; omega)
   | (
    refine SW.skip ?_
    refine hK1 _ ?_
    refine SW.seqK fun K2 hK2 => ?_
    refine SW.regionK fun K hK => ?_
    simp -implicitDefEqProofs
    repeat (refine And.intro (by clear hK; first | omega | (intros; simp_all; done) | (intros; grind)) ?_)
    first
      | refine CallQ.fzE (touches_i p l h (by omega)) (by simp) ?_
      | refine CallK.fzE (touches_i p l h (by omega)) (by simp) ?_
    simp -implicitDefEqProofs
    repeat (refine And.intro (by clear hK; first | omega | (intros; simp_all; done) | (intros; grind)) ?_)
    first
      | refine CallQ.fzE (aheadOf_i p l i hl hlt9) (by simp) ?_
      | refine CallK.fzE (aheadOf_i p l i hl hlt9) (by simp) ?_
    simp -implicitDefEqProofs
    repeat (refine And.intro (by clear hK; first | omega | (intros; simp_all; done) | (intros; grind)) ?_)
    refine hK _ ?_
    clear hK K
    refine SW.block ?_
    refine SW.loop (α := Nat) (fun j => ⟨[(23, .int .i64 j), (22, .int .i64 l.length), (21, .fz (FlS (fl l.length fun x => aheadF p l i x && !(x == i)))), (7, .sl 0 0 (natI (List.filter (fun x => aheadF p l i x && !(x == i)) (List.range j))).length)], [some ⟨1, IntS (natI (List.filter (fun x => aheadF p l i x && !(x == i)) (List.range j)))⟩]⟩) (fun j => j ≤ l.length) (fun j => l.length - j) (0) ?_ ?_ (fun j hx => ?_)
    case' refine_1 =>
     simp
    case' refine_2 =>
     exact Wk.ren [1] (by simp) (by simp) (by simp) (by simp) (by simp [renE, renN, natI]) (by simp [renH, natI]) (by simp [lowE, lowN]) (by simp)
    case' refine_3 =>
     skip
     refine SW.regionK fun K hK => ?_
     simp -implicitDefEqProofs
     repeat (refine And.intro (by clear hK; first | omega | (intros; simp_all; done) | (intros; grind)) ?_)
     refine hK _ ?_
     clear hK K
     refine SW.seqK fun K3 hK3 => ?_
     refine SW.cond _ rfl (by simp) ?_ ?_
     case' refine_2 =>
      intro hb2
      first
      | (exfalso; simp at hb2; done)
      | (exfalso; simp at hb2; omega)
      | (
       have hj1 : j = l.length := by first | omega | (simp at hb2; omega)
       subst hj1
       refine SW.exit ?_
       simp only [Ex.then, Ex.inBlock]
       try simp only [if_true, if_false, reduceIte]
       refine hK2 _ ?_
       refine SW.regionK fun K hK => ?_
       simp -implicitDefEqProofs
       repeat (refine And.intro (by clear hK; first | omega | (intros; simp_all; done) | (intros; grind)) ?_)
       refine hK _ ?_
       clear hK K
       refine SW.ret ?_
       simp [Ex.then, Ex.inBlock, -strN]
       all_goals (try rw [hrall])
       all_goals first
         | (rw [hr]; exact ⟨IntS_strM _, rfl⟩)
         | (rw [hr]; rfl)
         | fail)
     rotate_right
     case' _ =>
      intro hb2
      first
      | (exfalso; simp at hb2; done)
      | (exfalso; simp at hb2; omega)
      | (
       have hjl : j < l.length := by first | omega | (simp at hb2; omega)
       have hfj := fl_get (fun x => aheadF p l i x && !(x == i)) hjl
       have hst := filter_step (f := fun x => aheadF p l i x && !(x == i)) j
       have hfl2 : (natI (List.filter (fun x => aheadF p l i x && !(x == i)) (List.range j))).length ≤ j := by rw [natI_len]; exact filter_len _ _
       refine SW.skip ?_
       refine hK3 _ ?_
       refine SW.seqK fun K4 hK4 => ?_
       refine SW.block ?_
       refine SW.regionK fun K hK => ?_
       simp -implicitDefEqProofs [hfj, hjl]
       repeat (refine And.intro (by clear hK; first | omega | (intros; simp_all; done) | (intros; grind)) ?_)
       refine hK _ ?_
       clear hK K
       refine SW.regionK fun K hK => ?_
       simp -implicitDefEqProofs
       repeat (refine And.intro (by clear hK; first | omega | (intros; simp_all; done) | (intros; grind)) ?_)
       refine hK _ ?_
       clear hK K
       refine SW.cond _ rfl (by simp) ?_ ?_
       case' refine_2 =>
        intro hb3
        first
        | (exfalso; simp at hb3; done)
        | (exfalso; simp at hb3; omega)
        | (
         have hm : (aheadF p l i j && !(j == i)) = false := by
           cases e1 : aheadF p l i j <;> cases e2 : (j == i) <;> simp_all
         rw [hm] at hst
         simp only [Bool.false_eq_true, if_false, List.append_nil] at hst
         refine SW.skip ?_)
       rotate_right
       case' _ =>
        intro hb3
        first
        | (exfalso; simp at hb3; done)
        | (exfalso; simp at hb3; omega)
        | (
         have hm : (aheadF p l i j && !(j == i)) = true := by simpa using hb3
         rw [hm] at hst
         simp only [if_true] at hst
         refine SW.regionE fun K hK => ?_
         simp -implicitDefEqProofs
         repeat (refine And.intro (by clear hK; first | omega | (intros; simp_all; done) | (intros; grind)) ?_)
         refine hK _ ?_
         clear hK K)
       all_goals (
        refine hK4 _ ?_
        refine SW.regionE fun K hK => ?_
        simp -implicitDefEqProofs
        repeat (refine And.intro (by clear hK; first | omega | (intros; simp_all; done) | (intros; grind)) ?_)
        refine hK _ ?_
        clear hK K
        refine ⟨j + 1, by omega, by omega, ?_⟩
        first
          | (have q : (aheadF p l i j && !(j == i)) = true := hm; exact Wk.ren [2] (by simp) (by simp) (by simp) (by simp) (by simp [renE, renN, wrap1 j (by omega), hst, natI_snoc]) (by simp [renH, hst, natI_snoc, IntS_snoc]) (by simp [lowE, lowN]) (by simp))
          | exact Wk.cut (by simp) (by simp [subE, wrap1 j (by omega), hst]) (by simp [cutH, hst]) (by simp [lowE, lowN]) (by simp)
          | fail)))
  rotate_right
  case' _ =>
   intro hb1
   first
   | (exfalso; simp at hb1; done)
   | (exfalso; simp at hb1; omega)
   | (
    refine SW.regionK fun K hK => ?_
    simp -implicitDefEqProofs
    repeat (refine And.intro (by clear hK; first | omega | (intros; simp_all; done) | (intros; grind)) ?_)
    refine hK _ ?_
    clear hK K
    refine SW.ret ?_
    simp [Ex.then, Ex.inBlock, -strN]
    all_goals (try rw [hrall])
    all_goals first
      | (rw [hr]; exact ⟨IntS_strM _, rfl⟩)
      | (rw [hr]; rfl)
      | fail)
theorem ahead_i (p : Prog) (l : List Deed) (n : Int) (h : p.ok) (hl : l.length ≤ 1048576) : Fn Try.prog 24 [.agg p.fr, .fz (DeedS l), .int .i64 n] (.own 1 (IntS (ahead p l n))) := by
  cases hin : inL l n with
  | true => exact aheadY_i p l n h hl hin
  | false => exact aheadN_i p l n h hl hin
theorem ahead_s (p : Prog) (l : List Deed) (n : Int) (h : p.ok) (hl : l.length ≤ 1048576) : Fn Try.prog 17 [.agg p.fr, .fz (DeedS l), .int .i64 n] (.own 1 (IntS (ahead p l n))) := by
  cases hin : inL l n with
  | true => exact aheadY_s p l n h hl hin
  | false => exact aheadN_s p l n h hl hin
end HT
