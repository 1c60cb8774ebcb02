import Derived.Test.YtfdaepchofckkaaHZW2
/-
  My own texts (road H): HZW4.
-/
set_option linter.unusedSimpArgs false
set_option linter.unusedVariables false
namespace HT
open Go Go.Proofs HK
theorem natI_snoc (l : List Nat) (k : Nat) : natI (l ++ [k]) = natI l ++ [(k : Int)] := by simp [natI]
theorem natI_len (l : List Nat) : (natI l).length = l.length := by simp [natI]
theorem mt_eq {p : Prog} {l : List Deed} {j i : Nat} {x y : Deed} (hx : l[j]? = some x) (hy : l[i]? = some y) : mt p l j i = meet p x y := by simp [mt, hx, hy]
theorem needs_out {p : Prog} {l : List Deed} {n : Int} (h : inL l n = false) : needs p l n = [] := by simp [needs, h]
theorem needs_no {p : Prog} {l : List Deed} {n : Int} (h : progOk p = false) : needs p l n = [] := by
  have hm : ∀ j i, mt p l j i = false := fun j i => by
    unfold mt
    split
    · rw [meet_touch, h]; rfl
    · rfl
  simp [needs, needsN, hm, natI]
theorem needs_len (p : Prog) (l : List Deed) (n : Int) : (needs p l n).length ≤ l.length := by
  unfold needs
  split
  · rename_i h
    simp [inL] at h
    have := filter_len (fun j => mt p l j n.toNat) n.toNat
    rw [natI_len]
    unfold needsN
    omega
  · simp
set_option maxHeartbeats 1000000 in
theorem inl_s (l : List Deed) (n : Int) : Fn Try.prog 15 [.fz (DeedS l), .int .i64 n] (.bool (inL l n)) := by
  refine Fn.intro Try.func15 (by decide) rfl (rs := [.tmp 4]) rfl Try.ntmps15 (by simp) ?_
  refine SW.regionK fun K hK => ?_
  simp -implicitDefEqProofs
  repeat refine ⟨by omega, ?_⟩
  refine hK _ ?_
  clear hK K
  refine SW.regionK fun K hK => ?_
  simp -implicitDefEqProofs
  repeat refine ⟨by omega, ?_⟩
  refine hK _ ?_
  clear hK K
  refine SW.ret ?_
  simp [Ex.then, Ex.inBlock]
  all_goals simp [inL]
set_option maxHeartbeats 1000000 in
theorem needsN_s (p : Prog) (l : List Deed) (n : Int) (h : p.ok) (hl : l.length ≤ 1048576) (hc : inL l n = false ∨ progOk p = false) : Fn Try.prog 31 [.agg p.fr, .fz (DeedS l), .int .i64 n] (.own 1 (IntS [])) := by
  refine Fn.intro Try.func31 (by decide) rfl (rs := [.tmp 6]) rfl Try.ntmps31 (by simp) ?_
  have hc2 : inL l n = true → progOk p = false := by intro e; rcases hc with h | h <;> simp_all
  refine SW.regionK fun K hK => ?_
  simp -implicitDefEqProofs
  repeat (refine And.intro (by clear hK; first | omega | (intros; simp_all; done) | (intros; grind)) ?_)
  refine hK _ ?_
  clear hK K
  refine SW.regionK fun K hK => ?_
  simp -implicitDefEqProofs
  repeat (refine And.intro (by clear hK; first | omega | (intros; simp_all; done) | (intros; grind)) ?_)
  refine hK _ ?_
  clear hK K
  refine SW.seqK fun K1 hK1 => ?_
  refine SW.regionK fun K hK => ?_
  simp -implicitDefEqProofs
  repeat (refine And.intro (by clear hK; first | omega | (intros; simp_all; done) | (intros; grind)) ?_)
  first
    | refine CallQ.fzE (inl_s l n) (by simp) ?_
    | refine CallK.fzE (inl_s l n) (by simp) ?_
  simp -implicitDefEqProofs
  repeat (refine And.intro (by clear hK; first | omega | (intros; simp_all; done) | (intros; grind)) ?_)
  refine hK _ ?_
  clear hK K
  refine SW.cond _ rfl (by simp) ?_ ?_
  case' refine_2 =>
   intro hb1
   first
   | (exfalso; simp at hb1; done)
   | (exfalso; simp at hb1; omega)
   | (
    refine SW.skip ?_
    refine hK1 _ ?_
    refine SW.seqK fun K2 hK2 => ?_
    refine SW.regionK fun K hK => ?_
    simp -implicitDefEqProofs
    repeat (refine And.intro (by clear hK; first | omega | (intros; simp_all; done) | (intros; grind)) ?_)
    first
      | refine CallQ.fzE (progOk_s p h) (by simp) ?_
      | refine CallK.fzE (progOk_s p h) (by simp) ?_
    simp -implicitDefEqProofs
    repeat (refine And.intro (by clear hK; first | omega | (intros; simp_all; done) | (intros; grind)) ?_)
    refine hK _ ?_
    clear hK K
    refine SW.cond _ rfl (by simp) ?_ ?_
    case' refine_2 =>
     intro hb2
     have hno : (0 : Int) = 1 := by
       exfalso
       simp at hb1 hb2
       have := hc2 hb1
       simp [this] at hb2
     first
     | (exfalso; simp at hb2; done)
     | (exfalso; simp at hb2; omega)
     | (
      refine SW.skip ?_
      refine hK2 _ ?_
      refine SW.seqK fun K3 hK3 => ?_
      refine SW.regionK fun K hK => ?_
      simp -implicitDefEqProofs
      repeat (refine And.intro (by clear hK; first | omega | (intros; simp_all; done) | (intros; grind)) ?_)
      refine hK _ ?_
      clear hK K
      refine SW.block ?_
      refine SW.loop (α := Nat) (fun k => ⟨[], []⟩) (fun k => True) (fun k => 0) (0) ?_ ?_ (fun k hx => ?_)
      case' refine_1 =>
       simp
      case' refine_2 =>
       fail
      case' refine_3 =>
       skip
       refine SW.seqK fun K4 hK4 => ?_
       refine SW.regionK fun K hK => ?_
       simp -implicitDefEqProofs
       repeat (refine And.intro (by clear hK; first | omega | (intros; simp_all; done) | (intros; grind)) ?_)
       refine hK _ ?_
       clear hK K
       refine SW.cond _ rfl (by simp) ?_ ?_
       case' refine_2 =>
        intro hb3
        first
        | (exfalso; simp at hb3; done)
        | (exfalso; simp at hb3; omega)
        | (
         refine SW.exit ?_
         simp only [Ex.then, Ex.inBlock]
         try simp only [if_true, if_false, reduceIte]
         refine hK3 _ ?_
         refine SW.regionK fun K hK => ?_
         simp -implicitDefEqProofs
         repeat (refine And.intro (by clear hK; first | omega | (intros; simp_all; done) | (intros; grind)) ?_)
         refine hK _ ?_
         clear hK K
         refine SW.ret ?_
         simp [Ex.then, Ex.inBlock, -strN]
         all_goals (try simp [IntS]))
       rotate_right
       case' _ =>
        intro hb3
        first
        | (exfalso; simp at hb3; done)
        | (exfalso; simp at hb3; omega)
        | (
         refine SW.skip ?_
         refine hK4 _ ?_
         refine SW.seqK fun K5 hK5 => ?_
         refine SW.block ?_
         refine SW.drawK mixed [.q [(0, false), (1, false), (2, false), (3, false), (4, false), (5, false), (6, false), (7, false), (8, false), (9, false)]] (by kernel_rfl) rfl fun K hK => ?_
         simp -implicitDefEqProofs
         repeat (refine And.intro (by clear hK; first | omega | (intros; simp_all; done) | (intros; grind)) ?_)
         fail
         simp -implicitDefEqProofs
         repeat (refine And.intro (by clear hK; first | omega | (intros; simp_all; done) | (intros; grind)) ?_)
         refine hK _ ?_
         clear hK K
         refine SW.cond _ rfl (by simp) ?_ ?_
         case' refine_2 =>
          intro hb4
          first
          | (exfalso; simp at hb4; done)
          | (exfalso; simp at hb4; omega)
          | (
           refine SW.skip ?_)
         rotate_right
         case' _ =>
          intro hb4
          first
          | (exfalso; simp at hb4; done)
          | (exfalso; simp at hb4; omega)
          | (
           refine SW.regionE fun K hK => ?_
           simp -implicitDefEqProofs
           repeat (refine And.intro (by clear hK; first | omega | (intros; simp_all; done) | (intros; grind)) ?_)
           refine hK _ ?_
           clear hK K)
         all_goals (
          refine hK5 _ ?_
          refine SW.regionE fun K hK => ?_
          simp -implicitDefEqProofs
          repeat (refine And.intro (by clear hK; first | omega | (intros; simp_all; done) | (intros; grind)) ?_)
          refine hK _ ?_
          clear hK K
          fail)))
    rotate_right
    case' _ =>
     intro hb2
     first
     | (exfalso; simp at hb2; done)
     | (exfalso; simp at hb2; omega)
     | (
      refine SW.regionK fun K hK => ?_
      simp -implicitDefEqProofs
      repeat (refine And.intro (by clear hK; first | omega | (intros; simp_all; done) | (intros; grind)) ?_)
      refine hK _ ?_
      clear hK K
      refine SW.ret ?_
      simp [Ex.then, Ex.inBlock, -strN]
      all_goals (try simp [IntS])))
  rotate_right
  case' _ =>
   intro hb1
   first
   | (exfalso; simp at hb1; done)
   | (exfalso; simp at hb1; omega)
   | (
    refine SW.regionK fun K hK => ?_
    simp -implicitDefEqProofs
    repeat (refine And.intro (by clear hK; first | omega | (intros; simp_all; done) | (intros; grind)) ?_)
    refine hK _ ?_
    clear hK K
    refine SW.ret ?_
    simp [Ex.then, Ex.inBlock, -strN]
    all_goals (try simp [IntS]))
set_option maxHeartbeats 1000000 in
theorem needsY_s (p : Prog) (l : List Deed) (n : Int) (h : p.ok) (hl : l.length ≤ 1048576) (hp : progOk p = true) (hin : inL l n = true) : Fn Try.prog 31 [.agg p.fr, .fz (DeedS l), .int .i64 n] (.own 1 (IntS (needs p l n))) := by
  refine Fn.intro Try.func31 (by decide) rfl (rs := [.tmp 6]) rfl Try.ntmps31 (by simp) ?_
  have hin2 := hin
  simp [inL] at hin
  obtain ⟨hA, hB⟩ := hin
  have hlt9 : n.toNat < l.length := by omega
  obtain ⟨y, hy⟩ : ∃ q, l[n.toNat]? = some q := ⟨_, List.getElem?_eq_getElem hlt9⟩
  have hyE : ∀ h, l[n.toNat]'h = y := fun h => (List.getElem?_eq_some_iff.1 hy).2
  have hr : needs p l n = natI (List.filter (fun j => mt p l j n.toNat) (List.range n.toNat)) := by simp [needs, needsN, inL, hA, hB]
  refine SW.regionK fun K hK => ?_
  simp -implicitDefEqProofs
  repeat (refine And.intro (by clear hK; first | omega | (intros; simp_all; done) | (intros; grind)) ?_)
  refine hK _ ?_
  clear hK K
  refine SW.regionK fun K hK => ?_
  simp -implicitDefEqProofs
  repeat (refine And.intro (by clear hK; first | omega | (intros; simp_all; done) | (intros; grind)) ?_)
  refine hK _ ?_
  clear hK K
  refine SW.seqK fun K1 hK1 => ?_
  refine SW.regionK fun K hK => ?_
  simp -implicitDefEqProofs [hin2]
  repeat (refine And.intro (by clear hK; first | omega | (intros; simp_all; done) | (intros; grind)) ?_)
  first
    | refine CallQ.fzE (inl_s l n) (by simp) ?_
    | refine CallK.fzE (inl_s l n) (by simp) ?_
  simp -implicitDefEqProofs [hin2]
  repeat (refine And.intro (by clear hK; first | omega | (intros; simp_all; done) | (intros; grind)) ?_)
  refine hK _ ?_
  clear hK K
  refine SW.cond _ rfl (by simp) ?_ ?_
  case' refine_2 =>
   intro hb1
   first
   | (exfalso; simp at hb1; done)
   | (exfalso; simp at hb1; omega)
   | (
    refine SW.skip ?_
    refine hK1 _ ?_
    refine SW.seqK fun K2 hK2 => ?_
    refine SW.regionK fun K hK => ?_
    simp -implicitDefEqProofs [hp]
    repeat (refine And.intro (by clear hK; first | omega | (intros; simp_all; done) | (intros; grind)) ?_)
    first
      | refine CallQ.fzE (progOk_s p h) (by simp) ?_
      | refine CallK.fzE (progOk_s p h) (by simp) ?_
    simp -implicitDefEqProofs [hp]
    repeat (refine And.intro (by clear hK; first | omega | (intros; simp_all; done) | (intros; grind)) ?_)
    refine hK _ ?_
    clear hK K
    refine SW.cond _ rfl (by simp) ?_ ?_
    case' refine_2 =>
     intro hb2
     first
     | (exfalso; simp at hb2; done)
     | (exfalso; simp at hb2; omega)
     | (
      refine SW.skip ?_
      refine hK2 _ ?_
      refine SW.seqK fun K3 hK3 => ?_
      refine SW.regionK fun K hK => ?_
      simp -implicitDefEqProofs
      repeat (refine And.intro (by clear hK; first | omega | (intros; simp_all; done) | (intros; grind)) ?_)
      refine hK _ ?_
      clear hK K
      refine SW.block ?_
      refine SW.loop (α := Nat) (fun j => ⟨[(8, .int .i64 j), (7, .sl 1 0 (natI (List.filter (fun j => mt p l j n.toNat) (List.range j))).length), (1, .fz (DeedS l)), (2, .int .i64 n), (3, .ptr 0 0 0)], [some ⟨4, [p.fr]⟩, some ⟨1, IntS (natI (List.filter (fun j => mt p l j n.toNat) (List.range j)))⟩]⟩) (fun j => j ≤ n.toNat) (fun j => n.toNat - j) (0) ?_ ?_ (fun j hx => ?_)
      case' refine_1 =>
       simp
      case' refine_2 =>
       exact Wk.cut (by simp) (by simp [subE, natI]) (by simp [cutH, natI]) (by simp [lowE, lowN]) (by simp)
      case' refine_3 =>
       skip
       refine SW.seqK fun K4 hK4 => ?_
       refine SW.regionK fun K hK => ?_
       simp -implicitDefEqProofs
       repeat (refine And.intro (by clear hK; first | omega | (intros; simp_all; done) | (intros; grind)) ?_)
       refine hK _ ?_
       clear hK K
       refine SW.cond _ rfl (by simp) ?_ ?_
       case' refine_2 =>
        intro hb3
        first
        | (exfalso; simp at hb3; done)
        | (exfalso; simp at hb3; omega)
        | (
         have hj1 : j = n.toNat := by first | omega | (simp at hb3; omega)
         subst hj1
         refine SW.exit ?_
         simp only [Ex.then, Ex.inBlock]
         try simp only [if_true, if_false, reduceIte]
         refine hK3 _ ?_
         refine SW.regionK fun K hK => ?_
         simp -implicitDefEqProofs
         repeat (refine And.intro (by clear hK; first | omega | (intros; simp_all; done) | (intros; grind)) ?_)
         refine hK _ ?_
         clear hK K
         refine SW.ret ?_
         simp [Ex.then, Ex.inBlock, -strN]
         all_goals first
           | (rw [hr]; exact ⟨IntS_strM _, rfl⟩)
           | (rw [hr]; done)
           | fail)
       rotate_right
       case' _ =>
        intro hb3
        first
        | (exfalso; simp at hb3; done)
        | (exfalso; simp at hb3; omega)
        | (
         have hj9 : j < n.toNat := by first | omega | (simp at hb3; omega)
         have hltx : j < l.length := by omega
         obtain ⟨x, hxk⟩ : ∃ q, l[j]? = some q := ⟨_, List.getElem?_eq_getElem hltx⟩
         have hxE : ∀ h, l[j]'h = x := fun h => (List.getElem?_eq_some_iff.1 hxk).2
         have hst := filter_step (f := fun j => mt p l j n.toNat) j
         have hmt := mt_eq (p := p) hxk hy
         have hfl := filter_len (fun j => mt p l j n.toNat) j
         have hfl2 : (natI (List.filter (fun j => mt p l j n.toNat) (List.range j))).length ≤ j := by rw [natI_len]; exact hfl
         simp only [hmt] at hst
         refine SW.skip ?_
         refine hK4 _ ?_
         refine SW.seqK fun K5 hK5 => ?_
         refine SW.block ?_
         refine SW.drawK mixed [.q [(0, false), (1, false), (2, false), (3, false), (4, false), (5, false), (6, false), (7, false), (8, false), (9, false)]] (by kernel_rfl) rfl fun K hK => ?_
         simp -implicitDefEqProofs [hxk, hxE, hltx, hy, hyE, hA, hB, hlt9]
         repeat (refine And.intro (by clear hK; first | omega | (intros; simp_all; done) | (intros; grind)) ?_)
         first
           | refine CallQ.fzE (touch_s p x y h hp) (by simp) ?_
           | refine CallK.fzE (touch_s p x y h hp) (by simp) ?_
         simp -implicitDefEqProofs [hxk, hxE, hltx, hy, hyE, hA, hB, hlt9]
         repeat (refine And.intro (by clear hK; first | omega | (intros; simp_all; done) | (intros; grind)) ?_)
         refine hK _ ?_
         clear hK K
         refine SW.cond _ rfl (by simp) ?_ ?_
         case' refine_2 =>
          intro hb4
          first
          | (exfalso; simp at hb4; done)
          | (exfalso; simp at hb4; omega)
          | (
           have hm : meet p x y = false := by rw [meet_touch, hp]; simpa using hb4
           have hst2 : List.filter (fun j => mt p l j n.toNat) (List.range (j + 1)) = (List.filter (fun j => mt p l j n.toNat) (List.range j)) := by rw [hst, hm]; simp
           refine SW.skip ?_)
         rotate_right
         case' _ =>
          intro hb4
          first
          | (exfalso; simp at hb4; done)
          | (exfalso; simp at hb4; omega)
          | (
           have hm : meet p x y = true := by rw [meet_touch, hp]; simpa using hb4
           have hst2 : List.filter (fun j => mt p l j n.toNat) (List.range (j + 1)) = (List.filter (fun j => mt p l j n.toNat) (List.range j)) ++ [j] := by rw [hst, hm]; rfl
           refine SW.regionE fun K hK => ?_
           simp -implicitDefEqProofs
           repeat (refine And.intro (by clear hK; first | omega | (intros; simp_all; done) | (intros; grind)) ?_)
           refine hK _ ?_
           clear hK K)
         all_goals (
          refine hK5 _ ?_
          refine SW.regionE fun K hK => ?_
          simp -implicitDefEqProofs
          repeat (refine And.intro (by clear hK; first | omega | (intros; simp_all; done) | (intros; grind)) ?_)
          refine hK _ ?_
          clear hK K
          refine ⟨j + 1, by omega, by omega, ?_⟩
          first
            | (have q : meet p x y = true := hm; exact Wk.ren [0, 3] (by simp) (by simp) (by simp) (by simp) (by simp [renE, renN, wrap1 j (by omega), hst2, natI_snoc]) (by simp [renH, hst2, natI_snoc, IntS_snoc]) (by simp [lowE, lowN]) (by simp))
            | exact Wk.cut (by simp) (by simp [subE, wrap1 j (by omega), hst2]) (by simp [cutH, hst2]) (by simp [lowE, lowN]) (by simp))))
    rotate_right
    case' _ =>
     intro hb2
     first
     | (exfalso; simp at hb2; done)
     | (exfalso; simp at hb2; omega)
     | (
      refine SW.regionK fun K hK => ?_
      simp -implicitDefEqProofs
      repeat (refine And.intro (by clear hK; first | omega | (intros; simp_all; done) | (intros; grind)) ?_)
      refine hK _ ?_
      clear hK K
      refine SW.ret ?_
      simp [Ex.then, Ex.inBlock, -strN]
      all_goals first
        | (rw [hr]; exact ⟨IntS_strM _, rfl⟩)
        | (rw [hr]; done)
        | fail))
  rotate_right
  case' _ =>
   intro hb1
   first
   | (exfalso; simp at hb1; done)
   | (exfalso; simp at hb1; omega)
   | (
    refine SW.regionK fun K hK => ?_
    simp -implicitDefEqProofs
    repeat (refine And.intro (by clear hK; first | omega | (intros; simp_all; done) | (intros; grind)) ?_)
    refine hK _ ?_
    clear hK K
    refine SW.ret ?_
    simp [Ex.then, Ex.inBlock, -strN]
    all_goals first
      | (rw [hr]; exact ⟨IntS_strM _, rfl⟩)
      | (rw [hr]; done)
      | fail)
end HT
