import Derived.Test.YtfdaepchofckkaaHZW1
/-
  My own texts (road H): HZW2.
-/
set_option linter.unusedSimpArgs false
set_option linter.unusedVariables false
namespace HT
open Go Go.Proofs HK
def objL (p : Prog) (d : Deed) : List Int := if evOk p d then objects p d else []
theorem objL_ok {p : Prog} {d : Deed} : ∀ k ∈ objL p d, okObj k := by
  unfold objL
  split
  · rename_i h; exact objects_ok h
  · intro k hk; cases hk
theorem objL_len {p : Prog} {d : Deed} : (objL p d).length ≤ 100 := by
  unfold objL
  split
  · rename_i h; exact objects_len h
  · simp
theorem msk_objL (p : Prog) (d : Deed) : msk p d = bitsOf (objL p d) := by
  unfold msk objL
  split <;> rfl
theorem obj_i (p : Prog) (d : Deed) (h : p.ok) : Fn Try.prog 47 [.agg p.fr, .agg d.cl] (.own 1 (IntS (objL p d))) := by
  unfold objL
  cases he : evOk p d with
  | true => exact objY_i p d h he
  | false => exact Fn.ownNil 1 (objN_i p d h he)
theorem bitsT_lt {p : Prog} {d : Deed} (j : Nat) : bitsOf ((objL p d).take j) < 2 ^ 22 := bitsOf_lt fun k hk => objL_ok k (List.mem_of_mem_take hk)
theorem or_step {p : Prog} {d : Deed} {j : Nat} {y v : Int} (h : (objL p d)[j]? = some y) (hv : v = ((2 ^ codeOf y : Nat) : Int)) : bitv .or .i64 (bitsOf ((objL p d).take j) : Nat) v = ((bitsOf ((objL p d).take (j + 1)) : Nat) : Int) := by
  have h1 := bitsT_lt (p := p) (d := d) j
  have h2 := codeOf_lt (objL_ok y (List.mem_of_getElem? h))
  have h3 : 2 ^ codeOf y < 2 ^ 22 := Nat.pow_lt_pow_right (by omega) h2
  rw [hv, bit_or (by omega) (by omega), bits_step h]
theorem sh_ok {y c : Int} (hy : okObj y) (h : c = codeOf y) : IntKind.i64.wrap (2 ^ min c.toNat 64) = ((2 ^ codeOf y : Nat) : Int) := by
  have h2 := codeOf_lt hy
  have h3 : 2 ^ codeOf y < 2 ^ 22 := Nat.pow_lt_pow_right (by omega) h2
  have e : min c.toNat 64 = codeOf y := by omega
  rw [e]
  have e2 : ((2 : Int) ^ codeOf y) = ((2 ^ codeOf y : Nat) : Int) := by simp
  rw [e2]
  generalize 2 ^ codeOf y = n at h3
  exact wrapI _ (by omega) (by omega)
theorem bits0 : bitsOf [] = 0 := rfl
theorem bits64 : IntKind.i64.bits = 64 := rfl
theorem TchS_snoc (l : List Tch) (x : Tch) : TchS (l ++ [x]) = TchS l ++ [x.cl] := by simp [TchS]
theorem TchS_strM (l : List Tch) : ∀ x ∈ TchS l, ∀ y ∈ x, strN 4 y = true := fun x hx y hy => by
  obtain ⟨d, _, rfl⟩ := List.mem_map.1 hx
  simp at hy
  rcases hy with rfl | rfl | rfl <;> rfl
theorem map_step {α β : Type} {f : α → β} {l : List α} {k : Nat} {x : α} (h : l[k]? = some x) : (l.take (k + 1)).map f = (l.take k).map f ++ [f x] := by
  rw [List.take_add_one, h]; simp
set_option maxHeartbeats 1000000 in
theorem touches_i (p : Prog) (l : List Deed) (h : p.ok) (hl : l.length ≤ 2 ^ 30) : Fn Try.prog 36 [.agg p.fr, .fz (DeedS l)] (.own 3 (TchS (l.map (tch p)))) := by
  refine Fn.intro Try.func36 (by decide) rfl (rs := [.tmp 4]) rfl Try.ntmps36 (by simp) ?_
  refine SW.regionK fun K hK => ?_
  simp -implicitDefEqProofs
  repeat (refine And.intro (by clear hK; first | omega | (intros; simp_all; done) | (intros; grind)) ?_)
  refine hK _ ?_
  clear hK K
  refine SW.regionK fun K hK => ?_
  simp -implicitDefEqProofs
  repeat (refine And.intro (by clear hK; first | omega | (intros; simp_all; done) | (intros; grind)) ?_)
  refine hK _ ?_
  clear hK K
  refine SW.seqK fun K1 hK1 => ?_
  refine SW.regionK fun K hK => ?_
  simp -implicitDefEqProofs
  repeat (refine And.intro (by clear hK; first | omega | (intros; simp_all; done) | (intros; grind)) ?_)
  refine hK _ ?_
  clear hK K
  refine SW.block ?_
  refine SW.loop (α := Nat) (fun k => ⟨[(14, .int .i64 k), (13, .int .i64 l.length), (12, .fz (DeedS l)), (2, .ptr 0 0 0), (5, .sl 1 0 k)], [some ⟨4, [p.fr]⟩, some ⟨3, (TchS (List.take k (List.map (tch p) l)))⟩]⟩) (fun k => k ≤ l.length) (fun k => l.length - k) (0) ?_ ?_ (fun k hx => ?_)
  case' refine_1 =>
   simp
  case' refine_2 =>
   exact Wk.cut (by simp) (by simp [subE]) (by simp [cutH]) (by simp [lowE, lowN]) (by simp)
  case' refine_3 =>
   skip
   refine SW.regionK fun K hK => ?_
   simp -implicitDefEqProofs
   repeat (refine And.intro (by clear hK; first | omega | (intros; simp_all; done) | (intros; grind)) ?_)
   refine hK _ ?_
   clear hK K
   refine SW.seqK fun K2 hK2 => ?_
   refine SW.cond _ rfl (by simp) ?_ ?_
   case' refine_2 =>
    intro hb1
    first
    | (exfalso; simp at hb1; done)
    | (exfalso; simp at hb1; omega)
    | (
     have hk1 : k = l.length := by simp at hb1; omega
     subst hk1
     have htk2 : List.take l.length (TchS (List.take l.length (List.map (tch p) l))) = TchS (List.map (tch p) l) := by rw [List.take_of_length_le (l := List.map (tch p) l) (by simp), List.take_of_length_le (by simp)]
     refine SW.exit ?_
     simp only [Ex.then, Ex.inBlock]
     try simp only [if_true, if_false, reduceIte]
     refine hK1 _ ?_
     refine SW.regionK fun K hK => ?_
     simp -implicitDefEqProofs
     repeat (refine And.intro (by clear hK; first | omega | (intros; simp_all; done) | (intros; grind)) ?_)
     refine hK _ ?_
     clear hK K
     refine SW.ret ?_
     simp [Ex.then, Ex.inBlock, -strN]
     all_goals (rw [htk2]; exact ⟨TchS_strM _, rfl⟩))
   rotate_right
   case' _ =>
    intro hb1
    first
    | (exfalso; simp at hb1; done)
    | (exfalso; simp at hb1; omega)
    | (
     have hltx : k < l.length := by first | omega | (simp at hb1; omega)
     obtain ⟨x, hxk⟩ : ∃ q, l[k]? = some q := ⟨_, List.getElem?_eq_getElem hltx⟩
     have hms := map_step (f := tch p) hxk
     simp only [List.map_take] at hms
     have hol := objL_len (p := p) (d := x)
     have htk3 : List.take k (TchS (List.take k (List.map (tch p) l))) = TchS (List.take k (List.map (tch p) l)) := List.take_of_length_le (by simp; try omega)
     refine SW.skip ?_
     refine hK2 _ ?_
     refine SW.seqK fun K3 hK3 => ?_
     refine SW.block ?_
     refine SW.regionK fun K hK => ?_
     simp -implicitDefEqProofs [hxk]
     repeat (refine And.intro (by clear hK; first | omega | (intros; simp_all; done) | (intros; grind)) ?_)
     refine hK _ ?_
     clear hK K
     refine SW.drawK mixed [.q [(0, false), (1, false), (2, false), (3, false), (4, false), (5, false), (6, true)], .b 7] (by kernel_rfl) rfl fun K hK => ?_
     simp -implicitDefEqProofs
     repeat (refine And.intro (by clear hK; first | omega | (intros; simp_all; done) | (intros; grind)) ?_)
     first
       | refine CallQ.fzE (evOk_i p x h) (by simp) ?_
       | refine CallK.fzE (evOk_i p x h) (by simp) ?_
     simp -implicitDefEqProofs
     repeat (refine And.intro (by clear hK; first | omega | (intros; simp_all; done) | (intros; grind)) ?_)
     refine hK _ ?_
     clear hK K
     refine SW.seqK fun K4 hK4 => ?_
     refine SW.regionK fun K hK => ?_
     simp -implicitDefEqProofs
     repeat (refine And.intro (by clear hK; first | omega | (intros; simp_all; done) | (intros; grind)) ?_)
     first
       | refine CallQ.fzE (obj_i p x h) (by simp) ?_
       | refine CallK.fzE (obj_i p x h) (by simp) ?_
     simp -implicitDefEqProofs
     repeat (refine And.intro (by clear hK; first | omega | (intros; simp_all; done) | (intros; grind)) ?_)
     refine hK _ ?_
     clear hK K
     refine SW.block ?_
     refine SW.loop (α := Nat) (fun j => ⟨[(28, .int .i64 j), (27, .int .i64 (objL p x).length), (26, .fz (IntS (objL p x))), (8, .ptr 2 0 0), (14, .int .i64 k), (13, .int .i64 l.length), (12, .fz (DeedS l)), (2, .ptr 0 0 0), (5, .sl 1 0 k)], [some ⟨4, [p.fr]⟩, some ⟨3, (TchS (List.take k (List.map (tch p) l)))⟩, some ⟨3, [[.bool (evOk p x), .int .i64 x.g, .int .i64 ((bitsOf (List.take j (objL p x)) : Nat) : Int)]]⟩]⟩) (fun j => j ≤ (objL p x).length) (fun j => (objL p x).length - j) (0) ?_ ?_ (fun j hx => ?_)
     case' refine_1 =>
      simp
     case' refine_2 =>
      exact Wk.ren [0, 1, 3] (by simp) (by simp) (by simp) (by simp) (by simp [renE, renN]) (by simp [renH, bits0]) (by simp [lowE, lowN]) (by simp)
     case' refine_3 =>
      skip
      refine SW.regionK fun K hK => ?_
      simp -implicitDefEqProofs
      repeat (refine And.intro (by clear hK; first | omega | (intros; simp_all; done) | (intros; grind)) ?_)
      refine hK _ ?_
      clear hK K
      refine SW.seqK fun K5 hK5 => ?_
      refine SW.cond _ rfl (by simp) ?_ ?_
      case' refine_2 =>
       intro hb2
       first
       | (exfalso; simp at hb2; done)
       | (exfalso; simp at hb2; omega)
       | (
        have hj1 : j = (objL p x).length := by simp at hb2; omega
        subst hj1
        have htj : List.take (objL p x).length (objL p x) = objL p x := List.take_length
        have hmk := msk_objL p x
        refine SW.exit ?_
        simp only [Ex.then, Ex.inBlock]
        try simp only [if_true, if_false, reduceIte]
        refine hK4 _ ?_
        refine SW.regionE fun K hK => ?_
        simp -implicitDefEqProofs
        repeat (refine And.intro (by clear hK; first | omega | (intros; simp_all; done) | (intros; grind)) ?_)
        refine hK _ ?_
        clear hK K
        refine hK3 _ ?_
        refine SW.regionE fun K hK => ?_
        simp -implicitDefEqProofs
        repeat (refine And.intro (by clear hK; first | omega | (intros; simp_all; done) | (intros; grind)) ?_)
        refine hK _ ?_
        clear hK K
        try simp only [Ex.then, Ex.inBlock]
        refine ⟨k + 1, by omega, by omega, ?_⟩
        skip
        exact Wk.ren [0, 4] (by simp) (by simp) (by simp) (by simp) (by simp [renE, renN, wrap1 k (by omega)]) (by simp [renH, hms, TchS_snoc, tch, hmk, htk3]) (by simp [lowE, lowN]) (by simp))
      rotate_right
      case' _ =>
       intro hb2
       first
       | (exfalso; simp at hb2; done)
       | (exfalso; simp at hb2; omega)
       | (
        have hlty : j < (objL p x).length := by first | omega | (simp at hb2; omega)
        obtain ⟨y, hyk⟩ : ∃ q, (objL p x)[j]? = some q := ⟨_, List.getElem?_eq_getElem hlty⟩
        have hyo := objL_ok y (List.mem_of_getElem? hyk)
        refine SW.skip ?_
        refine hK5 _ ?_
        refine SW.seqK fun K6 hK6 => ?_
        refine SW.block ?_
        refine SW.regionK fun K hK => ?_
        simp -implicitDefEqProofs [hyk]
        repeat (refine And.intro (by clear hK; first | omega | (intros; simp_all; done) | (intros; grind)) ?_)
        refine hK _ ?_
        clear hK K
        refine SW.block ?_
        refine SW.regionK fun K hK => ?_
        simp -implicitDefEqProofs
        repeat (refine And.intro (by clear hK; first | omega | (intros; simp_all; done) | (intros; grind)) ?_)
        refine hK _ ?_
        clear hK K
        refine SW.cond _ rfl (by simp) ?_ ?_
        case' refine_2 =>
         intro hb3
         first
         | (exfalso; simp at hb3; done)
         | (exfalso; simp at hb3; omega)
         | (
          have hy2 : ¬ y = 200 := by simpa using hb3
          refine SW.regionK fun K hK => ?_
          simp -implicitDefEqProofs
          repeat (refine And.intro (by clear hK; first | omega | (intros; simp_all; done) | (intros; grind)) ?_)
          refine hK _ ?_
          clear hK K
          refine SW.cond _ rfl (by simp) ?_ ?_
          case' refine_2 =>
           intro hb4
           first
           | (exfalso; simp at hb4; done)
           | (exfalso; simp at hb4; omega)
           | (
            have hy3 : ¬ y = 201 := by simpa using hb4
            refine SW.regionK fun K hK => ?_
            simp -implicitDefEqProofs
            repeat (refine And.intro (by clear hK; first | omega | (intros; simp_all; done) | (intros; grind)) ?_)
            refine hK _ ?_
            clear hK K
            refine SW.cond _ rfl (by simp) ?_ ?_
            case' refine_2 =>
             intro hb5
             first
             | (exfalso; simp at hb5; done)
             | (exfalso; simp at hb5; omega)
             | (
              have h10 : ¬ 100 ≤ y := by simpa using hb5
              have h0 : 0 ≤ y := by unfold okObj at hyo; omega
              have hcd : y = codeOf y := by unfold codeOf; rw [if_neg hy2, if_neg hy3, if_neg h10]; omega
              have hsh := sh_ok hyo hcd
              have hnx := or_step hyk hsh
              refine SW.drawE mixed [.q [(0, false), (1, false), (2, false), (3, false), (4, false), (5, false)], .b 6] (by kernel_rfl) rfl fun K hK => ?_
              simp -implicitDefEqProofs [splice, h0]
              repeat (refine And.intro (by clear hK; first | omega | (intros; simp_all; done) | (intros; grind)) ?_)
              refine hK _ ?_
              clear hK K)
            rotate_right
            case' _ =>
             intro hb5
             first
             | (exfalso; simp at hb5; done)
             | (exfalso; simp at hb5; omega)
             | (
              have h10 : 100 ≤ y := by simpa using hb5
              have hy9 : y < 104 := by unfold okObj at hyo; omega
              have hw1 := wrapI (10 + y) (by omega) (by omega)
              have hw2 := wrapI (10 + y - 100) (by omega) (by omega)
              have hcd : 10 + y - 100 = codeOf y := by unfold codeOf; rw [if_neg hy2, if_neg hy3, if_pos h10]; omega
              have hsh := sh_ok hyo hcd
              have hnx := or_step hyk hsh
              refine SW.drawE mixed [.q [(0, false), (1, false), (2, false), (3, false), (4, false), (5, false), (6, false), (7, false)], .b 8] (by kernel_rfl) rfl fun K hK => ?_
              simp -implicitDefEqProofs [splice, hw1, hw2, h10]
              repeat (refine And.intro (by clear hK; first | omega | (intros; simp_all; done) | (intros; grind)) ?_)
              refine hK _ ?_
              clear hK K))
          rotate_right
          case' _ =>
           intro hb4
           first
           | (exfalso; simp at hb4; done)
           | (exfalso; simp at hb4; omega)
           | (
            have hy : y = 201 := by simpa using hb4
            have hnx := or_step hyk (v := 2097152) (by rw [hy]; rfl)
            refine SW.regionE fun K hK => ?_
            simp -implicitDefEqProofs [splice]
            repeat (refine And.intro (by clear hK; first | omega | (intros; simp_all; done) | (intros; grind)) ?_)
            refine hK _ ?_
            clear hK K))
        rotate_right
        case' _ =>
         intro hb3
         first
         | (exfalso; simp at hb3; done)
         | (exfalso; simp at hb3; omega)
         | (
          have hy : y = 200 := by simpa using hb3
          have hnx := or_step hyk (v := 1048576) (by rw [hy]; rfl)
          refine SW.regionE fun K hK => ?_
          simp -implicitDefEqProofs [splice]
          repeat (refine And.intro (by clear hK; first | omega | (intros; simp_all; done) | (intros; grind)) ?_)
          refine hK _ ?_
          clear hK K)
        all_goals (
         refine hK6 _ ?_
         refine SW.regionE fun K hK => ?_
         simp -implicitDefEqProofs
         repeat (refine And.intro (by clear hK; first | omega | (intros; simp_all; done) | (intros; grind)) ?_)
         refine hK _ ?_
         clear hK K
         try simp only [Ex.then, Ex.inBlock]
         refine ⟨j + 1, by omega, by omega, ?_⟩
         exact Wk.ren [0, 1, 2] (by simp) (by simp) (by simp) (by simp) (by simp [renE, renN, wrap1 j (by omega)]) (by simp [renH, bits64, hnx]) (by simp [lowE, lowN]) (by simp))))
end HT
