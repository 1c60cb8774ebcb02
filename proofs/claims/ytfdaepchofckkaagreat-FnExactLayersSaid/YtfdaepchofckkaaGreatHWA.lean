import Derived.Test.YtfdaepchofckkaaGreatHW8
/-
  My own texts (road H): HWA.
-/
set_option linter.unusedSimpArgs false
set_option linter.unusedVariables false
namespace HT
open Go Go.Proofs HK
/-! ### layers -/
def layF (out : List Int) (N : List Nat) : Int := N.foldl (fun n j => max n (out.getD j 0 + 1)) 0
theorem layNext_eq (p : Prog) (l : List Deed) (out : List Int) (i : Nat) : layNext p l out i = layF out (needsN p l i) := rfl
@[simp] theorem layers_len (p : Prog) (l : List Deed) : ∀ k, (layers p l k).length = k
  | 0 => rfl
  | k + 1 => by simp [layers, layers_len p l k]
theorem layF_step {out : List Int} {N : List Nat} {j y : Nat} (h : N[j]? = some y) : layF out (N.take (j + 1)) = max (layF out (N.take j)) (out.getD y 0 + 1) := by
  unfold layF
  rw [List.take_add_one, h]
  simp
theorem layF_snoc (out : List Int) (N : List Nat) (y : Nat) : layF out (N ++ [y]) = max (layF out N) (out.getD y 0 + 1) := by
  unfold layF
  simp
theorem layF_bd {out : List Int} {B : Int} (hB : 0 ≤ B) (ho : ∀ v ∈ out, 0 ≤ v ∧ v < B) : ∀ N : List Nat, (∀ y ∈ N, y < out.length) → 0 ≤ layF out N ∧ layF out N ≤ B := by
  have key : ∀ (N : List Nat) (n : Int), (∀ y ∈ N, y < out.length) → 0 ≤ n → n ≤ B → 0 ≤ N.foldl (fun n j => max n (out.getD j 0 + 1)) n ∧ N.foldl (fun n j => max n (out.getD j 0 + 1)) n ≤ B := by
    intro N
    induction N with
    | nil => intro n _ h1 h2; exact ⟨h1, h2⟩
    | cons y N ih =>
      intro n hy h1 h2
      rw [List.foldl_cons]
      have hlt := hy y (by simp)
      have hv := ho (out.getD y 0) (by rw [List.getD_eq_getElem?_getD, List.getElem?_eq_getElem hlt]; simp)
      exact ih _ (fun z hz => hy z (by simp [hz])) (by omega) (by omega)
  intro N hN
  exact key N 0 hN (Int.le_refl 0) hB
theorem layers_bd (p : Prog) (l : List Deed) : ∀ (k : Nat), ∀ v ∈ layers p l k, 0 ≤ v ∧ v < (k : Int)
  | 0, v, h => by cases h
  | k + 1, v, h => by
    have ih := layers_bd p l k
    rw [layers, List.mem_append] at h
    rcases h with h | h
    · have := ih v h; omega
    · simp at h
      subst h
      have := layF_bd (out := layers p l k) (B := k) (by omega) ih (needsN p l k) (fun y hy => by rw [layers_len]; exact (mem_needsN.1 hy).1)
      rw [layNext_eq]
      omega
theorem layers_getD {p : Prog} {l : List Deed} {k y : Nat} {v : Int} (h : (layers p l k)[y]? = some v) : (layers p l k).getD y 0 = v := by rw [List.getD_eq_getElem?_getD, h]; rfl
set_option maxHeartbeats 1000000 in
theorem layers_s (p : Prog) (l : List Deed) (h : p.ok) (hl : l.length ≤ 1048576) : Fn Tryz.prog 23 [.agg p.fr, .fz (DeedS l)] (.own 1 (IntS (layers p l l.length))) := by
  refine Fn.intro Tryz.func23 (by decide) rfl (rs := [.tmp 4]) rfl Tryz.ntmps23 (by simp) ?_
  refine SW.regionK fun K hK => ?_
  simp -implicitDefEqProofs
  repeat (refine And.intro (by clear hK; first | omega | (intros; simp_all; done) | (intros; grind)) ?_)
  refine hK _ ?_
  clear hK K
  refine SW.regionK fun K hK => ?_
  simp -implicitDefEqProofs
  repeat (refine And.intro (by clear hK; first | omega | (intros; simp_all; done) | (intros; grind)) ?_)
  refine hK _ ?_
  clear hK K
  refine SW.seqK fun K1 hK1 => ?_
  refine SW.regionK fun K hK => ?_
  simp -implicitDefEqProofs
  repeat (refine And.intro (by clear hK; first | omega | (intros; simp_all; done) | (intros; grind)) ?_)
  refine hK _ ?_
  clear hK K
  refine SW.block ?_
  refine SW.loop (α := Nat) (fun k => ⟨[(13, .int .i64 k), (12, .int .i64 l.length), (5, .sl 1 0 k), (1, .fz (DeedS l)), (2, .ptr 0 0 0)], [some ⟨4, [p.fr]⟩, some ⟨1, IntS (layers p l k)⟩]⟩) (fun k => k ≤ l.length) (fun k => l.length - k) (0) ?_ ?_ (fun k hx => ?_)
  case' refine_1 =>
   simp
  case' refine_2 =>
   exact Wk.cut (by simp) (by simp [subE]) (by simp [cutH, layers]) (by simp [lowE, lowN]) (by simp)
  case' refine_3 =>
   skip
   refine SW.regionK fun K hK => ?_
   simp -implicitDefEqProofs
   repeat (refine And.intro (by clear hK; first | omega | (intros; simp_all; done) | (intros; grind)) ?_)
   refine hK _ ?_
   clear hK K
   refine SW.seqK fun K2 hK2 => ?_
   refine SW.cond _ rfl (by simp) ?_ ?_
   case' refine_2 =>
    intro hb1
    first
    | (exfalso; simp at hb1; done)
    | (exfalso; simp at hb1; omega)
    | (
     have hk1 : k = l.length := by simp at hb1; omega
     subst hk1
     refine SW.exit ?_
     simp only [Ex.then, Ex.inBlock]
     try simp only [if_true, if_false, reduceIte]
     refine hK1 _ ?_
     refine SW.regionK fun K hK => ?_
     simp -implicitDefEqProofs
     repeat (refine And.intro (by clear hK; first | omega | (intros; simp_all; done) | (intros; grind)) ?_)
     refine hK _ ?_
     clear hK K
     refine SW.ret ?_
     simp [Ex.then, Ex.inBlock, -strN]
     all_goals first
       | (rw [List.take_of_length_le (by simp)]; exact ⟨IntS_strM _, rfl⟩)
       | fail)
   rotate_right
   case' _ =>
    intro hb1
    first
    | (exfalso; simp at hb1; done)
    | (exfalso; simp at hb1; omega)
    | (
     have hkl : k < l.length := by first | omega | (simp at hb1; omega)
     have hnl := needs_len p l k
     have hin3 : needs p l k = natI (needsN p l k) := by
       unfold needs
       rw [if_pos (by simp [inL]; omega)]
       rfl
     rw [hin3] at hnl
     rw [natI_len] at hnl
     have htk : List.take k (IntS (layers p l k)) = IntS (layers p l k) := List.take_of_length_le (by simp)
     have hly : layers p l (k + 1) = layers p l k ++ [layF (layers p l k) (needsN p l k)] := rfl
     refine SW.skip ?_
     refine hK2 _ ?_
     refine SW.seqK fun K3 hK3 => ?_
     refine SW.block ?_
     refine SW.regionK fun K hK => ?_
     simp -implicitDefEqProofs
     repeat (refine And.intro (by clear hK; first | omega | (intros; simp_all; done) | (intros; grind)) ?_)
     refine hK _ ?_
     clear hK K
     refine SW.regionK fun K hK => ?_
     simp -implicitDefEqProofs
     repeat (refine And.intro (by clear hK; first | omega | (intros; simp_all; done) | (intros; grind)) ?_)
     refine hK _ ?_
     clear hK K
     refine SW.seqK fun K4 hK4 => ?_
     refine SW.regionK fun K hK => ?_
     simp -implicitDefEqProofs [hin3, natI_len]
     repeat (refine And.intro (by clear hK; first | omega | (intros; simp_all; done) | (intros; grind)) ?_)
     first
       | refine CallQ.fzE (needs_s p l k h hl) (by simp) ?_
       | refine CallK.fzE (needs_s p l k h hl) (by simp) ?_
     simp -implicitDefEqProofs [hin3, natI_len]
     repeat (refine And.intro (by clear hK; first | omega | (intros; simp_all; done) | (intros; grind)) ?_)
     refine hK _ ?_
     clear hK K
     refine SW.block ?_
     refine SW.loop (α := Nat) (fun j => ⟨[(21, .int .i64 j), (20, .int .i64 (needsN p l k).length), (19, .fz (IntS (natI (needsN p l k)))), (7, .int .i64 (layF (layers p l k) (List.take j (needsN p l k)))), (6, .int .i64 k), (13, .int .i64 k), (12, .int .i64 l.length), (5, .sl 1 0 k), (1, .fz (DeedS l)), (2, .ptr 0 0 0)], [some ⟨4, [p.fr]⟩, some ⟨1, IntS (layers p l k)⟩]⟩) (fun j => j ≤ (needsN p l k).length) (fun j => (needsN p l k).length - j) (0) ?_ ?_ (fun j hx => ?_)
     case' refine_1 =>
      simp
     case' refine_2 =>
      exact Wk.cut (by simp) (by simp [subE, layF]) (by simp [cutH]) (by simp [lowE, lowN]) (by simp)
     case' refine_3 =>
      skip
      refine SW.regionK fun K hK => ?_
      simp -implicitDefEqProofs
      repeat (refine And.intro (by clear hK; first | omega | (intros; simp_all; done) | (intros; grind)) ?_)
      refine hK _ ?_
      clear hK K
      refine SW.seqK fun K5 hK5 => ?_
      refine SW.cond _ rfl (by simp) ?_ ?_
      case' refine_2 =>
       intro hb2
       first
       | (exfalso; simp at hb2; done)
       | (exfalso; simp at hb2; omega)
       | (
        have hj1 : j = (needsN p l k).length := by first | omega | (simp at hb2; omega)
        subst hj1
        refine SW.exit ?_
        simp only [Ex.then, Ex.inBlock]
        try simp only [if_true, if_false, reduceIte]
        refine hK4 _ ?_
        refine SW.regionE fun K hK => ?_
        simp -implicitDefEqProofs
        repeat (refine And.intro (by clear hK; first | omega | (intros; simp_all; done) | (intros; grind)) ?_)
        refine hK _ ?_
        clear hK K
        refine hK3 _ ?_
        refine SW.regionE fun K hK => ?_
        simp -implicitDefEqProofs
        repeat (refine And.intro (by clear hK; first | omega | (intros; simp_all; done) | (intros; grind)) ?_)
        refine hK _ ?_
        clear hK K
        try simp only [Ex.then, Ex.inBlock]
        refine ⟨k + 1, by omega, by omega, ?_⟩
        exact Wk.ren [0, 3] (by simp) (by simp) (by simp) (by simp) (by simp [renE, renN, wrap1 k (by omega)]) (by simp [renH, hly, IntS_snoc, htk]) (by simp [lowE, lowN]) (by simp))
      rotate_right
      case' _ =>
       intro hb2
       first
       | (exfalso; simp at hb2; done)
       | (exfalso; simp at hb2; omega)
       | (
        have hlty : j < (needsN p l k).length := by first | omega | (simp at hb2; omega)
        obtain ⟨y, hyk⟩ : ∃ q, (needsN p l k)[j]? = some q := ⟨_, List.getElem?_eq_getElem hlty⟩
        have hyI := natI_get hyk
        have hyk2 := (mem_needsN.1 (List.mem_of_getElem? hyk)).1
        obtain ⟨v, hv⟩ : ∃ q, (layers p l k)[y]? = some q := ⟨_, List.getElem?_eq_getElem (by rw [layers_len]; exact hyk2)⟩
        have hvE : ∀ q, (layers p l k)[y]'q = v := fun q => (List.getElem?_eq_some_iff.1 hv).2
        have hvb := layers_bd p l k v (List.mem_of_getElem? hv)
        have hgd := layers_getD hv
        have hst := layF_step (out := (layers p l k)) hyk
        rw [hgd] at hst
        have hw := wrapI (v + 1) (by omega) (by omega)
        refine SW.skip ?_
        refine hK5 _ ?_
        refine SW.seqK fun K6 hK6 => ?_
        refine SW.block ?_
        refine SW.regionK fun K hK => ?_
        simp -implicitDefEqProofs [hyI]
        repeat (refine And.intro (by clear hK; first | omega | (intros; simp_all; done) | (intros; grind)) ?_)
        refine hK _ ?_
        clear hK K
        refine SW.regionK fun K hK => ?_
        simp -implicitDefEqProofs [hv, hvE, hyk2, hw]
        repeat (refine And.intro (by clear hK; first | omega | (intros; simp_all; done) | (intros; grind)) ?_)
        refine hK _ ?_
        clear hK K
        refine SW.cond _ rfl (by simp) ?_ ?_
        case' refine_2 =>
         intro hb3
         first
         | (exfalso; simp at hb3; done)
         | (exfalso; simp at hb3; omega)
         | (
          have hmx : layF (layers p l k) (List.take (j + 1) (needsN p l k)) = layF (layers p l k) (List.take j (needsN p l k)) := by rw [hst]; simp at hb3; omega
          refine SW.skip ?_)
        rotate_right
        case' _ =>
         intro hb3
         first
         | (exfalso; simp at hb3; done)
         | (exfalso; simp at hb3; omega)
         | (
          have hmx : layF (layers p l k) (List.take (j + 1) (needsN p l k)) = v + 1 := by rw [hst]; simp at hb3; omega
          refine SW.regionE fun K hK => ?_
          simp -implicitDefEqProofs [hv, hvE, hyk2, hw]
          repeat (refine And.intro (by clear hK; first | omega | (intros; simp_all; done) | (intros; grind)) ?_)
          refine hK _ ?_
          clear hK K)
        all_goals (
         refine hK6 _ ?_
         refine SW.regionE fun K hK => ?_
         simp -implicitDefEqProofs
         repeat (refine And.intro (by clear hK; first | omega | (intros; simp_all; done) | (intros; grind)) ?_)
         refine hK _ ?_
         clear hK K
         try simp only [Ex.then, Ex.inBlock]
         refine ⟨j + 1, by omega, by omega, ?_⟩
         exact Wk.cut (by simp) (by simp [subE, wrap1 j (by omega), hmx]) (by simp [cutH]) (by simp [lowE, lowN]) (by simp))))
theorem layers_mid {p : Prog} {l : List Deed} {i y : Nat} {v : Int} {r : List Int} (h : (layers p l i)[y]? = some v) : (layers p l i ++ r)[y]? = some v := by
  have := (List.getElem?_eq_some_iff.1 h).1
  rw [List.getElem?_append_left this, h]
theorem layers_at {p : Prog} {l : List Deed} {i : Nat} {m : Int} {r : List Int} : (layers p l i ++ m :: r)[i]? = some m := by
  rw [List.getElem?_append_right (by simp)]; simp
theorem layers_set {p : Prog} {l : List Deed} {i : Nat} {m m' : Int} {r : List Int} : (IntS (layers p l i ++ m :: r)).set i [.int .i64 m'] = IntS (layers p l i ++ m' :: r) := by
  unfold IntS
  rw [List.map_append, List.set_append_right _ _ (by simp)]
  simp
theorem rep_IntS (n : Nat) : List.replicate n [AV.int .i64 0] = IntS (List.replicate n 0) := by simp [IntS]
theorem layF_filter {p : Prog} {l : List Deed} {out : List Int} {i j : Nat} : layF out ((List.range (j + 1)).filter fun x => mt p l x i) = if mt p l j i then max (layF out ((List.range j).filter fun x => mt p l x i)) (out.getD j 0 + 1) else layF out ((List.range j).filter fun x => mt p l x i) := by
  rw [filter_step]
  split
  · exact layF_snoc _ _ _
  · simp
set_option maxHeartbeats 1000000 in
theorem layers_i (p : Prog) (l : List Deed) (h : p.ok) (hl : l.length ≤ 1048576) : Fn Tryz.prog 24 [.agg p.fr, .fz (DeedS l)] (.own 1 (IntS (layers p l l.length))) := by
  refine Fn.intro Tryz.func24 (by decide) rfl (rs := [.tmp 4]) rfl Tryz.ntmps24 (by simp) ?_
  refine SW.regionK fun K hK => ?_
  simp -implicitDefEqProofs
  repeat (refine And.intro (by clear hK; first | omega | (intros; simp_all; done) | (intros; grind)) ?_)
  refine hK _ ?_
  clear hK K
  refine SW.regionK fun K hK => ?_
  simp -implicitDefEqProofs
  repeat (refine And.intro (by clear hK; first | omega | (intros; simp_all; done) | (intros; grind)) ?_)
  first
    | refine CallQ.fzE (touches_i p l h (by omega)) (by simp) ?_
    | refine CallK.fzE (touches_i p l h (by omega)) (by simp) ?_
  simp -implicitDefEqProofs
  repeat (refine And.intro (by clear hK; first | omega | (intros; simp_all; done) | (intros; grind)) ?_)
  refine hK _ ?_
  clear hK K
  refine SW.regionK fun K hK => ?_
  simp -implicitDefEqProofs
  repeat (refine And.intro (by clear hK; first | omega | (intros; simp_all; done) | (intros; grind)) ?_)
  refine hK _ ?_
  clear hK K
  refine SW.seqK fun K1 hK1 => ?_
  refine SW.regionK fun K hK => ?_
  simp -implicitDefEqProofs
  repeat (refine And.intro (by clear hK; first | omega | (intros; simp_all; done) | (intros; grind)) ?_)
  refine hK _ ?_
  clear hK K
  refine SW.block ?_
  refine SW.loop (α := Nat) (fun i => ⟨[(17, .int .i64 i), (16, .int .i64 l.length), (5, .fz (TchS (l.map (tch p)))), (6, .sl 0 0 l.length), (1, .fz (DeedS l))], [some ⟨1, IntS ((layers p l i) ++ List.replicate (l.length - i) 0)⟩]⟩) (fun i => i ≤ l.length) (fun i => l.length - i) (0) ?_ ?_ (fun i hx => ?_)
  case' refine_1 =>
   simp
  case' refine_2 =>
   exact Wk.ren [1] (by simp) (by simp) (by simp) (by simp) (by simp [renE, renN]) (by simp [renH, layers, rep_IntS]) (by simp [lowE, lowN]) (by simp)
  case' refine_3 =>
   skip
   refine SW.regionK fun K hK => ?_
   simp -implicitDefEqProofs
   repeat (refine And.intro (by clear hK; first | omega | (intros; simp_all; done) | (intros; grind)) ?_)
   refine hK _ ?_
   clear hK K
   refine SW.seqK fun K2 hK2 => ?_
   refine SW.cond _ rfl (by simp) ?_ ?_
   case' refine_2 =>
    intro hb1
    first
    | (exfalso; simp at hb1; done)
    | (exfalso; simp at hb1; omega)
    | (
     have hi1 : i = l.length := by simp at hb1; omega
     subst hi1
     refine SW.exit ?_
     simp only [Ex.then, Ex.inBlock]
     try simp only [if_true, if_false, reduceIte]
     refine hK1 _ ?_
     refine SW.regionK fun K hK => ?_
     simp -implicitDefEqProofs
     repeat (refine And.intro (by clear hK; first | omega | (intros; simp_all; done) | (intros; grind)) ?_)
     refine hK _ ?_
     clear hK K
     refine SW.ret ?_
     simp [Ex.then, Ex.inBlock, -strN]
     all_goals first
       | (rw [List.take_of_length_le (by simp)]; exact ⟨IntS_strM _, rfl⟩)
       | fail)
   rotate_right
   case' _ =>
    intro hb1
    first
    | (exfalso; simp at hb1; done)
    | (exfalso; simp at hb1; omega)
    | (
     have hil : i < l.length := by first | omega | (simp at hb1; omega)
     obtain ⟨y, hyk⟩ : ∃ q, l[i]? = some q := ⟨_, List.getElem?_eq_getElem hil⟩
     have hyE : ∀ q, l[i]'q = y := fun q => (List.getElem?_eq_some_iff.1 hyk).2
     obtain ⟨d, hd⟩ : ∃ d, l.length - i = d + 1 := ⟨l.length - i - 1, by omega⟩
     have hrep : List.replicate (l.length - i) (0 : Int) = 0 :: List.replicate d 0 := by rw [hd]; rfl
     have hd2 : l.length - (i + 1) = d := by omega
     refine SW.skip ?_
     refine hK2 _ ?_
     refine SW.seqK fun K3 hK3 => ?_
     refine SW.block ?_
     refine SW.regionK fun K hK => ?_
     simp -implicitDefEqProofs
     repeat (refine And.intro (by clear hK; first | omega | (intros; simp_all; done) | (intros; grind)) ?_)
     refine hK _ ?_
     clear hK K
     refine SW.regionK fun K hK => ?_
     simp -implicitDefEqProofs
     repeat (refine And.intro (by clear hK; first | omega | (intros; simp_all; done) | (intros; grind)) ?_)
     refine hK _ ?_
     clear hK K
     refine SW.block ?_
     refine SW.loop (α := Nat) (fun j => ⟨[(21, .int .i64 j), (20, .int .i64 i), (7, .int .i64 i), (17, .int .i64 i), (16, .int .i64 l.length), (5, .fz (TchS (l.map (tch p)))), (6, .sl 0 0 l.length), (1, .fz (DeedS l))], [some ⟨1, IntS ((layers p l i) ++ (layF (layers p l i) (List.filter (fun x => mt p l x i) (List.range j))) :: List.replicate d 0)⟩]⟩) (fun j => j ≤ i) (fun j => i - j) (0) ?_ ?_ (fun j hx => ?_)
     case' refine_1 =>
      simp
     case' refine_2 =>
      exact Wk.cut (by simp) (by simp [subE]) (by simp [cutH, hrep, layF]) (by simp [lowE, lowN]) (by simp)
     case' refine_3 =>
      skip
      refine SW.regionK fun K hK => ?_
      simp -implicitDefEqProofs
      repeat (refine And.intro (by clear hK; first | omega | (intros; simp_all; done) | (intros; grind)) ?_)
      refine hK _ ?_
      clear hK K
      refine SW.seqK fun K4 hK4 => ?_
      refine SW.cond _ rfl (by simp) ?_ ?_
      case' refine_2 =>
       intro hb2
       first
       | (exfalso; simp at hb2; done)
       | (exfalso; simp at hb2; omega)
       | (
        have hj1 : i = j := by first | omega | (simp at hb2; omega)
        subst hj1
        refine SW.exit ?_
        simp only [Ex.then, Ex.inBlock]
        try simp only [if_true, if_false, reduceIte]
        refine hK3 _ ?_
        refine SW.regionE fun K hK => ?_
        simp -implicitDefEqProofs
        repeat (refine And.intro (by clear hK; first | omega | (intros; simp_all; done) | (intros; grind)) ?_)
        refine hK _ ?_
        clear hK K
        try simp only [Ex.then, Ex.inBlock]
        refine ⟨i + 1, by omega, by omega, ?_⟩
        exact Wk.cut (by simp) (by simp [subE, wrap1 i (by omega)]) (by simp [cutH, layers, layNext_eq, needsN, hd2]) (by simp [lowE, lowN]) (by simp))
      rotate_right
      case' _ =>
       intro hb2
       first
       | (exfalso; simp at hb2; done)
       | (exfalso; simp at hb2; omega)
       | (
        have hji : j < i := by first | omega | (simp at hb2; omega)
        have hjl : j < l.length := by omega
        obtain ⟨x, hxk⟩ : ∃ q, l[j]? = some q := ⟨_, List.getElem?_eq_getElem hjl⟩
        have hxE : ∀ q, l[j]'q = x := fun q => (List.getElem?_eq_some_iff.1 hxk).2
        have hmt := mt_eq (p := p) hxk hyk
        have hst := layF_filter (p := p) (l := l) (out := (layers p l i)) (i := i) (j := j)
        rw [hmt] at hst
        refine SW.skip ?_
        refine hK4 _ ?_
        refine SW.seqK fun K5 hK5 => ?_
        refine SW.block ?_
        refine SW.regionK fun K hK => ?_
        simp -implicitDefEqProofs
        repeat (refine And.intro (by clear hK; first | omega | (intros; simp_all; done) | (intros; grind)) ?_)
        refine hK _ ?_
        clear hK K
        refine SW.drawK mixed [.q [(0, false), (1, false), (2, false), (3, false), (4, false), (5, false), (6, false), (7, false), (8, false)]] (by kernel_rfl) rfl fun K hK => ?_
        simp -implicitDefEqProofs [hxk, hyk, hjl, hil]
        repeat (refine And.intro (by clear hK; first | omega | (intros; simp_all; done) | (intros; grind)) ?_)
        refine CallQ.fzE (tmeet_i p x y) (by simp [hxE, hyE]) ?_
        simp -implicitDefEqProofs [hxk, hyk, hjl, hil]
        repeat (refine And.intro (by clear hK; first | omega | (intros; simp_all; done) | (intros; grind)) ?_)
        refine hK _ ?_
        clear hK K
        refine SW.cond _ rfl (by simp) ?_ ?_
        case' refine_2 =>
         intro hb3
         first
         | (exfalso; simp at hb3; done)
         | (exfalso; simp at hb3; omega)
         | (
          have hm : meet p x y = false := by simpa using hb3
          rw [hm] at hst
          simp only [Bool.false_eq_true, if_false] at hst
          refine SW.skip ?_)
        rotate_right
        case' _ =>
         intro hb3
         first
         | (exfalso; simp at hb3; done)
         | (exfalso; simp at hb3; omega)
         | (
          have hm : meet p x y = true := by simpa using hb3
          rw [hm] at hst
          simp only [if_true] at hst
          obtain ⟨v, hv⟩ : ∃ q, (layers p l i)[j]? = some q := ⟨_, List.getElem?_eq_getElem (by rw [layers_len]; exact hji)⟩
          have hvb := layers_bd p l i v (List.mem_of_getElem? hv)
          rw [layers_getD hv] at hst
          have hw := wrapI (v + 1) (by omega) (by omega)
          have hlv := layers_mid (r := (layF (layers p l i) (List.filter (fun x => mt p l x i) (List.range j))) :: List.replicate d 0) hv
          have hlm := layers_at (p := p) (l := l) (i := i) (m := (layF (layers p l i) (List.filter (fun x => mt p l x i) (List.range j)))) (r := List.replicate d 0)
          have hlvE : ∀ q, ((layers p l i) ++ (layF (layers p l i) (List.filter (fun x => mt p l x i) (List.range j))) :: List.replicate d 0)[j]'q = v := fun q => (List.getElem?_eq_some_iff.1 hlv).2
          have hlmE : ∀ q, ((layers p l i) ++ (layF (layers p l i) (List.filter (fun x => mt p l x i) (List.range j))) :: List.replicate d 0)[i]'q = (layF (layers p l i) (List.filter (fun x => mt p l x i) (List.range j))) := fun q => (List.getElem?_eq_some_iff.1 hlm).2
          have hmx : (if (layF (layers p l i) (List.filter (fun x => mt p l x i) (List.range j))) < v + 1 then v + 1 else (layF (layers p l i) (List.filter (fun x => mt p l x i) (List.range j)))) = layF (layers p l i) (List.filter (fun x => mt p l x i) (List.range (j + 1))) := by rw [hst]; split <;> omega
          have hll : ((layers p l i) ++ (layF (layers p l i) (List.filter (fun x => mt p l x i) (List.range j))) :: List.replicate d 0).length = l.length := by simp; omega
          refine SW.drawE mixed [.q [(0, false), (1, false), (2, false), (3, false), (4, false), (5, false), (6, false), (7, false), (8, false), (9, false), (10, false), (11, false), (12, false)], .b 13] (by kernel_rfl) rfl fun K hK => ?_
          simp -implicitDefEqProofs [hlv, hlm, hlvE, hlmE, hjl, hil, hw, splice]
          repeat (refine And.intro (by clear hK; first | omega | (intros; simp_all; done) | (intros; grind)) ?_)
          refine hK _ ?_
          clear hK K)
        all_goals (
         refine hK5 _ ?_
         refine SW.regionE fun K hK => ?_
         simp -implicitDefEqProofs
         repeat (refine And.intro (by clear hK; first | omega | (intros; simp_all; done) | (intros; grind)) ?_)
         refine hK _ ?_
         clear hK K
         try simp only [Ex.then, Ex.inBlock]
         refine ⟨j + 1, by omega, by omega, ?_⟩
         first
           | (have q : meet p x y = true := hm; exact Wk.cut (by simp) (by simp [subE, wrap1 j (by omega)]) (by simp [cutH, hmx, layers_set]) (by simp [lowE, lowN]) (by simp))
           | exact Wk.cut (by simp) (by simp [subE, wrap1 j (by omega)]) (by simp [cutH, hst]) (by simp [lowE, lowN]) (by simp)
           | fail)))
end HT
