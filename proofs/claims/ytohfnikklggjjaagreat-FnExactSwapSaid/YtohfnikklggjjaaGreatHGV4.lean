import Derived.Test.YtohfnikklggjjaaGreatHGV3
/-
  My own texts (road H): HGV4.
-/
set_option linter.unusedSimpArgs false
set_option linter.unusedVariables false
namespace HT
open Go Go.Proofs HK
theorem into_len (n : Int) : ∀ (l : List Int), (into n l).length ≤ l.length + 1
  | [] => by simp [into]
  | x :: r => by
    have := into_len n r
    unfold into; split
    · split <;> simp
    · simp; omega
def IS (n : Int) (l : List Int) (k : Nat) (d : Bool) (o : List Int) : Prop := o ++ (if d then l.drop k else into n (l.drop k)) = into n l
theorem IS.len {n : Int} {l : List Int} {k : Nat} {d : Bool} {o : List Int} (h : IS n l k d o) : o.length ≤ l.length + 1 := by
  have h1 := congrArg List.length h
  have h2 := into_len n l
  rw [List.length_append] at h1; omega
theorem IS.old {n x : Int} {l : List Int} {k : Nat} {o : List Int} (h : IS n l k true o) (hx : l[k]? = some x) : IS n l (k + 1) true (o ++ [x]) := by
  obtain ⟨hlt, rfl⟩ := List.getElem?_eq_some_iff.1 hx; unfold IS at h ⊢; rw [List.drop_eq_getElem_cons hlt] at h
  simpa using h
theorem IS.eq {n x : Int} {l : List Int} {k : Nat} {o : List Int} (h : IS n l k false o) (hx : l[k]? = some x) (e : n = x) : IS n l (k + 1) true (o ++ [n]) := by
  obtain ⟨hlt, rfl⟩ := List.getElem?_eq_some_iff.1 hx; unfold IS at h ⊢; rw [List.drop_eq_getElem_cons hlt] at h; subst e
  simpa [into] using h
theorem IS.here {n x : Int} {l : List Int} {k : Nat} {o : List Int} (h : IS n l k false o) (hx : l[k]? = some x) (h1 : n ≤ x) (e : ¬ n = x) : IS n l (k + 1) true (o ++ [n] ++ [x]) := by
  obtain ⟨hlt, rfl⟩ := List.getElem?_eq_some_iff.1 hx; unfold IS at h ⊢; rw [List.drop_eq_getElem_cons hlt] at h
  simpa [into, h1, e] using h
theorem IS.past {n x : Int} {l : List Int} {k : Nat} {o : List Int} (h : IS n l k false o) (hx : l[k]? = some x) (h1 : ¬ n ≤ x) : IS n l (k + 1) false (o ++ [x]) := by
  obtain ⟨hlt, rfl⟩ := List.getElem?_eq_some_iff.1 hx; unfold IS at h ⊢; rw [List.drop_eq_getElem_cons hlt] at h
  simpa [into, h1] using h
theorem IS.els {n x : Int} {l : List Int} {k : Nat} {d : Bool} {o : List Int} (h : IS n l k d o) (hx : l[k]? = some x) (h1 : d = false → ¬ n ≤ x) : IS n l (k + 1) d (o ++ [x]) := by
  cases d with
  | false => exact h.past hx (h1 rfl)
  | true => exact h.old hx
theorem IntS_one (o : List Int) (n : Int) : List.take (o.length + 1) (IntS o ++ [[AV.int .i64 n]]) = IntS (o ++ [n]) := by
  rw [List.take_of_length_le (by simp), IntS_app]; rfl
theorem IntS_snoc (o : List Int) (n : Int) : IntS o ++ [[AV.int .i64 n]] = IntS (o ++ [n]) := by rw [IntS_app]; rfl
theorem csStep_len (b : Bool) (o : List Int) (x : Case) : (csStep b o x).length ≤ o.length + 1 := by
  unfold csStep; split
  · exact into_len _ _
  · omega
theorem csF_len (b : Bool) : ∀ (l : List Case) (o : List Int), (l.foldl (csStep b) o).length ≤ o.length + l.length
  | [], o => by simp
  | x :: r, o => by
    have h1 := csF_len b r (csStep b o x)
    have h2 := csStep_len b o x
    rw [List.foldl_cons, List.length_cons]; omega
theorem kinF_len (ch : Int) : ∀ (l : List Select) (o : List Int), (∀ s ∈ l, s.cases.length ≤ 4) → (l.foldl (kinStep ch) o).length ≤ o.length + 4 * l.length
  | [], o, _ => by simp
  | s :: r, o, h => by
    have h1 := kinF_len ch r (kinStep ch o s) (fun x hx => h x (List.mem_cons_of_mem _ hx))
    have h2 := csF_len (hereC ch s.cases) s.cases o
    have h3 := h s (by simp)
    rw [List.foldl_cons, List.length_cons]; unfold kinStep at h1 ⊢; omega
theorem kinA_len (ch : Int) : ∀ (l : List Select), (∀ s ∈ l, s.cases.length ≤ 4) → (kinA l ch).length ≤ 1 + 4 * l.length
  | [], _ => by simp [kinA]
  | s :: r, h => by
    have h1 := kinA_len ch r (fun x hx => h x (List.mem_cons_of_mem _ hx))
    have h2 := chans_len s.cases
    have h3 := h s (by simp)
    simp only [kinA, List.flatMap_cons, List.length_append, List.length_cons] at h1 ⊢; split <;> (try simp only [List.length_nil]) <;> omega
theorem sel4 {p : Prog} (hp : progOk p = true) : ∀ s ∈ p.sels, s.cases.length ≤ 4 := by
  intro s hs; simp only [progOk, Bool.and_eq_true, List.all_eq_true] at hp; have h := hp.1.2 s hs
  rw [selPOk_els] at h; simp at h; omega
theorem kin_len {p : Prog} {ch : Int} (hp : progOk p = true) : (kin p ch).length ≤ 1 + 4 * p.sels.length := by
  unfold kin; split
  · exact Nat.le_trans (rising_len _) (kinA_len ch _ (sel4 hp))
  · simp
theorem IntS_strM (l : List Int) : ∀ x ∈ IntS l, ∀ y ∈ x, strN 4 y = true := fun x hx y hy => by
  obtain ⟨d, _, rfl⟩ := List.mem_map.1 hx; simp at hy; subst hy; rfl
set_option maxHeartbeats 1000000 in
theorem into_s (n : Int) (l : List Int) (hl : l.length ≤ 2 ^ 30) : Fn Tryz.prog 73 [.fz (IntS l), .int .i64 n] (.own 1 (IntS (into n l))) := by
  refine Fn.intro Tryz.func73 (by decide) rfl (rs := [.tmp 4]) rfl Tryz.ntmps73 (by simp) ?_; refine SW.rg fun K hK => ?_; simp -implicitDefEqProofs
  repeat (refine And.intro (by clear hK; first | omega | (intros; simp_all; done) | (intros; grind)) ?_)
  refine hK _ ?_; clear hK K; refine SW.rg fun K hK => ?_; simp -implicitDefEqProofs; repeat (refine And.intro (by clear hK; first | omega | (intros; simp_all; done) | (intros; grind)) ?_)
  refine hK _ ?_; clear hK K; refine SW.rg fun K hK => ?_; simp -implicitDefEqProofs; repeat (refine And.intro (by clear hK; first | omega | (intros; simp_all; done) | (intros; grind)) ?_)
  refine hK _ ?_; clear hK K; refine SW.seqK fun K1 hK1 => ?_; refine SW.rg fun K hK => ?_; simp -implicitDefEqProofs; repeat (refine And.intro (by clear hK; first | omega | (intros; simp_all; done) | (intros; grind)) ?_)
  refine hK _ ?_; clear hK K; refine SW.block ?_
  refine SW.loop (α := Nat × Bool × List Int) (fun z => ⟨[(12, .int .i64 (z.1 : Nat)), (11, .int .i64 l.length), (10, .fz (IntS l)), (6, .bool z.2.1), (5, .sl 0 0 z.2.2.length), (1, .int .i64 n)], [some ⟨1, IntS z.2.2⟩]⟩) (fun z => z.1 ≤ l.length ∧ IS n l z.1 z.2.1 z.2.2) (fun z => l.length - z.1) ((0, false, [])) ?_ ?_ (fun z hx => ?_)
  case' refine_1 =>
   exact ⟨by simp, by simp [IS]⟩
  case' refine_2 =>
   exact Wk.ren [0] (by simp) (by simp) (by simp) (by simp) (by simp [renE, renN]) (by simp [renH]) (by simp [lowE, lowN]) (by simp)
  case' refine_3 =>
   obtain ⟨k, d, o⟩ := z; obtain ⟨hk0, hI⟩ := hx; simp only [] at hI hk0 ⊢; have hle := hI.len
   refine SW.rg fun K hK => ?_; simp -implicitDefEqProofs; repeat (refine And.intro (by clear hK; first | omega | (intros; simp_all; done) | (intros; grind)) ?_)
   refine hK _ ?_; clear hK K; refine SW.seqK fun K2 hK2 => ?_; refine SW.cond _ rfl (by simp) ?_ ?_
   case' refine_2 =>
    intro hb1
    first
    | (exfalso; simp at hb1; done)
    | (exfalso; simp at hb1; omega)
    | (
     have hk1 : k = l.length := by simp at hb1; omega
     subst hk1; refine SW.exit ?_; simp only [Ex.then, Ex.ib]; try simp only [if_true, if_false, reduceIte]
     refine hK1 _ ?_; refine SW.seqK fun K3 hK3 => ?_; refine SW.rg fun K hK => ?_; simp -implicitDefEqProofs; repeat (refine And.intro (by clear hK; first | omega | (intros; simp_all; done) | (intros; grind)) ?_)
     refine hK _ ?_; clear hK K; refine SW.cond _ rfl (by simp) ?_ ?_
     case' refine_2 =>
      intro hb2
      first
      | (exfalso; simp at hb2; done)
      | (exfalso; simp at hb2; omega)
      | (
       have hd : d = true := by simpa using hb2
       subst hd; have hend : o = into n l := by simpa [IS] using hI
       refine SW.skip ?_)
     rotate_right
     case' _ =>
      intro hb2
      first
      | (exfalso; simp at hb2; done)
      | (exfalso; simp at hb2; omega)
      | (
       have hd : d = false := by simpa using hb2
       subst hd; have hend : o ++ [n] = into n l := by simpa [IS, into] using hI
       refine SW.regionE fun K hK => ?_; simp -implicitDefEqProofs; repeat (refine And.intro (by clear hK; first | omega | (intros; simp_all; done) | (intros; grind)) ?_)
       refine hK _ ?_
       clear hK K)
     all_goals (
      refine hK3 _ ?_; refine SW.rg fun K hK => ?_; simp -implicitDefEqProofs; repeat (refine And.intro (by clear hK; first | omega | (intros; simp_all; done) | (intros; grind)) ?_)
      refine hK _ ?_; clear hK K; refine SW.ret ?_; simp [Ex.then, Ex.ib, -strN]
      all_goals first
        | (rw [← hend, IntS_one]; exact ⟨IntS_strM _, rfl⟩)
        | (rw [← hend])))
   rotate_right
   case' _ =>
    intro hb1
    first
    | (exfalso; simp at hb1; done)
    | (exfalso; simp at hb1; omega)
    | (
     have hltx : k < l.length := by first | omega | (simp at hb1; omega)
     obtain ⟨x, hxk⟩ : ∃ q, l[k]? = some q := ⟨_, List.getElem?_eq_getElem hltx⟩
     refine SW.skip ?_; refine hK2 _ ?_; refine SW.seqK fun K4 hK4 => ?_; refine SW.block ?_; refine SW.rg fun K hK => ?_; simp -implicitDefEqProofs [hxk]
     repeat (refine And.intro (by clear hK; first | omega | (intros; simp_all; done) | (intros; grind)) ?_)
     refine hK _ ?_; clear hK K; refine SW.seqK fun K5 hK5 => ?_; refine SW.rg fun K hK => ?_; simp -implicitDefEqProofs; repeat (refine And.intro (by clear hK; first | omega | (intros; simp_all; done) | (intros; grind)) ?_)
     refine hK _ ?_; clear hK K; refine SW.cond _ rfl (by simp) ?_ ?_
     case' refine_2 =>
      intro hb3
      first
      | (exfalso; simp at hb3; done)
      | (exfalso; simp at hb3; omega)
      | (
       have hd : d = false → ¬ n ≤ x := by simpa using hb3
       have hn := hI.els hxk hd
       refine SW.skip ?_)
     rotate_right
     case' _ =>
      intro hb3
      first
      | (exfalso; simp at hb3; done)
      | (exfalso; simp at hb3; omega)
      | (
       have hd : d = false ∧ n ≤ x := by simpa using hb3
       obtain ⟨rfl, hnx⟩ := hd; refine SW.rg fun K hK => ?_; simp -implicitDefEqProofs; repeat (refine And.intro (by clear hK; first | omega | (intros; simp_all; done) | (intros; grind)) ?_)
       refine hK _ ?_; clear hK K; refine SW.rg fun K hK => ?_; simp -implicitDefEqProofs; repeat (refine And.intro (by clear hK; first | omega | (intros; simp_all; done) | (intros; grind)) ?_)
       refine hK _ ?_; clear hK K; refine SW.rg fun K hK => ?_; simp -implicitDefEqProofs; repeat (refine And.intro (by clear hK; first | omega | (intros; simp_all; done) | (intros; grind)) ?_)
       refine hK _ ?_; clear hK K; refine SW.cond _ rfl (by simp) ?_ ?_
       case' refine_2 =>
        intro hb4
        first
        | (exfalso; simp at hb4; done)
        | (exfalso; simp at hb4; omega)
        | (
         have he : ¬ n = x := by simpa using hb4
         have hn := hI.here hxk hnx he
         refine SW.skip ?_)
       rotate_right
       case' _ =>
        intro hb4
        first
        | (exfalso; simp at hb4; done)
        | (exfalso; simp at hb4; omega)
        | (
         have he : n = x := by simpa using hb4
         have hn := hI.eq hxk he
         refine SW.exit ?_; simp only [Ex.then, Ex.ib]
         try simp only [if_true, if_false, reduceIte]))
     all_goals first
      | (
       refine hK5 _ ?_; refine SW.regionE fun K hK => ?_; simp -implicitDefEqProofs; repeat (refine And.intro (by clear hK; first | omega | (intros; simp_all; done) | (intros; grind)) ?_)
       refine hK _ ?_
       clear hK K)
      | skip
     all_goals (
      refine hK4 _ ?_; refine SW.regionE fun K hK => ?_; simp -implicitDefEqProofs; repeat (refine And.intro (by clear hK; first | omega | (intros; simp_all; done) | (intros; grind)) ?_)
      refine hK _ ?_; clear hK K; refine ⟨(k + 1, _, _), ⟨by simp only []; omega, hn⟩, by simp only []; omega, ?_⟩
      first
        | (have q : ¬ n = x := he; exact Wk.ren [4] (by simp) (by simp) (by simp) (by simp) (by simp [renE, renN, wrap1 k (by omega)]) (by simp [renH, IntS_one, IntS_app]; try rfl) (by simp [lowE, lowN]) (by simp))
        | exact Wk.ren [2] (by simp) (by simp) (by simp) (by simp) (by simp [renE, renN, wrap1 k (by omega)]) (by simp [renH, IntS_one, IntS_app]; try rfl) (by simp [lowE, lowN]) (by simp)))
end HT
