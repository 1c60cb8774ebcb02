import Derived.Test.YteeefpifkepbpaaEHSO
import Derived.Test.YteeefpifkepbpaaEHSA
/-
  My own texts (road H): HSQ.
-/
set_option linter.unusedSimpArgs false
namespace HS
open Go Go.Proofs HK
theorem isNone_eqD {α : Type} (o : Option α) : o.isNone = !o.isSome := by cases o <;> rfl
def readL (b : List Int) : Nat → Nat → Int → Option (List Deed)
  | 0, i, _ => if i < b.length then none else some []
  | f + 1, i, last => if i < b.length then match readE b i last with
    | some (d, p) => (readL b f p d.g).map (d :: ·)
    | none => none
    else some []
def rdS : Option (List Deed) → AV
  | some l => .tup [.own 4 (DS l), .bool (decide (0 < l.length))]
  | none => .tup [.nil, .bool false]
theorem readL_end {b : List Int} {f i : Nat} {last : Int} (h : ¬ i < b.length) : readL b f i last = some [] := by
  cases f <;> rw [readL, if_neg h]
theorem readL_zero {b : List Int} {i : Nat} {last : Int} (h : i < b.length) : readL b 0 i last = none := by rw [readL, if_pos h]
theorem readL_bad {b : List Int} {f i : Nat} {last : Int} (h : i < b.length) (ho : readE b i last = none) : readL b f i last = none := by
  cases f
  · exact readL_zero h
  · rw [readL, if_pos h, ho]
theorem readL_step {b : List Int} {f i : Nat} {last : Int} {o : Option (Deed × Nat)} (h : i < b.length) (ho : readE b i last = o) (hs : o.isSome = true) : readL b (f + 1) i last = (readL b f (rdP o) (rdC o).g).map (rdC o :: ·) := by
  rw [readL, if_pos h, ho]
  cases o with
  | none => cases hs
  | some x => rfl
theorem readL_len {b : List Int} : ∀ {f i : Nat} {last : Int} {l : List Deed}, readL b f i last = some l → l.length ≤ f
  | 0, i, last, l, h => by
    rw [readL] at h; split at h
    · cases h
    · cases h; simp
  | f + 1, i, last, l, h => by
    rw [readL] at h; split at h
    · split at h
      · rename_i d p _
        cases hq : readL b f p d.g with
        | none => rw [hq] at h; cases h
        | some m =>
          rw [hq] at h; simp at h; subst h; have := readL_len hq
          simp; omega
      · cases h
    · cases h; simp
set_option maxHeartbeats 1000000 in
theorem readSome_impl (b : List Int) (hl : b.length ≤ 2 ^ 40) (hb : ∀ x ∈ b, isB x) : Fn Try.prog 43 [.fz (YS b)] (rdS (readL b 4 0 0)) := by
  refine Fn.intro Try.func43 (by decide) rfl (rs := [.tmp 2, .tmp 3]) rfl Try.ntmps43 (by simp) ?_; refine SW.rg fun K hK => ?_; simp -implicitDefEqProofs; repeat refine ⟨by omega, ?_⟩
  refine hK _ ?_; clear hK K; refine SW.rg fun K hK => ?_; simp -implicitDefEqProofs; repeat refine ⟨by omega, ?_⟩
  refine hK _ ?_; clear hK K; refine SW.rg fun K hK => ?_; simp -implicitDefEqProofs; repeat refine ⟨by omega, ?_⟩
  refine hK _ ?_; clear hK K; refine SW.seqK fun K1 hK1 => ?_; refine SW.rg fun K hK => ?_; simp -implicitDefEqProofs; repeat refine ⟨by omega, ?_⟩
  refine hK _ ?_; clear hK K; refine SW.block ?_
  refine SW.loop (α := Nat × Int × List Deed) (fun x => ⟨[(6, .int .i64 (x.1 : Nat)), (5, .int .i64 x.2.1), (4, .sl 0 0 x.2.2.length), (0, .fz (YS b))], [some ⟨4, DS x.2.2⟩]⟩) (fun x => x.2.2.length ≤ 4 ∧ readL b 4 0 0 = (readL b (4 - x.2.2.length) x.1 x.2.1).map (x.2.2 ++ ·)) (fun x => 5 - x.2.2.length) ((0, 0, [])) ?_ ?_ (fun x hx => ?_)
  case' refine_1 =>
   exact ⟨by simp, by simp⟩
  case' refine_2 =>
   exact Wk.cut (by simp) (by simp [subE]) (by simp [cutH]) (by simp [lowE, lowN]) (by simp)
  case' refine_3 =>
   skip
   refine SW.seqK fun K2 hK2 => ?_; refine SW.rg fun K hK => ?_; simp -implicitDefEqProofs; repeat refine ⟨by omega, ?_⟩
   refine hK _ ?_; clear hK K; refine SW.cond _ rfl (by simp) ?_ ?_
   case' refine_2 =>
    intro hb1; have hat : ¬ x.1 < b.length := by simp at hb1; omega
    have hrs : readL b 4 0 0 = some x.2.2 := by rw [hx.2, readL_end hat]; simp
    first
    | (exfalso; simp at hb1; done)
    | (exfalso; simp at hb1; omega)
    | (
     refine SW.exit ?_; simp only [Ex.then, Ex.ib]; try simp only [if_true, if_false, reduceIte]
     refine hK1 _ ?_; refine SW.rg fun K hK => ?_; simp -implicitDefEqProofs; repeat refine ⟨by omega, ?_⟩
     refine hK _ ?_; clear hK K; refine SW.ret ?_; simp [Ex.then, Ex.ib]
     first
       | (rw [hrn]; rfl)
       | (rw [hrs]; simp [rdS]; intro x hx y hy; obtain ⟨n, rfl⟩ := DS_int hx hy; rfl)
       | fail)
   rotate_right
   case' _ =>
    intro hb1; have hat : x.1 < b.length := by simp at hb1; omega
    first
    | (exfalso; simp at hb1; done)
    | (exfalso; simp at hb1; omega)
    | (
     refine SW.skip ?_; refine hK2 _ ?_; refine SW.block ?_
     generalize ho : readE b (x.1 : Int) x.2.1 = o
     all_goals (
      refine SW.rg fun K hK => ?_; simp -implicitDefEqProofs; iterate 2 (try refine ⟨by omega, ?_⟩)
      refine CallK.fz (out := .tup [.agg (rdC o).c, .int .i64 (rdP o), .bool o.isSome]) (by have h9 := readEvent_i b (x.1 : Int) x.2.1 hl hb; rw [ho] at h9; exact h9) ?_; simp -implicitDefEqProofs; repeat refine ⟨by omega, ?_⟩
      refine hK _ ?_; clear hK K; refine SW.seqK fun K3 hK3 => ?_; refine SW.rg fun K hK => ?_; simp -implicitDefEqProofs; repeat refine ⟨by omega, ?_⟩
      refine hK _ ?_; clear hK K; refine SW.cond _ rfl (by simp) ?_ ?_
      case' refine_2 =>
       intro hb2
       first
       | (exfalso; simp at hb2; done)
       | (exfalso; simp at hb2; omega)
       | (
        have hs : o.isSome = true := by (try simp only [isNone_eqD] at hb2); cases hs : o.isSome with | true => rfl | false => (rw [hs] at hb2; simp at hb2)
        have h4 : x.2.2.length < 4 := by (try simp only [isNone_eqD, hs] at hb2); simp [hs] at hb2; omega
        have hst := readL_step (f := 3 - x.2.2.length) hat ho hs
        refine SW.skip ?_; refine hK3 _ ?_; refine SW.rg fun K hK => ?_; simp -implicitDefEqProofs; repeat refine ⟨by omega, ?_⟩
        refine hK _ ?_; clear hK K; refine SW.rg fun K hK => ?_; simp -implicitDefEqProofs; repeat refine ⟨by omega, ?_⟩
        refine hK _ ?_; clear hK K; refine SW.regionE fun K hK => ?_; simp -implicitDefEqProofs; repeat refine ⟨by omega, ?_⟩
        refine hK _ ?_; clear hK K
        refine ⟨(rdP o, (rdC o).g, x.2.2 ++ [rdC o]), ⟨by simp only [List.length_append, List.length_cons, List.length_nil]; omega, ?_⟩, by simp only [List.length_append, List.length_cons, List.length_nil]; omega, ?_⟩
        · simp only [List.length_append, List.length_cons, List.length_nil]
          rw [hx.2, show 4 - x.2.2.length = (3 - x.2.2.length) + 1 by omega, hst, show 4 - (x.2.2.length + (0 + 1)) = 3 - x.2.2.length by omega]; simp [Function.comp_def]
        exact Wk.ren [3] (by simp) (by simp) (by simp) (by simp) (by simp [renE]) (by simp [renH, DS_app, DS]) (by simp [lowE, lowN]) (by simp))
      rotate_right
      case' _ =>
       intro hb2
       first
       | (exfalso; simp at hb2; done)
       | (exfalso; simp at hb2; omega)
       | (
        have hrn : readL b 4 0 0 = none := by
          rw [hx.2]
          cases hs : o.isSome with
          | false => rw [readL_bad hat (by rw [ho]; cases o with | none => rfl | some y => cases hs)]; rfl
          | true =>
            try simp only [isNone_eqD, hs] at hb2
            have h4 : 4 - x.2.2.length = 0 := by simp at hb2; omega
            rw [h4, readL_zero hat]; rfl
        refine SW.rg fun K hK => ?_; simp -implicitDefEqProofs; repeat refine ⟨by omega, ?_⟩
        refine hK _ ?_; clear hK K; refine SW.ret ?_; simp [Ex.then, Ex.ib]
        first
          | (rw [hrn]; rfl)
          | (rw [hrs]; simp [rdS]; intro x hx y hy; obtain ⟨n, rfl⟩ := DS_int hx hy; rfl)
          | fail)))
end HS
