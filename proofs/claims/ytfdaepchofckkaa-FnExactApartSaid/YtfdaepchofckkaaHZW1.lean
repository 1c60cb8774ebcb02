import Derived.Test.YtfdaepchofckkaaHZW0
/-
  My own texts (road H): HZW1.
-/
set_option linter.unusedSimpArgs false
set_option linter.unusedVariables false
namespace HT
open Go Go.Proofs HK
set_option maxHeartbeats 1000000 in
theorem tmeet1y (p : Prog) (a b : Deed) (ha : evOk p a = false) (hg : (a.g == b.g) = true) : Fn Try.prog 45 [.agg (tch p a).cl, .agg (tch p b).cl] (.bool (meet p a b)) := by
  refine Fn.intro Try.func45 (by decide) rfl (rs := [.tmp 4]) rfl Try.ntmps45 (by simp) ?_
  have la := msk_lt p a
  have lb := msk_lt p b
  refine SW.regionK fun K hK => ?_
  simp -implicitDefEqProofs [tch, ha, hg]
  repeat (refine And.intro (by clear hK; first | omega | (intros; simp_all; done) | (intros; grind)) ?_)
  refine hK _ ?_
  clear hK K
  refine SW.regionK fun K hK => ?_
  simp -implicitDefEqProofs [ha, hg, msk_and]
  repeat (refine And.intro (by clear hK; first | omega | (intros; simp_all; done) | (intros; grind)) ?_)
  refine hK _ ?_
  clear hK K
  refine SW.ret ?_
  simp [Ex.then, Ex.inBlock]
  all_goals (try simp at hg)
  all_goals first
    | (simp [meet, ha, hg]; done)
    | (rw [cast_ne, msk_meet ha hb]; simp [meet, ha, hg]; done)
    | fail
set_option maxHeartbeats 1000000 in
theorem tmeet1n (p : Prog) (a b : Deed) (ha : evOk p a = false) (hg : (a.g == b.g) = false) : Fn Try.prog 45 [.agg (tch p a).cl, .agg (tch p b).cl] (.bool (meet p a b)) := by
  refine Fn.intro Try.func45 (by decide) rfl (rs := [.tmp 4]) rfl Try.ntmps45 (by simp) ?_
  have la := msk_lt p a
  have lb := msk_lt p b
  refine SW.regionK fun K hK => ?_
  simp -implicitDefEqProofs [tch, ha, hg]
  repeat (refine And.intro (by clear hK; first | omega | (intros; simp_all; done) | (intros; grind)) ?_)
  refine hK _ ?_
  clear hK K
  refine SW.regionK fun K hK => ?_
  simp -implicitDefEqProofs [ha, hg, msk_and]
  repeat (refine And.intro (by clear hK; first | omega | (intros; simp_all; done) | (intros; grind)) ?_)
  refine hK _ ?_
  clear hK K
  refine SW.ret ?_
  simp [Ex.then, Ex.inBlock]
  all_goals (try simp at hg)
  all_goals first
    | (simp [meet, ha, hg]; done)
    | (rw [cast_ne, msk_meet ha hb]; simp [meet, ha, hg]; done)
    | fail
set_option maxHeartbeats 1000000 in
theorem tmeet2y (p : Prog) (a b : Deed) (ha : evOk p a = true) (hb : evOk p b = false) (hg : (a.g == b.g) = true) : Fn Try.prog 45 [.agg (tch p a).cl, .agg (tch p b).cl] (.bool (meet p a b)) := by
  refine Fn.intro Try.func45 (by decide) rfl (rs := [.tmp 4]) rfl Try.ntmps45 (by simp) ?_
  have la := msk_lt p a
  have lb := msk_lt p b
  refine SW.regionK fun K hK => ?_
  simp -implicitDefEqProofs [tch, ha, hb, hg]
  repeat (refine And.intro (by clear hK; first | omega | (intros; simp_all; done) | (intros; grind)) ?_)
  refine hK _ ?_
  clear hK K
  refine SW.regionK fun K hK => ?_
  simp -implicitDefEqProofs [ha, hb, hg, msk_and]
  repeat (refine And.intro (by clear hK; first | omega | (intros; simp_all; done) | (intros; grind)) ?_)
  refine hK _ ?_
  clear hK K
  refine SW.ret ?_
  simp [Ex.then, Ex.inBlock]
  all_goals (try simp at hg)
  all_goals first
    | (simp [meet, ha, hb, hg]; done)
    | (rw [cast_ne, msk_meet ha hb]; simp [meet, ha, hb, hg]; done)
    | fail
set_option maxHeartbeats 1000000 in
theorem tmeet2n (p : Prog) (a b : Deed) (ha : evOk p a = true) (hb : evOk p b = false) (hg : (a.g == b.g) = false) : Fn Try.prog 45 [.agg (tch p a).cl, .agg (tch p b).cl] (.bool (meet p a b)) := by
  refine Fn.intro Try.func45 (by decide) rfl (rs := [.tmp 4]) rfl Try.ntmps45 (by simp) ?_
  have la := msk_lt p a
  have lb := msk_lt p b
  refine SW.regionK fun K hK => ?_
  simp -implicitDefEqProofs [tch, ha, hb, hg]
  repeat (refine And.intro (by clear hK; first | omega | (intros; simp_all; done) | (intros; grind)) ?_)
  refine hK _ ?_
  clear hK K
  refine SW.regionK fun K hK => ?_
  simp -implicitDefEqProofs [ha, hb, hg, msk_and]
  repeat (refine And.intro (by clear hK; first | omega | (intros; simp_all; done) | (intros; grind)) ?_)
  refine hK _ ?_
  clear hK K
  refine SW.ret ?_
  simp [Ex.then, Ex.inBlock]
  all_goals (try simp at hg)
  all_goals first
    | (simp [meet, ha, hb, hg]; done)
    | (rw [cast_ne, msk_meet ha hb]; simp [meet, ha, hb, hg]; done)
    | fail
set_option maxHeartbeats 1000000 in
theorem tmeet3 (p : Prog) (a b : Deed) (ha : evOk p a = true) (hb : evOk p b = true) (hg : (a.g == b.g) = true) : Fn Try.prog 45 [.agg (tch p a).cl, .agg (tch p b).cl] (.bool (meet p a b)) := by
  refine Fn.intro Try.func45 (by decide) rfl (rs := [.tmp 4]) rfl Try.ntmps45 (by simp) ?_
  have la := msk_lt p a
  have lb := msk_lt p b
  refine SW.regionK fun K hK => ?_
  simp -implicitDefEqProofs [tch, ha, hb, hg]
  repeat (refine And.intro (by clear hK; first | omega | (intros; simp_all; done) | (intros; grind)) ?_)
  refine hK _ ?_
  clear hK K
  refine SW.regionK fun K hK => ?_
  simp -implicitDefEqProofs [ha, hb, hg, msk_and]
  repeat (refine And.intro (by clear hK; first | omega | (intros; simp_all; done) | (intros; grind)) ?_)
  refine hK _ ?_
  clear hK K
  refine SW.ret ?_
  simp [Ex.then, Ex.inBlock]
  all_goals (try simp at hg)
  all_goals first
    | (simp [meet, ha, hb, hg]; done)
    | (rw [cast_ne, msk_meet ha hb]; simp [meet, ha, hb, hg]; done)
    | fail
set_option maxHeartbeats 1000000 in
theorem tmeet4 (p : Prog) (a b : Deed) (ha : evOk p a = true) (hb : evOk p b = true) (hg : (a.g == b.g) = false) : Fn Try.prog 45 [.agg (tch p a).cl, .agg (tch p b).cl] (.bool (meet p a b)) := by
  refine Fn.intro Try.func45 (by decide) rfl (rs := [.tmp 4]) rfl Try.ntmps45 (by simp) ?_
  have la := msk_lt p a
  have lb := msk_lt p b
  refine SW.regionK fun K hK => ?_
  simp -implicitDefEqProofs [tch, ha, hb, hg]
  repeat (refine And.intro (by clear hK; first | omega | (intros; simp_all; done) | (intros; grind)) ?_)
  refine hK _ ?_
  clear hK K
  refine SW.regionK fun K hK => ?_
  simp -implicitDefEqProofs [ha, hb, hg, msk_and]
  repeat (refine And.intro (by clear hK; first | omega | (intros; simp_all; done) | (intros; grind)) ?_)
  refine hK _ ?_
  clear hK K
  refine SW.ret ?_
  simp [Ex.then, Ex.inBlock]
  all_goals (try simp at hg)
  all_goals first
    | (simp [meet, ha, hb, hg]; done)
    | (rw [cast_ne, msk_meet ha hb]; simp [meet, ha, hb, hg]; done)
    | fail
theorem tmeet_i (p : Prog) (a b : Deed) : Fn Try.prog 45 [.agg (tch p a).cl, .agg (tch p b).cl] (.bool (meet p a b)) := by
  cases hg : a.g == b.g with
  | true =>
    cases ha : evOk p a with
    | false => exact tmeet1y p a b ha hg
    | true =>
      cases hb : evOk p b with
      | false => exact tmeet2y p a b ha hb hg
      | true => exact tmeet3 p a b ha hb hg
  | false =>
    cases ha : evOk p a with
    | false => exact tmeet1n p a b ha hg
    | true =>
      cases hb : evOk p b with
      | false => exact tmeet2n p a b ha hb hg
      | true => exact tmeet4 p a b ha hb hg
end HT
