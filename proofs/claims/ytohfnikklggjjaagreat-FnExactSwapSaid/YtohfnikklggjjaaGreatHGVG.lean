import Derived.Test.YtohfnikklggjjaaGreatHGVF
/-
  My own texts (road H): HGVG.
-/
set_option linter.unusedSimpArgs false
set_option linter.unusedVariables false
namespace HT
open Go Go.Proofs HK
set_option maxHeartbeats 1000000 in
theorem meet_i1 (p : Prog) (a b : Deed) (h : p.ok) (ha : evOk p a = false) : Fn Tryz.prog 23 [.agg p.fr, .agg a.cl, .agg b.cl] (.bool (meet p a b)) := by
  refine Fn.intro Tryz.func23 (by decide) rfl (rs := [.tmp 6]) rfl Tryz.ntmps23 (by simp) ?_; refine SW.rg fun K hK => ?_; simp -implicitDefEqProofs
  repeat (refine And.intro (by clear hK; first | omega | (intros; simp_all; done) | (intros; grind)) ?_)
  refine hK _ ?_; clear hK K; refine SW.seqK fun K1 hK1 => ?_; refine SW.rg fun K hK => ?_; simp -implicitDefEqProofs [ha]; repeat (refine And.intro (by clear hK; first | omega | (intros; simp_all; done) | (intros; grind)) ?_)
  first
    | refine CallQ.fzE (evOk_i p a h) (by simp) ?_
    | refine CallK.fzE (evOk_i p a h) (by simp) ?_
  simp -implicitDefEqProofs [ha]; repeat (refine And.intro (by clear hK; first | omega | (intros; simp_all; done) | (intros; grind)) ?_)
  refine ⟨.undef, (fun hgg => by cases hgg), ?_⟩; simp -implicitDefEqProofs [ha]; repeat (refine And.intro (by clear hK; first | omega | (intros; simp_all; done) | (intros; grind)) ?_)
  refine hK _ ?_; clear hK K; refine SW.cond _ rfl (by simp) ?_ ?_
  case' refine_2 =>
   intro hb1
   first
   | (exfalso; simp at hb1; done)
   | (exfalso; simp at hb1; omega)
   | (
    refine SW.skip ?_; refine hK1 _ ?_; refine SW.rg fun K hK => ?_; simp -implicitDefEqProofs; repeat (refine And.intro (by clear hK; first | omega | (intros; simp_all; done) | (intros; grind)) ?_)
    fail
    simp -implicitDefEqProofs; repeat (refine And.intro (by clear hK; first | omega | (intros; simp_all; done) | (intros; grind)) ?_)
    refine hK _ ?_; clear hK K; refine SW.rg fun K hK => ?_; simp -implicitDefEqProofs [ha]; repeat (refine And.intro (by clear hK; first | omega | (intros; simp_all; done) | (intros; grind)) ?_)
    fail
    simp -implicitDefEqProofs [ha]; repeat (refine And.intro (by clear hK; first | omega | (intros; simp_all; done) | (intros; grind)) ?_)
    fail
    simp -implicitDefEqProofs [ha]; repeat (refine And.intro (by clear hK; first | omega | (intros; simp_all; done) | (intros; grind)) ?_)
    refine hK _ ?_; clear hK K; refine SW.ret ?_; simp [Ex.then, Ex.ib]
    all_goals (try simp at hg)
    all_goals first
      | (simp [meet, ha]; done)
      | fail)
  rotate_right
  case' _ =>
   intro hb1
   first
   | (exfalso; simp at hb1; done)
   | (exfalso; simp at hb1; omega)
   | (
    refine SW.rg fun K hK => ?_; simp -implicitDefEqProofs; repeat (refine And.intro (by clear hK; first | omega | (intros; simp_all; done) | (intros; grind)) ?_)
    refine hK _ ?_; clear hK K; refine SW.ret ?_; simp [Ex.then, Ex.ib]
    all_goals (try simp at hg)
    all_goals first
      | (simp [meet, ha]; done)
      | fail)
set_option maxHeartbeats 1000000 in
theorem meet_i2 (p : Prog) (a b : Deed) (h : p.ok) (ha : evOk p a = true) (hb : evOk p b = false) : Fn Tryz.prog 23 [.agg p.fr, .agg a.cl, .agg b.cl] (.bool (meet p a b)) := by
  refine Fn.intro Tryz.func23 (by decide) rfl (rs := [.tmp 6]) rfl Tryz.ntmps23 (by simp) ?_; refine SW.rg fun K hK => ?_; simp -implicitDefEqProofs
  repeat (refine And.intro (by clear hK; first | omega | (intros; simp_all; done) | (intros; grind)) ?_)
  refine hK _ ?_; clear hK K; refine SW.seqK fun K1 hK1 => ?_; refine SW.rg fun K hK => ?_; simp -implicitDefEqProofs [ha, hb]; repeat (refine And.intro (by clear hK; first | omega | (intros; simp_all; done) | (intros; grind)) ?_)
  first
    | refine CallQ.fzE (evOk_i p a h) (by simp) ?_
    | refine CallK.fzE (evOk_i p a h) (by simp) ?_
  simp -implicitDefEqProofs [ha, hb]; repeat (refine And.intro (by clear hK; first | omega | (intros; simp_all; done) | (intros; grind)) ?_)
  first
    | refine CallQG.fzE (by simp) (fun _ => evOk_i p b h) (by simp) ?_
    | refine CallG.fzE (by simp) (fun _ => evOk_i p b h) (by simp) ?_
    | refine CallQ.fzE (evOk_i p b h) (by simp) ?_
    | refine CallK.fzE (evOk_i p b h) (by simp) ?_
  simp -implicitDefEqProofs [ha, hb]; repeat (refine And.intro (by clear hK; first | omega | (intros; simp_all; done) | (intros; grind)) ?_)
  refine hK _ ?_; clear hK K; refine SW.cond _ rfl (by simp) ?_ ?_
  case' refine_2 =>
   intro hb1
   first
   | (exfalso; simp at hb1; done)
   | (exfalso; simp at hb1; omega)
   | (
    refine SW.skip ?_; refine hK1 _ ?_; refine SW.rg fun K hK => ?_; simp -implicitDefEqProofs; repeat (refine And.intro (by clear hK; first | omega | (intros; simp_all; done) | (intros; grind)) ?_)
    fail
    simp -implicitDefEqProofs; repeat (refine And.intro (by clear hK; first | omega | (intros; simp_all; done) | (intros; grind)) ?_)
    refine hK _ ?_; clear hK K; refine SW.rg fun K hK => ?_; simp -implicitDefEqProofs [ha, hb]; repeat (refine And.intro (by clear hK; first | omega | (intros; simp_all; done) | (intros; grind)) ?_)
    fail
    simp -implicitDefEqProofs [ha, hb]; repeat (refine And.intro (by clear hK; first | omega | (intros; simp_all; done) | (intros; grind)) ?_)
    fail
    simp -implicitDefEqProofs [ha, hb]; repeat (refine And.intro (by clear hK; first | omega | (intros; simp_all; done) | (intros; grind)) ?_)
    refine hK _ ?_; clear hK K; refine SW.ret ?_; simp [Ex.then, Ex.ib]
    all_goals (try simp at hg)
    all_goals first
      | (simp [meet, ha, hb]; done)
      | fail)
  rotate_right
  case' _ =>
   intro hb1
   first
   | (exfalso; simp at hb1; done)
   | (exfalso; simp at hb1; omega)
   | (
    refine SW.rg fun K hK => ?_; simp -implicitDefEqProofs; repeat (refine And.intro (by clear hK; first | omega | (intros; simp_all; done) | (intros; grind)) ?_)
    refine hK _ ?_; clear hK K; refine SW.ret ?_; simp [Ex.then, Ex.ib]
    all_goals (try simp at hg)
    all_goals first
      | (simp [meet, ha, hb]; done)
      | fail)
set_option maxHeartbeats 1000000 in
theorem meet_i3 (p : Prog) (a b : Deed) (h : p.ok) (ha : evOk p a = true) (hb : evOk p b = true) (hg : (a.g == b.g) = true) : Fn Tryz.prog 23 [.agg p.fr, .agg a.cl, .agg b.cl] (.bool (meet p a b)) := by
  refine Fn.intro Tryz.func23 (by decide) rfl (rs := [.tmp 6]) rfl Tryz.ntmps23 (by simp) ?_; have la := objects_len ha
  have lb := objects_len hb
  refine SW.rg fun K hK => ?_; simp -implicitDefEqProofs; repeat (refine And.intro (by clear hK; first | omega | (intros; simp_all; done) | (intros; grind)) ?_)
  refine hK _ ?_; clear hK K; refine SW.seqK fun K1 hK1 => ?_; refine SW.rg fun K hK => ?_; simp -implicitDefEqProofs [ha, hb, hg]; repeat (refine And.intro (by clear hK; first | omega | (intros; simp_all; done) | (intros; grind)) ?_)
  first
    | refine CallQ.fzE (evOk_i p a h) (by simp) ?_
    | refine CallK.fzE (evOk_i p a h) (by simp) ?_
  simp -implicitDefEqProofs [ha, hb, hg]; repeat (refine And.intro (by clear hK; first | omega | (intros; simp_all; done) | (intros; grind)) ?_)
  first
    | refine CallQG.fzE (by simp) (fun _ => evOk_i p b h) (by simp) ?_
    | refine CallG.fzE (by simp) (fun _ => evOk_i p b h) (by simp) ?_
    | refine CallQ.fzE (evOk_i p b h) (by simp) ?_
    | refine CallK.fzE (evOk_i p b h) (by simp) ?_
  simp -implicitDefEqProofs [ha, hb, hg]; repeat (refine And.intro (by clear hK; first | omega | (intros; simp_all; done) | (intros; grind)) ?_)
  refine hK _ ?_; clear hK K; refine SW.cond _ rfl (by simp) ?_ ?_
  case' refine_2 =>
   intro hb1
   first
   | (exfalso; simp at hb1; done)
   | (exfalso; simp at hb1; omega)
   | (
    refine SW.skip ?_; refine hK1 _ ?_; refine SW.rg fun K hK => ?_; simp -implicitDefEqProofs; repeat (refine And.intro (by clear hK; first | omega | (intros; simp_all; done) | (intros; grind)) ?_)
    refine CallK.imE (objY_i p b h hb) (by simp) (IntS_okI _) ?_; simp -implicitDefEqProofs; repeat (refine And.intro (by clear hK; first | omega | (intros; simp_all; done) | (intros; grind)) ?_)
    refine hK _ ?_; clear hK K; refine SW.rg fun K hK => ?_; simp -implicitDefEqProofs [ha, hb, hg]; repeat (refine And.intro (by clear hK; first | omega | (intros; simp_all; done) | (intros; grind)) ?_)
    refine ⟨.undef, (fun hgg => by cases hgg), ?_⟩; simp -implicitDefEqProofs [ha, hb, hg]; repeat (refine And.intro (by clear hK; first | omega | (intros; simp_all; done) | (intros; grind)) ?_)
    refine ⟨.undef, (fun hgg => by cases hgg), ?_⟩; simp -implicitDefEqProofs [ha, hb, hg]; repeat (refine And.intro (by clear hK; first | omega | (intros; simp_all; done) | (intros; grind)) ?_)
    refine hK _ ?_; clear hK K; refine SW.ret ?_; simp [Ex.then, Ex.ib]
    all_goals (try simp at hg)
    all_goals first
      | (simp [meet, ha, hb, hg]; done)
      | fail)
  rotate_right
  case' _ =>
   intro hb1
   first
   | (exfalso; simp at hb1; done)
   | (exfalso; simp at hb1; omega)
   | (
    refine SW.rg fun K hK => ?_; simp -implicitDefEqProofs; repeat (refine And.intro (by clear hK; first | omega | (intros; simp_all; done) | (intros; grind)) ?_)
    refine hK _ ?_; clear hK K; refine SW.ret ?_; simp [Ex.then, Ex.ib]
    all_goals (try simp at hg)
    all_goals first
      | (simp [meet, ha, hb, hg]; done)
      | fail)
set_option maxHeartbeats 1000000 in
theorem meet_i4 (p : Prog) (a b : Deed) (h : p.ok) (ha : evOk p a = true) (hb : evOk p b = true) (hg : (a.g == b.g) = false) : Fn Tryz.prog 23 [.agg p.fr, .agg a.cl, .agg b.cl] (.bool (meet p a b)) := by
  refine Fn.intro Tryz.func23 (by decide) rfl (rs := [.tmp 6]) rfl Tryz.ntmps23 (by simp) ?_; have la := objects_len ha
  have lb := objects_len hb
  refine SW.rg fun K hK => ?_; simp -implicitDefEqProofs; repeat (refine And.intro (by clear hK; first | omega | (intros; simp_all; done) | (intros; grind)) ?_)
  refine hK _ ?_; clear hK K; refine SW.seqK fun K1 hK1 => ?_; refine SW.rg fun K hK => ?_; simp -implicitDefEqProofs [ha, hb, hg]; repeat (refine And.intro (by clear hK; first | omega | (intros; simp_all; done) | (intros; grind)) ?_)
  first
    | refine CallQ.fzE (evOk_i p a h) (by simp) ?_
    | refine CallK.fzE (evOk_i p a h) (by simp) ?_
  simp -implicitDefEqProofs [ha, hb, hg]; repeat (refine And.intro (by clear hK; first | omega | (intros; simp_all; done) | (intros; grind)) ?_)
  first
    | refine CallQG.fzE (by simp) (fun _ => evOk_i p b h) (by simp) ?_
    | refine CallG.fzE (by simp) (fun _ => evOk_i p b h) (by simp) ?_
    | refine CallQ.fzE (evOk_i p b h) (by simp) ?_
    | refine CallK.fzE (evOk_i p b h) (by simp) ?_
  simp -implicitDefEqProofs [ha, hb, hg]; repeat (refine And.intro (by clear hK; first | omega | (intros; simp_all; done) | (intros; grind)) ?_)
  refine hK _ ?_; clear hK K; refine SW.cond _ rfl (by simp) ?_ ?_
  case' refine_2 =>
   intro hb1
   first
   | (exfalso; simp at hb1; done)
   | (exfalso; simp at hb1; omega)
   | (
    refine SW.skip ?_; refine hK1 _ ?_; refine SW.rg fun K hK => ?_; simp -implicitDefEqProofs; repeat (refine And.intro (by clear hK; first | omega | (intros; simp_all; done) | (intros; grind)) ?_)
    refine CallK.imE (objY_i p b h hb) (by simp) (IntS_okI _) ?_; simp -implicitDefEqProofs; repeat (refine And.intro (by clear hK; first | omega | (intros; simp_all; done) | (intros; grind)) ?_)
    refine hK _ ?_; clear hK K; refine SW.rg fun K hK => ?_; simp -implicitDefEqProofs [ha, hb, hg]; repeat (refine And.intro (by clear hK; first | omega | (intros; simp_all; done) | (intros; grind)) ?_)
    refine CallG.fzE (by simp) (fun _ => objY_i p a h ha) (by simp) ?_; simp -implicitDefEqProofs [ha, hb, hg]; repeat (refine And.intro (by clear hK; first | omega | (intros; simp_all; done) | (intros; grind)) ?_)
    refine ⟨.bool (meets (objects p a) (objects p b)), fun _ => ⟨by simp, ?_⟩, ?_⟩
    · refine CallS.mono (CallS.frame [4, 3] (contM_ok (objects p a) (objects p b) (by omega) (by omega)) (by simp [renN]) (by simp [lowN]) (by simp) (by simp) (by simp [renH]) (by simp) (by simp) ?_) ?_
      · rintro o h' ⟨rfl, rfl⟩
        refine ⟨by simp, ?_, by simp [lowN], by simp [nfz, strN]⟩; intro y hy; simp only [List.mem_cons, List.not_mem_nil, or_false] at hy; rcases hy with rfl | rfl
        · rfl
        · exact IntS_nfz _ _
      · rintro o h' ⟨o0, h0, ⟨rfl, rfl⟩, rfl, rfl⟩
        exact ⟨by simp, by simp [frameH, merge, fids, renB, List.range_succ]⟩
    simp -implicitDefEqProofs [ha, hb, hg]; repeat (refine And.intro (by clear hK; first | omega | (intros; simp_all; done) | (intros; grind)) ?_)
    refine hK _ ?_; clear hK K; refine SW.ret ?_; simp [Ex.then, Ex.ib]
    all_goals (try simp at hg)
    all_goals first
      | (simp [meet, ha, hb, hg]; done)
      | fail)
  rotate_right
  case' _ =>
   intro hb1
   first
   | (exfalso; simp at hb1; done)
   | (exfalso; simp at hb1; omega)
   | (
    refine SW.rg fun K hK => ?_; simp -implicitDefEqProofs; repeat (refine And.intro (by clear hK; first | omega | (intros; simp_all; done) | (intros; grind)) ?_)
    refine hK _ ?_; clear hK K; refine SW.ret ?_; simp [Ex.then, Ex.ib]
    all_goals (try simp at hg)
    all_goals first
      | (simp [meet, ha, hb, hg]; done)
      | fail)
theorem meet_i (p : Prog) (a b : Deed) (h : p.ok) : Fn Tryz.prog 23 [.agg p.fr, .agg a.cl, .agg b.cl] (.bool (meet p a b)) := by
  cases ha : evOk p a with
  | false => exact meet_i1 p a b h ha
  | true =>
    cases hb : evOk p b with
    | false => exact meet_i2 p a b h ha hb
    | true =>
      cases hg : a.g == b.g
      · exact meet_i4 p a b h ha hb hg
      · exact meet_i3 p a b h ha hb hg
end HT
