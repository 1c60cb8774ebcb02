import Derived.Test.YtohfnikklggjjaaGreatHGVB
/-
  My own texts (road H): HGVE.
-/
set_option linter.unusedSimpArgs false
set_option linter.unusedVariables false
namespace HT
open Go Go.Proofs HK
set_option maxHeartbeats 1000000 in
theorem has_s0 (l : List Int) (v : Int) (hl : l.length ≤ 2 ^ 40) : Fn Tryz.prog 71 [.fz (IntS l), .int .i64 v] (.bool (l.any fun x => decide (x = v))) := by
  refine Fn.intro Tryz.func71 (by decide) rfl (rs := [.tmp 4]) rfl Tryz.ntmps71 (by simp) ?_; refine SW.rg fun K hK => ?_; simp -implicitDefEqProofs; repeat refine ⟨by omega, ?_⟩
  refine hK _ ?_; clear hK K; refine SW.seqK fun K1 hK1 => ?_; refine SW.rg fun K hK => ?_; simp -implicitDefEqProofs; repeat refine ⟨by omega, ?_⟩
  refine hK _ ?_; clear hK K; refine SW.block ?_
  refine SW.loop (α := Nat) (fun k => ⟨[(9, .int .i64 k), (8, .int .i64 l.length), (7, .fz (IntS l)), (1, .int .i64 v)], []⟩) (fun k => k ≤ l.length ∧ ((l.take k).any fun x => decide (x = v)) = false) (fun k => l.length - k) (0) ?_ ?_ (fun k hx => ?_)
  case' refine_1 =>
   exact ⟨by simp, by simp⟩
  case' refine_2 =>
   exact Wk.cut (by simp) (by simp [subE]) (by simp [cutH]) (by simp [lowE, lowN]) (by simp)
  case' refine_3 =>
   skip
   refine SW.rg fun K hK => ?_; simp -implicitDefEqProofs; repeat refine ⟨by omega, ?_⟩
   refine hK _ ?_; clear hK K; refine SW.seqK fun K2 hK2 => ?_; refine SW.cond _ rfl (by simp) ?_ ?_
   case' refine_2 =>
    intro hb1
    first
    | (exfalso; simp at hb1; done)
    | (exfalso; simp at hb1; omega)
    | (
     have hk1 : k = l.length := by simp at hb1; omega
     subst hk1; have hr : (l.any fun x => decide (x = v)) = false := by simpa using hx.2
     refine SW.exit ?_; simp only [Ex.then, Ex.ib]; try simp only [if_true, if_false, reduceIte]
     refine hK1 _ ?_; refine SW.rg fun K hK => ?_; simp -implicitDefEqProofs; repeat refine ⟨by omega, ?_⟩
     refine hK _ ?_; clear hK K; refine SW.ret ?_; simp [Ex.then, Ex.ib]
     all_goals first
       | (simpa using hr)
       | fail)
   rotate_right
   case' _ =>
    intro hb1
    first
    | (exfalso; simp at hb1; done)
    | (exfalso; simp at hb1; omega)
    | (
     have hlt : k < l.length := by first | omega | (simp at hb1; omega)
     obtain ⟨x, hxk⟩ : ∃ q, l[k]? = some q := ⟨_, List.getElem?_eq_getElem hlt⟩
     have hst := any_step (f := fun x : Int => decide (x = v)) hxk
     refine SW.skip ?_; refine hK2 _ ?_; refine SW.seqK fun K3 hK3 => ?_; refine SW.block ?_; refine SW.rg fun K hK => ?_; simp -implicitDefEqProofs [hxk]; repeat refine ⟨by omega, ?_⟩
     refine hK _ ?_; clear hK K; refine SW.rg fun K hK => ?_; simp -implicitDefEqProofs; repeat refine ⟨by omega, ?_⟩
     refine hK _ ?_; clear hK K; refine SW.cond _ rfl (by simp) ?_ ?_
     case' refine_2 =>
      intro hb2
      first
      | (exfalso; simp at hb2; done)
      | (exfalso; simp at hb2; omega)
      | (
       have hy : (decide (x = v)) = false := by simpa using hb2
       rw [hx.2, hy] at hst; refine SW.skip ?_; refine hK3 _ ?_; refine SW.regionE fun K hK => ?_; simp -implicitDefEqProofs; repeat refine ⟨by omega, ?_⟩
       refine hK _ ?_; clear hK K; refine ⟨k + 1, ⟨by omega, hst⟩, by omega, ?_⟩
       exact Wk.cut (by simp) (by simp [subE, wrap1 k (by omega)]) (by simp [cutH]) (by simp [lowE, lowN]) (by simp))
     rotate_right
     case' _ =>
      intro hb2
      first
      | (exfalso; simp at hb2; done)
      | (exfalso; simp at hb2; omega)
      | (
       have hy : (decide (x = v)) = true := by simpa using hb2
       have hr : (l.any fun x => decide (x = v)) = true := List.any_eq_true.2 ⟨x, List.mem_of_getElem? hxk, hy⟩
       refine SW.rg fun K hK => ?_; simp -implicitDefEqProofs; repeat refine ⟨by omega, ?_⟩
       refine hK _ ?_; clear hK K; refine SW.ret ?_; simp [Ex.then, Ex.ib]
       all_goals first
         | (simpa using hr)
         | fail))
theorem has_s (l : List Int) (v : Int) (hl : l.length ≤ 2 ^ 40) : Fn Tryz.prog 71 [.fz (IntS l), .int .i64 v] (.bool (decide (v ∈ l))) := by
  have h := has_s0 l v hl
  have e : (l.any fun x => decide (x = v)) = decide (v ∈ l) := by rw [Bool.eq_iff_iff]; simp
  rwa [e] at h
set_option maxHeartbeats 1000000 in
theorem meets_s0 (l m : List Int) (hl : l.length ≤ 2 ^ 40) (hm : m.length ≤ 2 ^ 40) : Fn Tryz.prog 52 [.fz (IntS l), .fz (IntS m)] (.bool (l.any fun x => decide (x ∈ m))) := by
  refine Fn.intro Tryz.func52 (by decide) rfl (rs := [.tmp 4]) rfl Tryz.ntmps52 (by simp) ?_; refine SW.rg fun K hK => ?_; simp -implicitDefEqProofs; repeat refine ⟨by omega, ?_⟩
  refine hK _ ?_; clear hK K; refine SW.seqK fun K1 hK1 => ?_; refine SW.rg fun K hK => ?_; simp -implicitDefEqProofs; repeat refine ⟨by omega, ?_⟩
  refine hK _ ?_; clear hK K; refine SW.block ?_
  refine SW.loop (α := Nat) (fun k => ⟨[(9, .int .i64 k), (8, .int .i64 l.length), (7, .fz (IntS l)), (1, .fz (IntS m))], []⟩) (fun k => k ≤ l.length ∧ ((l.take k).any fun x => decide (x ∈ m)) = false) (fun k => l.length - k) (0) ?_ ?_ (fun k hx => ?_)
  case' refine_1 =>
   exact ⟨by simp, by simp⟩
  case' refine_2 =>
   exact Wk.cut (by simp) (by simp [subE]) (by simp [cutH]) (by simp [lowE, lowN]) (by simp)
  case' refine_3 =>
   skip
   refine SW.rg fun K hK => ?_; simp -implicitDefEqProofs; repeat refine ⟨by omega, ?_⟩
   refine hK _ ?_; clear hK K; refine SW.seqK fun K2 hK2 => ?_; refine SW.cond _ rfl (by simp) ?_ ?_
   case' refine_2 =>
    intro hb1
    first
    | (exfalso; simp at hb1; done)
    | (exfalso; simp at hb1; omega)
    | (
     have hk1 : k = l.length := by simp at hb1; omega
     subst hk1; have hr : (l.any fun x => decide (x ∈ m)) = false := by simpa using hx.2
     refine SW.exit ?_; simp only [Ex.then, Ex.ib]; try simp only [if_true, if_false, reduceIte]
     refine hK1 _ ?_; refine SW.rg fun K hK => ?_; simp -implicitDefEqProofs; repeat refine ⟨by omega, ?_⟩
     refine hK _ ?_; clear hK K; refine SW.ret ?_; simp [Ex.then, Ex.ib]
     all_goals first
       | (simpa using hr)
       | fail)
   rotate_right
   case' _ =>
    intro hb1
    first
    | (exfalso; simp at hb1; done)
    | (exfalso; simp at hb1; omega)
    | (
     have hlt : k < l.length := by first | omega | (simp at hb1; omega)
     obtain ⟨x, hxk⟩ : ∃ q, l[k]? = some q := ⟨_, List.getElem?_eq_getElem hlt⟩
     have hst := any_step (f := fun x : Int => decide (x ∈ m)) hxk
     refine SW.skip ?_; refine hK2 _ ?_; refine SW.seqK fun K3 hK3 => ?_; refine SW.block ?_; refine SW.rg fun K hK => ?_; simp -implicitDefEqProofs [hxk]; repeat refine ⟨by omega, ?_⟩
     refine hK _ ?_; clear hK K; refine SW.rg fun K hK => ?_; simp -implicitDefEqProofs; iterate 2 (try refine ⟨by omega, ?_⟩)
     first
       | refine CallQ.fzE (has_s m x (by omega)) (by simp) ?_
       | refine CallK.fzE (has_s m x (by omega)) (by simp) ?_
     simp -implicitDefEqProofs; repeat refine ⟨by omega, ?_⟩
     refine hK _ ?_; clear hK K; refine SW.cond _ rfl (by simp) ?_ ?_
     case' refine_2 =>
      intro hb2
      first
      | (exfalso; simp at hb2; done)
      | (exfalso; simp at hb2; omega)
      | (
       have hy : (decide (x ∈ m)) = false := by simpa using hb2
       rw [hx.2, hy] at hst; refine SW.skip ?_; refine hK3 _ ?_; refine SW.regionE fun K hK => ?_; simp -implicitDefEqProofs; repeat refine ⟨by omega, ?_⟩
       refine hK _ ?_; clear hK K; refine ⟨k + 1, ⟨by omega, hst⟩, by omega, ?_⟩
       exact Wk.cut (by simp) (by simp [subE, wrap1 k (by omega)]) (by simp [cutH]) (by simp [lowE, lowN]) (by simp))
     rotate_right
     case' _ =>
      intro hb2
      first
      | (exfalso; simp at hb2; done)
      | (exfalso; simp at hb2; omega)
      | (
       have hy : (decide (x ∈ m)) = true := by simpa using hb2
       have hr : (l.any fun x => decide (x ∈ m)) = true := List.any_eq_true.2 ⟨x, List.mem_of_getElem? hxk, hy⟩
       refine SW.rg fun K hK => ?_; simp -implicitDefEqProofs; repeat refine ⟨by omega, ?_⟩
       refine hK _ ?_; clear hK K; refine SW.ret ?_; simp [Ex.then, Ex.ib]
       all_goals first
         | (simpa using hr)
         | fail))
theorem meets_s (l m : List Int) (hl : l.length ≤ 2 ^ 40) (hm : m.length ≤ 2 ^ 40) : Fn Tryz.prog 52 [.fz (IntS l), .fz (IntS m)] (.bool (meets l m)) := meets_s0 l m hl hm
def touch (p : Prog) (a b : Deed) : Bool := evIn p a && evIn p b && (decide (a.g = b.g) || meets (objects p a) (objects p b))
theorem meet_touch (p : Prog) (a b : Deed) : meet p a b = (progOk p && touch p a b) := by
  unfold meet touch evOk; cases progOk p <;> simp
set_option maxHeartbeats 1000000 in
theorem touch_s1y (p : Prog) (a b : Deed) (h : p.ok) (hp : progOk p = true) (ha : evIn p a = false) (hg : (a.g == b.g) = true) : Fn Tryz.prog 35 [.agg p.fr, .agg a.cl, .agg b.cl] (.bool (touch p a b)) := by
  refine Fn.intro Tryz.func35 (by decide) rfl (rs := [.tmp 6]) rfl Tryz.ntmps35 (by simp) ?_; refine SW.rg fun K hK => ?_; simp -implicitDefEqProofs
  repeat (refine And.intro (by clear hK; first | omega | (intros; simp_all; done) | (intros; grind)) ?_)
  refine hK _ ?_; clear hK K
  refine SW.drawK mixed [.q [(0, false), (1, false), (2, false), (3, false), (4, false), (5, false), (6, false), (7, false), (8, false), (9, false), (10, false), (11, false), (12, false), (13, false), (14, false), (15, false), (16, false), (17, false), (18, false), (19, false), (20, false), (21, false), (22, false), (23, false), (24, false)]] (by kernel_rfl) rfl fun K hK => ?_
  simp -implicitDefEqProofs [ha, hg]; repeat (refine And.intro (by clear hK; first | omega | (intros; simp_all; done) | (intros; grind)) ?_)
  first
    | refine CallQ.fzE (evIn_s p a h (progOk_mus hp)) (by simp) ?_
    | refine CallK.fzE (evIn_s p a h (progOk_mus hp)) (by simp) ?_
  simp -implicitDefEqProofs [ha, hg]; repeat (refine And.intro (by clear hK; first | omega | (intros; simp_all; done) | (intros; grind)) ?_)
  refine ⟨.undef, (fun hgg => by cases hgg), ?_⟩; simp -implicitDefEqProofs [ha, hg]; repeat (refine And.intro (by clear hK; first | omega | (intros; simp_all; done) | (intros; grind)) ?_)
  refine ⟨.undef, (fun hgg => by cases hgg), ?_⟩; simp -implicitDefEqProofs [ha, hg]; repeat (refine And.intro (by clear hK; first | omega | (intros; simp_all; done) | (intros; grind)) ?_)
  refine ⟨.undef, (fun hgg => by cases hgg), ?_⟩; simp -implicitDefEqProofs [ha, hg]; repeat (refine And.intro (by clear hK; first | omega | (intros; simp_all; done) | (intros; grind)) ?_)
  refine ⟨.undef, (fun hgg => by cases hgg), ?_⟩; simp -implicitDefEqProofs [ha, hg]; repeat (refine And.intro (by clear hK; first | omega | (intros; simp_all; done) | (intros; grind)) ?_)
  refine hK _ ?_; clear hK K; refine SW.ret ?_; simp [Ex.then, Ex.ib]
  all_goals (try simp at hg)
  all_goals first
    | (simp [touch, ha, hg]; done)
    | fail
set_option maxHeartbeats 1000000 in
theorem touch_s1n (p : Prog) (a b : Deed) (h : p.ok) (hp : progOk p = true) (ha : evIn p a = false) (hg : (a.g == b.g) = false) : Fn Tryz.prog 35 [.agg p.fr, .agg a.cl, .agg b.cl] (.bool (touch p a b)) := by
  refine Fn.intro Tryz.func35 (by decide) rfl (rs := [.tmp 6]) rfl Tryz.ntmps35 (by simp) ?_; refine SW.rg fun K hK => ?_; simp -implicitDefEqProofs
  repeat (refine And.intro (by clear hK; first | omega | (intros; simp_all; done) | (intros; grind)) ?_)
  refine hK _ ?_; clear hK K
  refine SW.drawK mixed [.q [(0, false), (1, false), (2, false), (3, false), (4, false), (5, false), (6, false), (7, false), (8, false), (9, false), (10, false), (11, false), (12, false), (13, false), (14, false), (15, false), (16, false), (17, false), (18, false), (19, false), (20, false), (21, false), (22, false), (23, false), (24, false)]] (by kernel_rfl) rfl fun K hK => ?_
  simp -implicitDefEqProofs [ha, hg]; repeat (refine And.intro (by clear hK; first | omega | (intros; simp_all; done) | (intros; grind)) ?_)
  first
    | refine CallQ.fzE (evIn_s p a h (progOk_mus hp)) (by simp) ?_
    | refine CallK.fzE (evIn_s p a h (progOk_mus hp)) (by simp) ?_
  simp -implicitDefEqProofs [ha, hg]; repeat (refine And.intro (by clear hK; first | omega | (intros; simp_all; done) | (intros; grind)) ?_)
  refine ⟨.undef, (fun hgg => by cases hgg), ?_⟩; simp -implicitDefEqProofs [ha, hg]; repeat (refine And.intro (by clear hK; first | omega | (intros; simp_all; done) | (intros; grind)) ?_)
  refine ⟨.undef, (fun hgg => by cases hgg), ?_⟩; simp -implicitDefEqProofs [ha, hg]; repeat (refine And.intro (by clear hK; first | omega | (intros; simp_all; done) | (intros; grind)) ?_)
  refine ⟨.undef, (fun hgg => by cases hgg), ?_⟩; simp -implicitDefEqProofs [ha, hg]; repeat (refine And.intro (by clear hK; first | omega | (intros; simp_all; done) | (intros; grind)) ?_)
  refine ⟨.undef, (fun hgg => by cases hgg), ?_⟩; simp -implicitDefEqProofs [ha, hg]; repeat (refine And.intro (by clear hK; first | omega | (intros; simp_all; done) | (intros; grind)) ?_)
  refine hK _ ?_; clear hK K; refine SW.ret ?_; simp [Ex.then, Ex.ib]
  all_goals (try simp at hg)
  all_goals first
    | (simp [touch, ha, hg]; done)
    | fail
set_option maxHeartbeats 1000000 in
theorem touch_s2y (p : Prog) (a b : Deed) (h : p.ok) (hp : progOk p = true) (ha : evIn p a = true) (hb : evIn p b = false) (hg : (a.g == b.g) = true) : Fn Tryz.prog 35 [.agg p.fr, .agg a.cl, .agg b.cl] (.bool (touch p a b)) := by
  refine Fn.intro Tryz.func35 (by decide) rfl (rs := [.tmp 6]) rfl Tryz.ntmps35 (by simp) ?_; refine SW.rg fun K hK => ?_; simp -implicitDefEqProofs
  repeat (refine And.intro (by clear hK; first | omega | (intros; simp_all; done) | (intros; grind)) ?_)
  refine hK _ ?_; clear hK K
  refine SW.drawK mixed [.q [(0, false), (1, false), (2, false), (3, false), (4, false), (5, false), (6, false), (7, false), (8, false), (9, false), (10, false), (11, false), (12, false), (13, false), (14, false), (15, false), (16, false), (17, false), (18, false), (19, false), (20, false), (21, false), (22, false), (23, false), (24, false)]] (by kernel_rfl) rfl fun K hK => ?_
  simp -implicitDefEqProofs [ha, hb, hg]; repeat (refine And.intro (by clear hK; first | omega | (intros; simp_all; done) | (intros; grind)) ?_)
  first
    | refine CallQ.fzE (evIn_s p a h (progOk_mus hp)) (by simp) ?_
    | refine CallK.fzE (evIn_s p a h (progOk_mus hp)) (by simp) ?_
  simp -implicitDefEqProofs [ha, hb, hg]; repeat (refine And.intro (by clear hK; first | omega | (intros; simp_all; done) | (intros; grind)) ?_)
  first
    | refine CallQG.fzE (by simp) (fun _ => evIn_s p b h (progOk_mus hp)) (by simp) ?_
    | refine CallG.fzE (by simp) (fun _ => evIn_s p b h (progOk_mus hp)) (by simp) ?_
    | refine CallQ.fzE (evIn_s p b h (progOk_mus hp)) (by simp) ?_
    | refine CallK.fzE (evIn_s p b h (progOk_mus hp)) (by simp) ?_
  simp -implicitDefEqProofs [ha, hb, hg]; repeat (refine And.intro (by clear hK; first | omega | (intros; simp_all; done) | (intros; grind)) ?_)
  refine ⟨.undef, (fun hgg => by cases hgg), ?_⟩; simp -implicitDefEqProofs [ha, hb, hg]; repeat (refine And.intro (by clear hK; first | omega | (intros; simp_all; done) | (intros; grind)) ?_)
  refine ⟨.undef, (fun hgg => by cases hgg), ?_⟩; simp -implicitDefEqProofs [ha, hb, hg]; repeat (refine And.intro (by clear hK; first | omega | (intros; simp_all; done) | (intros; grind)) ?_)
  refine ⟨.undef, (fun hgg => by cases hgg), ?_⟩; simp -implicitDefEqProofs [ha, hb, hg]; repeat (refine And.intro (by clear hK; first | omega | (intros; simp_all; done) | (intros; grind)) ?_)
  refine hK _ ?_; clear hK K; refine SW.ret ?_; simp [Ex.then, Ex.ib]
  all_goals (try simp at hg)
  all_goals first
    | (simp [touch, ha, hb, hg]; done)
    | fail
set_option maxHeartbeats 1000000 in
theorem touch_s2n (p : Prog) (a b : Deed) (h : p.ok) (hp : progOk p = true) (ha : evIn p a = true) (hb : evIn p b = false) (hg : (a.g == b.g) = false) : Fn Tryz.prog 35 [.agg p.fr, .agg a.cl, .agg b.cl] (.bool (touch p a b)) := by
  refine Fn.intro Tryz.func35 (by decide) rfl (rs := [.tmp 6]) rfl Tryz.ntmps35 (by simp) ?_; refine SW.rg fun K hK => ?_; simp -implicitDefEqProofs
  repeat (refine And.intro (by clear hK; first | omega | (intros; simp_all; done) | (intros; grind)) ?_)
  refine hK _ ?_; clear hK K
  refine SW.drawK mixed [.q [(0, false), (1, false), (2, false), (3, false), (4, false), (5, false), (6, false), (7, false), (8, false), (9, false), (10, false), (11, false), (12, false), (13, false), (14, false), (15, false), (16, false), (17, false), (18, false), (19, false), (20, false), (21, false), (22, false), (23, false), (24, false)]] (by kernel_rfl) rfl fun K hK => ?_
  simp -implicitDefEqProofs [ha, hb, hg]; repeat (refine And.intro (by clear hK; first | omega | (intros; simp_all; done) | (intros; grind)) ?_)
  first
    | refine CallQ.fzE (evIn_s p a h (progOk_mus hp)) (by simp) ?_
    | refine CallK.fzE (evIn_s p a h (progOk_mus hp)) (by simp) ?_
  simp -implicitDefEqProofs [ha, hb, hg]; repeat (refine And.intro (by clear hK; first | omega | (intros; simp_all; done) | (intros; grind)) ?_)
  first
    | refine CallQG.fzE (by simp) (fun _ => evIn_s p b h (progOk_mus hp)) (by simp) ?_
    | refine CallG.fzE (by simp) (fun _ => evIn_s p b h (progOk_mus hp)) (by simp) ?_
    | refine CallQ.fzE (evIn_s p b h (progOk_mus hp)) (by simp) ?_
    | refine CallK.fzE (evIn_s p b h (progOk_mus hp)) (by simp) ?_
  simp -implicitDefEqProofs [ha, hb, hg]; repeat (refine And.intro (by clear hK; first | omega | (intros; simp_all; done) | (intros; grind)) ?_)
  refine ⟨.undef, (fun hgg => by cases hgg), ?_⟩; simp -implicitDefEqProofs [ha, hb, hg]; repeat (refine And.intro (by clear hK; first | omega | (intros; simp_all; done) | (intros; grind)) ?_)
  refine ⟨.undef, (fun hgg => by cases hgg), ?_⟩; simp -implicitDefEqProofs [ha, hb, hg]; repeat (refine And.intro (by clear hK; first | omega | (intros; simp_all; done) | (intros; grind)) ?_)
  refine ⟨.undef, (fun hgg => by cases hgg), ?_⟩; simp -implicitDefEqProofs [ha, hb, hg]; repeat (refine And.intro (by clear hK; first | omega | (intros; simp_all; done) | (intros; grind)) ?_)
  refine hK _ ?_; clear hK K; refine SW.ret ?_; simp [Ex.then, Ex.ib]
  all_goals (try simp at hg)
  all_goals first
    | (simp [touch, ha, hb, hg]; done)
    | fail
set_option maxHeartbeats 1000000 in
theorem touch_s3 (p : Prog) (a b : Deed) (h : p.ok) (hp : progOk p = true) (ha : evIn p a = true) (hb : evIn p b = true) (hg : (a.g == b.g) = true) : Fn Tryz.prog 35 [.agg p.fr, .agg a.cl, .agg b.cl] (.bool (touch p a b)) := by
  refine Fn.intro Tryz.func35 (by decide) rfl (rs := [.tmp 6]) rfl Tryz.ntmps35 (by simp) ?_; refine SW.rg fun K hK => ?_; simp -implicitDefEqProofs
  repeat (refine And.intro (by clear hK; first | omega | (intros; simp_all; done) | (intros; grind)) ?_)
  refine hK _ ?_; clear hK K
  refine SW.drawK mixed [.q [(0, false), (1, false), (2, false), (3, false), (4, false), (5, false), (6, false), (7, false), (8, false), (9, false), (10, false), (11, false), (12, false), (13, false), (14, false), (15, false), (16, false), (17, false), (18, false), (19, false), (20, false), (21, false), (22, false), (23, false), (24, false)]] (by kernel_rfl) rfl fun K hK => ?_
  simp -implicitDefEqProofs [ha, hb, hg]; repeat (refine And.intro (by clear hK; first | omega | (intros; simp_all; done) | (intros; grind)) ?_)
  first
    | refine CallQ.fzE (evIn_s p a h (progOk_mus hp)) (by simp) ?_
    | refine CallK.fzE (evIn_s p a h (progOk_mus hp)) (by simp) ?_
  simp -implicitDefEqProofs [ha, hb, hg]; repeat (refine And.intro (by clear hK; first | omega | (intros; simp_all; done) | (intros; grind)) ?_)
  first
    | refine CallQG.fzE (by simp) (fun _ => evIn_s p b h (progOk_mus hp)) (by simp) ?_
    | refine CallG.fzE (by simp) (fun _ => evIn_s p b h (progOk_mus hp)) (by simp) ?_
    | refine CallQ.fzE (evIn_s p b h (progOk_mus hp)) (by simp) ?_
    | refine CallK.fzE (evIn_s p b h (progOk_mus hp)) (by simp) ?_
  simp -implicitDefEqProofs [ha, hb, hg]; repeat (refine And.intro (by clear hK; first | omega | (intros; simp_all; done) | (intros; grind)) ?_)
  refine ⟨.undef, (fun hgg => by cases hgg), ?_⟩; simp -implicitDefEqProofs [ha, hb, hg]; repeat (refine And.intro (by clear hK; first | omega | (intros; simp_all; done) | (intros; grind)) ?_)
  refine ⟨.undef, (fun hgg => by cases hgg), ?_⟩; simp -implicitDefEqProofs [ha, hb, hg]; repeat (refine And.intro (by clear hK; first | omega | (intros; simp_all; done) | (intros; grind)) ?_)
  refine ⟨.undef, (fun hgg => by cases hgg), ?_⟩; simp -implicitDefEqProofs [ha, hb, hg]; repeat (refine And.intro (by clear hK; first | omega | (intros; simp_all; done) | (intros; grind)) ?_)
  refine hK _ ?_; clear hK K; refine SW.ret ?_; simp [Ex.then, Ex.ib]
  all_goals (try simp at hg)
  all_goals first
    | (simp [touch, ha, hb, hg]; done)
    | fail
set_option maxHeartbeats 1000000 in
theorem touch_s4 (p : Prog) (a b : Deed) (h : p.ok) (hp : progOk p = true) (ha : evIn p a = true) (hb : evIn p b = true) (hg : (a.g == b.g) = false) : Fn Tryz.prog 35 [.agg p.fr, .agg a.cl, .agg b.cl] (.bool (touch p a b)) := by
  refine Fn.intro Tryz.func35 (by decide) rfl (rs := [.tmp 6]) rfl Tryz.ntmps35 (by simp) ?_; have la := objects_len (p := p) (d := a) (by simp [evOk, hp, ha])
  have lb := objects_len (p := p) (d := b) (by simp [evOk, hp, hb])
  refine SW.rg fun K hK => ?_; simp -implicitDefEqProofs; repeat (refine And.intro (by clear hK; first | omega | (intros; simp_all; done) | (intros; grind)) ?_)
  refine hK _ ?_; clear hK K
  refine SW.drawK mixed [.q [(0, false), (1, false), (2, false), (3, false), (4, false), (5, false), (6, false), (7, false), (8, false), (9, false), (10, false), (11, false), (12, false), (13, false), (14, false), (15, false), (16, false), (17, false), (18, false), (19, false), (20, false), (21, false), (22, false), (23, false), (24, false)]] (by kernel_rfl) rfl fun K hK => ?_
  simp -implicitDefEqProofs [ha, hb, hg]; repeat (refine And.intro (by clear hK; first | omega | (intros; simp_all; done) | (intros; grind)) ?_)
  first
    | refine CallQ.fzE (evIn_s p a h (progOk_mus hp)) (by simp) ?_
    | refine CallK.fzE (evIn_s p a h (progOk_mus hp)) (by simp) ?_
  simp -implicitDefEqProofs [ha, hb, hg]; repeat (refine And.intro (by clear hK; first | omega | (intros; simp_all; done) | (intros; grind)) ?_)
  first
    | refine CallQG.fzE (by simp) (fun _ => evIn_s p b h (progOk_mus hp)) (by simp) ?_
    | refine CallG.fzE (by simp) (fun _ => evIn_s p b h (progOk_mus hp)) (by simp) ?_
    | refine CallQ.fzE (evIn_s p b h (progOk_mus hp)) (by simp) ?_
    | refine CallK.fzE (evIn_s p b h (progOk_mus hp)) (by simp) ?_
  simp -implicitDefEqProofs [ha, hb, hg]; repeat (refine And.intro (by clear hK; first | omega | (intros; simp_all; done) | (intros; grind)) ?_)
  refine CallQG.fzE (by simp) (fun _ => objl_s p a h (by simp [evOk, hp, ha])) (by simp) ?_; simp -implicitDefEqProofs [ha, hb, hg]; repeat (refine And.intro (by clear hK; first | omega | (intros; simp_all; done) | (intros; grind)) ?_)
  refine CallQG.fzE (by simp) (fun _ => objl_s p b h (by simp [evOk, hp, hb])) (by simp) ?_; simp -implicitDefEqProofs [ha, hb, hg]; repeat (refine And.intro (by clear hK; first | omega | (intros; simp_all; done) | (intros; grind)) ?_)
  refine CallQG.fzE (by simp) (fun _ => meets_s (objects p a) (objects p b) (by omega) (by omega)) (by simp) ?_; simp -implicitDefEqProofs [ha, hb, hg]
  repeat (refine And.intro (by clear hK; first | omega | (intros; simp_all; done) | (intros; grind)) ?_)
  refine hK _ ?_; clear hK K; refine SW.ret ?_; simp [Ex.then, Ex.ib]
  all_goals (try simp at hg)
  all_goals first
    | (simp [touch, ha, hb, hg]; done)
    | fail
theorem touch_s (p : Prog) (a b : Deed) (h : p.ok) (hp : progOk p = true) : Fn Tryz.prog 35 [.agg p.fr, .agg a.cl, .agg b.cl] (.bool (touch p a b)) := by
  cases ha : evIn p a with
  | false =>
    cases hg : a.g == b.g
    · exact touch_s1n p a b h hp ha hg
    · exact touch_s1y p a b h hp ha hg
  | true =>
    cases hb : evIn p b with
    | false =>
      cases hg : a.g == b.g
      · exact touch_s2n p a b h hp ha hb hg
      · exact touch_s2y p a b h hp ha hb hg
    | true =>
      cases hg : a.g == b.g
      · exact touch_s4 p a b h hp ha hb hg
      · exact touch_s3 p a b h hp ha hb hg
set_option maxHeartbeats 1000000 in
theorem meet_s1 (p : Prog) (a b : Deed) (h : p.ok) (hp : progOk p = true) : Fn Tryz.prog 18 [.agg p.fr, .agg a.cl, .agg b.cl] (.bool (meet p a b)) := by
  refine Fn.intro Tryz.func18 (by decide) rfl (rs := [.tmp 6]) rfl Tryz.ntmps18 (by simp) ?_; refine SW.rg fun K hK => ?_; simp -implicitDefEqProofs
  repeat (refine And.intro (by clear hK; first | omega | (intros; simp_all; done) | (intros; grind)) ?_)
  refine hK _ ?_; clear hK K; refine SW.rg fun K hK => ?_; simp -implicitDefEqProofs [hp]; repeat (refine And.intro (by clear hK; first | omega | (intros; simp_all; done) | (intros; grind)) ?_)
  first
    | refine CallQ.fzE (progOk_s p h) (by simp) ?_
    | refine CallK.fzE (progOk_s p h) (by simp) ?_
  simp -implicitDefEqProofs [hp]; repeat (refine And.intro (by clear hK; first | omega | (intros; simp_all; done) | (intros; grind)) ?_)
  first
    | refine CallQG.fzE (by simp) (fun _ => touch_s p a b h hp) (by simp) ?_
    | refine CallG.fzE (by simp) (fun _ => touch_s p a b h hp) (by simp) ?_
    | refine CallQ.fzE (touch_s p a b h hp) (by simp) ?_
    | refine CallK.fzE (touch_s p a b h hp) (by simp) ?_
  simp -implicitDefEqProofs [hp]; repeat (refine And.intro (by clear hK; first | omega | (intros; simp_all; done) | (intros; grind)) ?_)
  refine hK _ ?_; clear hK K; refine SW.ret ?_; simp [Ex.then, Ex.ib]
  all_goals (simp [meet_touch, hp])
set_option maxHeartbeats 1000000 in
theorem meet_s0 (p : Prog) (a b : Deed) (h : p.ok) (hp : progOk p = false) : Fn Tryz.prog 18 [.agg p.fr, .agg a.cl, .agg b.cl] (.bool (meet p a b)) := by
  refine Fn.intro Tryz.func18 (by decide) rfl (rs := [.tmp 6]) rfl Tryz.ntmps18 (by simp) ?_; refine SW.rg fun K hK => ?_; simp -implicitDefEqProofs
  repeat (refine And.intro (by clear hK; first | omega | (intros; simp_all; done) | (intros; grind)) ?_)
  refine hK _ ?_; clear hK K; refine SW.rg fun K hK => ?_; simp -implicitDefEqProofs [hp]; repeat (refine And.intro (by clear hK; first | omega | (intros; simp_all; done) | (intros; grind)) ?_)
  first
    | refine CallQ.fzE (progOk_s p h) (by simp) ?_
    | refine CallK.fzE (progOk_s p h) (by simp) ?_
  simp -implicitDefEqProofs [hp]; repeat (refine And.intro (by clear hK; first | omega | (intros; simp_all; done) | (intros; grind)) ?_)
  refine ⟨.undef, (fun hgg => by cases hgg), ?_⟩; simp -implicitDefEqProofs [hp]; repeat (refine And.intro (by clear hK; first | omega | (intros; simp_all; done) | (intros; grind)) ?_)
  refine hK _ ?_; clear hK K; refine SW.ret ?_; simp [Ex.then, Ex.ib]
  all_goals (simp [meet_touch, hp])
theorem meet_s (p : Prog) (a b : Deed) (h : p.ok) : Fn Tryz.prog 18 [.agg p.fr, .agg a.cl, .agg b.cl] (.bool (meet p a b)) := by
  cases hp : progOk p with
  | false => exact meet_s0 p a b h hp
  | true => exact meet_s1 p a b h hp
end HT
