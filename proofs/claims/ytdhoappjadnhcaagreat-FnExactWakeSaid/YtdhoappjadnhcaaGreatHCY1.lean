import Derived.Test.YtdhoappjadnhcaaGreatHCY0
/-
  My own texts (road H): HCY1.
-/
set_option maxHeartbeats 8000000
set_option linter.unusedSimpArgs false
set_option linter.unusedVariables false
namespace HT
open Go Go.Proofs HK
theorem has_s0 (l : List Int) (v : Int) (hl : l.length ≤ 2 ^ 40) : Fn Tryz.prog 235 [.fz (IntS l), .int .i64 v] (.bool (l.any fun x => decide (x = v))) := by
  refine Fn.intro Tryz.func235 (by decide) rfl (rs := [.tmp 4]) rfl Tryz.ntmps235 (by simp) ?_; refine SW.ra ?_; refine SW.seqK fun K1 hK1 => ?_; refine SW.ra ?_; refine SW.block ?_
  refine SW.loop (α := Nat) (fun k => ⟨[(9, .int .i64 k), (8, .int .i64 l.length), (7, .fz (IntS l)), (1, .int .i64 v)], []⟩) (fun k => k ≤ l.length ∧ ((l.take k).any fun x => decide (x = v)) = false) (fun k => l.length - k) (0) ?_ ?_ (fun k hx => ?_)
  case' refine_1 =>
   exact ⟨by simp, by simp⟩
  case' refine_2 =>
   exact Wk.cut (by simp) (by simp [subE]) (by simp [cutH]) (by simp [lowE, lowN]) (by simp)
  case' refine_3 =>
   skip
   refine SW.ra ?_; refine SW.seqK fun K2 hK2 => ?_; refine SW.cond _ rfl (by simp) ?_ ?_
   case' refine_1 =>
    intro hb1; have hltx : k < l.length := by first | omega | (simp at hb1; omega)
    obtain ⟨x, hxk⟩ : ∃ q, l[k]? = some q := ⟨_, List.getElem?_eq_getElem hltx⟩
    have hst := any_take (f := fun x : Int => decide (x = v)) hxk
    refine SW.skip ?_; refine hK2 _ ?_; refine SW.seqK fun K3 hK3 => ?_; refine SW.block ?_; refine SW.rg fun K hK => ?_; simp -implicitDefEqProofs [hxk]; repeat refine ⟨by omega, ?_⟩
    refine hK _ ?_; clear hK K; refine SW.ra ?_; refine SW.cond _ rfl (by simp) ?_ ?_
    case' refine_1 =>
     intro hb2; have hy : decide (x = v) = true := by simpa using hb2
     have hr : (l.any fun x => decide (x = v)) = true := List.any_eq_true.2 ⟨x, List.mem_of_getElem? hxk, hy⟩
     refine SW.ra ?_; refine SW.ret ?_; simp [Ex.then, Ex.ib]
     all_goals first
       | (simpa using hr)
       | fail
    intro hb2; have hy : decide (x = v) = false := by simpa using hb2
    rw [hx.2, hy] at hst; refine SW.skip ?_; refine hK3 _ ?_; refine SW.ea ?_; refine ⟨k + 1, ⟨by omega, hst⟩, by omega, ?_⟩; exact Wk.cut (by simp) (by simp [subE, wrap1 k (by omega)]) (by simp [cutH]) (by simp [lowE, lowN]) (by simp)
   intro hb1; have hk1 : k = l.length := by simp at hb1; omega
   subst hk1; have hr : (l.any fun x => decide (x = v)) = false := by simpa using hx.2
   refine SW.exit ?_; simp only [Ex.then, Ex.ib]; try simp only [if_true, if_false, reduceIte]
   refine hK1 _ ?_; refine SW.ra ?_; refine SW.ret ?_; simp [Ex.then, Ex.ib]
   all_goals first
     | (simpa using hr)
     | fail
theorem has_s (l : List Int) (v : Int) (hl : l.length ≤ 2 ^ 40) : Fn Tryz.prog 235 [.fz (IntS l), .int .i64 v] (.bool (decide (v ∈ l))) := by
  have h := has_s0 l v hl
  have e : (l.any fun x => decide (x = v)) = decide (v ∈ l) := by rw [Bool.eq_iff_iff]; simp
  rwa [e] at h
theorem mutexOk_s (m : Mutex) (h : m.ok) : Fn Tryz.prog 185 [.agg m.fr] (.bool (muOk m)) := by
  refine Fn.intro Tryz.func185 (by decide) rfl (rs := [.tmp 2]) rfl Tryz.ntmps185 (by simp) ?_; have h1 : m.wait.length ≤ 1048576 := h
  obtain ⟨hd, hhd⟩ : ∃ hd, hd = (decide (m.owner < -1) || (decide (m.owner = -1) && decide (0 < m.wait.length))) := ⟨_, rfl⟩
  refine SW.rb ?_; refine SW.seqK fun K1 hK1 => ?_; refine SW.rb ?_; refine SW.cond _ rfl (by simp) ?_ ?_
  case' refine_1 =>
   intro hb1; have hh : hd = true := by rw [hhd]; simpa using hb1
   have hr : muOk m = false := by unfold muOk; rw [← hhd, hh]; rfl
   refine SW.rb ?_; refine SW.ret ?_; simp [Ex.then, Ex.ib]
   all_goals first
     | (simp [hr]; done)
     | fail
  intro hb1; have hh : hd = false := by rw [hhd]; simpa using hb1
  have hrw : muOk m = waitOk m.owner [] m.wait := by unfold muOk; rw [← hhd, hh]; rfl
  refine SW.skip ?_; refine hK1 _ ?_; refine SW.seqK fun K2 hK2 => ?_; refine SW.rb ?_; refine SW.block ?_
  refine SW.loop (α := Nat) (fun k => ⟨[(22, .int .i64 k), (21, .int .i64 m.wait.length), (20, .fz (IntS m.wait)), (1, .ptr 0 0 0)], [some ⟨2, [m.fr]⟩]⟩) (fun k => k ≤ m.wait.length ∧ waitOk m.owner [] m.wait = waitOk m.owner (m.wait.take k) (m.wait.drop k)) (fun k => m.wait.length - k) (0) ?_ ?_ (fun k hx => ?_)
  case' refine_1 =>
   exact ⟨by simp, by simp⟩
  case' refine_2 =>
   exact Wk.cut (by simp) (by simp [subE]) (by simp [cutH]) (by simp [lowE, lowN]) (by simp)
  case' refine_3 =>
   skip
   refine SW.rb ?_; refine SW.seqK fun K3 hK3 => ?_; refine SW.cond _ rfl (by simp) ?_ ?_
   case' refine_1 =>
    intro hb2; have hltx : k < m.wait.length := by first | omega | (simp at hb2; omega)
    obtain ⟨x, hxk⟩ : ∃ q, m.wait[k]? = some q := ⟨_, List.getElem?_eq_getElem hltx⟩
    have hst := waitOk_step (o := m.owner) hxk
    have hle : k ≤ m.wait.length := by omega
    have htk : (0 : Int) ≤ k := by omega
    refine SW.skip ?_; refine hK3 _ ?_; refine SW.seqK fun K4 hK4 => ?_; refine SW.block ?_; refine SW.rg fun K hK => ?_; simp -implicitDefEqProofs [hxk]
    repeat (refine And.intro (by clear hK; first | omega | (intros; simp_all; done) | (intros; grind)) ?_)
    refine hK _ ?_; clear hK K; refine SW.rg fun K hK => ?_; simp -implicitDefEqProofs [hle, htk]; repeat (refine And.intro (by clear hK; first | omega | (intros; simp_all; done) | (intros; grind)) ?_)
    refine CallG.fzE (by simp) (fun _ => has_s (m.wait.take k) x (by simp; omega)) (by simp [IntS_takeN]) ?_; simp -implicitDefEqProofs [hle, htk]
    repeat (refine And.intro (by clear hK; first | omega | (intros; simp_all; done) | (intros; grind)) ?_)
    refine hK _ ?_; clear hK K; refine SW.cond _ rfl (by simp) ?_ ?_
    case' refine_1 =>
     intro hb3; have hy : (decide (x < 0) || decide (x = m.owner) || decide (x ∈ m.wait.take k)) = true := by simpa [Bool.or_assoc] using hb3
     have hr : muOk m = false := by rw [hrw, hx.2, hst, hy]; rfl
     refine SW.rb ?_; refine SW.ret ?_; simp [Ex.then, Ex.ib]
     all_goals first
       | (simp [hr]; done)
       | fail
    intro hb3
    have hy : (decide (x < 0) || decide (x = m.owner) || decide (x ∈ m.wait.take k)) = false := by
      rw [Bool.eq_false_iff]; intro h9; rw [Bool.eq_false_iff] at hb3; apply hb3; simpa [Bool.or_assoc] using h9
    have hnx : waitOk m.owner [] m.wait = waitOk m.owner (m.wait.take (k + 1)) (m.wait.drop (k + 1)) := by rw [hx.2, hst, hy]; rfl
    refine SW.skip ?_; refine hK4 _ ?_; refine SW.eb ?_; refine ⟨k + 1, ⟨by omega, hnx⟩, by omega, ?_⟩; exact Wk.cut (by simp) (by simp [subE, wrap1 k (by omega)]) (by simp [cutH]) (by simp [lowE, lowN]) (by simp)
   intro hb2; have hk1 : k = m.wait.length := by simp at hb2; omega
   subst hk1; have hr : muOk m = true := by rw [hrw, hx.2, List.drop_length]; rfl
   refine SW.exit ?_; simp only [Ex.then, Ex.ib]; try simp only [if_true, if_false, reduceIte]
   refine hK2 _ ?_; refine SW.rb ?_; refine SW.ret ?_; simp [Ex.then, Ex.ib]
   all_goals first
     | (simp [hr]; done)
     | fail
theorem mutexOk_i (m : Mutex) (h : m.ok) : Fn Tryz.prog 125 [.agg m.fr] (.bool (muOk m)) := by
  refine Fn.intro Tryz.func125 (by decide) rfl (rs := [.tmp 2]) rfl Tryz.ntmps125 (by simp) ?_; have h1 : m.wait.length ≤ 1048576 := h
  obtain ⟨hd, hhd⟩ : ∃ hd, hd = (decide (m.owner < -1) || (decide (m.owner = -1) && decide (0 < m.wait.length))) := ⟨_, rfl⟩
  refine SW.rb ?_; refine SW.seqK fun K1 hK1 => ?_; refine SW.rb ?_; refine SW.cond _ rfl (by simp) ?_ ?_
  case' refine_1 =>
   intro hb1; have hh : hd = true := by rw [hhd]; simpa using hb1
   have hr : muOk m = false := by unfold muOk; rw [← hhd, hh]; rfl
   refine SW.rb ?_; refine SW.ret ?_; simp [Ex.then, Ex.ib]
   all_goals first
     | (simp [hr]; done)
     | fail
  intro hb1; have hh : hd = false := by rw [hhd]; simpa using hb1
  have hrw : muOk m = waitOk m.owner [] m.wait := by unfold muOk; rw [← hhd, hh]; rfl
  refine SW.skip ?_; refine hK1 _ ?_; refine SW.seqK fun K2 hK2 => ?_; refine SW.rb ?_; refine SW.block ?_
  refine SW.loop (α := Nat) (fun k => ⟨[(22, .int .i64 k), (21, .int .i64 m.wait.length), (20, .fz (IntS m.wait)), (1, .ptr 0 0 0)], [some ⟨2, [m.fr]⟩]⟩) (fun k => k ≤ m.wait.length ∧ waitOk m.owner [] m.wait = waitOk m.owner (m.wait.take k) (m.wait.drop k)) (fun k => m.wait.length - k) (0) ?_ ?_ (fun k hx => ?_)
  case' refine_1 =>
   exact ⟨by simp, by simp⟩
  case' refine_2 =>
   exact Wk.cut (by simp) (by simp [subE]) (by simp [cutH]) (by simp [lowE, lowN]) (by simp)
  case' refine_3 =>
   skip
   refine SW.rb ?_; refine SW.seqK fun K3 hK3 => ?_; refine SW.cond _ rfl (by simp) ?_ ?_
   case' refine_1 =>
    intro hb2; have hltx : k < m.wait.length := by first | omega | (simp at hb2; omega)
    obtain ⟨x, hxk⟩ : ∃ q, m.wait[k]? = some q := ⟨_, List.getElem?_eq_getElem hltx⟩
    have hst := waitOk_step (o := m.owner) hxk
    have hle : k ≤ m.wait.length := by omega
    have htk : (0 : Int) ≤ k := by omega
    refine SW.skip ?_; refine hK3 _ ?_; refine SW.seqK fun K4 hK4 => ?_; refine SW.block ?_; refine SW.rg fun K hK => ?_; simp -implicitDefEqProofs [hxk]
    repeat (refine And.intro (by clear hK; first | omega | (intros; simp_all; done) | (intros; grind)) ?_)
    refine hK _ ?_; clear hK K; refine SW.rg fun K hK => ?_; simp -implicitDefEqProofs [hle, htk]; repeat (refine And.intro (by clear hK; first | omega | (intros; simp_all; done) | (intros; grind)) ?_)
    refine CallG.fzE (by simp) (fun _ => contains_ok (m.wait.take k) x (by simp; omega)) (by simp [IntS_takeN]) ?_; simp -implicitDefEqProofs [hle, htk]
    repeat (refine And.intro (by clear hK; first | omega | (intros; simp_all; done) | (intros; grind)) ?_)
    refine hK _ ?_; clear hK K; refine SW.cond _ rfl (by simp) ?_ ?_
    case' refine_1 =>
     intro hb3; have hy : (decide (x < 0) || decide (x = m.owner) || decide (x ∈ m.wait.take k)) = true := by simpa [Bool.or_assoc] using hb3
     have hr : muOk m = false := by rw [hrw, hx.2, hst, hy]; rfl
     refine SW.rb ?_; refine SW.ret ?_; simp [Ex.then, Ex.ib]
     all_goals first
       | (simp [hr]; done)
       | fail
    intro hb3
    have hy : (decide (x < 0) || decide (x = m.owner) || decide (x ∈ m.wait.take k)) = false := by
      rw [Bool.eq_false_iff]; intro h9; rw [Bool.eq_false_iff] at hb3; apply hb3; simpa [Bool.or_assoc] using h9
    have hnx : waitOk m.owner [] m.wait = waitOk m.owner (m.wait.take (k + 1)) (m.wait.drop (k + 1)) := by rw [hx.2, hst, hy]; rfl
    refine SW.skip ?_; refine hK4 _ ?_; refine SW.eb ?_; refine ⟨k + 1, ⟨by omega, hnx⟩, by omega, ?_⟩; exact Wk.cut (by simp) (by simp [subE, wrap1 k (by omega)]) (by simp [cutH]) (by simp [lowE, lowN]) (by simp)
   intro hb2; have hk1 : k = m.wait.length := by simp at hb2; omega
   subst hk1; have hr : muOk m = true := by rw [hrw, hx.2, List.drop_length]; rfl
   refine SW.exit ?_; simp only [Ex.then, Ex.ib]; try simp only [if_true, if_false, reduceIte]
   refine hK2 _ ?_; refine SW.rb ?_; refine SW.ret ?_; simp [Ex.then, Ex.ib]
   all_goals first
     | (simp [hr]; done)
     | fail
theorem mayy_s (p : Prog) (g : Gor) (h : p.ok) (hp : progOk p = true) (ha : atOk p g) (hop : (atI p g).op = 11) : Fn Tryz.prog 104 [.agg p.fr, .agg g.fr] (.bool (mayW p g)) := by
  refine Fn.intro Tryz.func104 (by decide) rfl (rs := [.tmp 4]) rfl Tryz.ntmps104 (by simp) ?_; obtain ⟨x0, i, _, _, hat, _, h11⟩ := at_facts hp ha; rw [hat] at hop; have hI := instr_s p g ha
  rw [hat] at hI; have hm : mayW p g = (decide (i.op = 8) || decide (i.op = 9) || decide (i.op = 12) || (decide (i.op = 11) && match p.sels[i.a.toNat]? with | some s => decide (s.els < 0) | none => false)) := by unfold mayW; rw [hat]; rfl
  obtain ⟨op, a, b, c⟩ := i; try simp only [] at hop h11 hm hI
  subst hop; obtain ⟨hA, hB, s, hs, _⟩ := h11 rfl; try simp only [] at hA hB hs
  rw [hs] at hm; have hel := progOk_els hp hs
  have hlt : a.toNat < p.sels.length := by omega
  have hsE : ∀ q, p.sels[a.toNat]'q = s := fun q => (List.getElem?_eq_some_iff.1 hs).2
  refine SW.rb ?_; refine SW.rg fun K hK => ?_; simp -implicitDefEqProofs; repeat (refine And.intro (by clear hK; first | omega | (intros; simp_all; done) | (intros; grind)) ?_)
  first
    | refine CallQ.fzE (hI) (by simp) ?_
    | refine CallK.fzE (hI) (by simp) ?_
  simp -implicitDefEqProofs; repeat (refine And.intro (by clear hK; first | omega | (intros; simp_all; done) | (intros; grind)) ?_)
  refine hK _ ?_; clear hK K; refine SW.rg fun K hK => ?_; simp -implicitDefEqProofs [hA, hB, hs, hsE, hlt]; repeat (refine And.intro (by clear hK; first | omega | (intros; simp_all; done) | (intros; grind)) ?_)
  refine hK _ ?_; clear hK K; refine SW.ret ?_; simp [Ex.then, Ex.ib]
  all_goals first
    | (rw [hm]; simp; done)
    | (rw [hm]; simp [hop]; done)
    | (rw [hm, Bool.eq_iff_iff]; simp; omega)
    | (rw [hm, Bool.eq_iff_iff]; simp [hop]; done)
    | fail
theorem mayn_s (p : Prog) (g : Gor) (h : p.ok) (hp : progOk p = true) (ha : atOk p g) (hop : ¬ (atI p g).op = 11) (hs : p.sels[(atI p g).a.toNat]? = none) : Fn Tryz.prog 104 [.agg p.fr, .agg g.fr] (.bool (mayW p g)) := by
  refine Fn.intro Tryz.func104 (by decide) rfl (rs := [.tmp 4]) rfl Tryz.ntmps104 (by simp) ?_; obtain ⟨x0, i, _, _, hat, _, h11⟩ := at_facts hp ha; rw [hat] at hop hs; have hI := instr_s p g ha
  rw [hat] at hI; have hm : mayW p g = (decide (i.op = 8) || decide (i.op = 9) || decide (i.op = 12) || (decide (i.op = 11) && match p.sels[i.a.toNat]? with | some s => decide (s.els < 0) | none => false)) := by unfold mayW; rw [hat]; rfl
  obtain ⟨op, a, b, c⟩ := i; try simp only [] at hop h11 hm hI
  try simp only [] at hs
  rw [hs] at hm; have hop2 : (op == 11) = false := by simpa using hop
  refine SW.rb ?_; refine SW.rg fun K hK => ?_; simp -implicitDefEqProofs; repeat (refine And.intro (by clear hK; first | omega | (intros; simp_all; done) | (intros; grind)) ?_)
  first
    | refine CallQ.fzE (hI) (by simp) ?_
    | refine CallK.fzE (hI) (by simp) ?_
  simp -implicitDefEqProofs; repeat (refine And.intro (by clear hK; first | omega | (intros; simp_all; done) | (intros; grind)) ?_)
  refine hK _ ?_; clear hK K; refine SW.rg fun K hK => ?_; simp -implicitDefEqProofs [hop, hop2, hs]; repeat (refine And.intro (by clear hK; first | omega | (intros; simp_all; done) | (intros; grind)) ?_)
  refine hK _ ?_; clear hK K; refine SW.ret ?_; simp [Ex.then, Ex.ib]
  all_goals first
    | (rw [hm]; simp; done)
    | (rw [hm]; simp [hop]; done)
    | (rw [hm, Bool.eq_iff_iff]; simp; omega)
    | (rw [hm, Bool.eq_iff_iff]; simp [hop]; done)
    | fail
theorem maym_s (p : Prog) (g : Gor) (h : p.ok) (hp : progOk p = true) (ha : atOk p g) (hop : ¬ (atI p g).op = 11) (s : Select) (hs : p.sels[(atI p g).a.toNat]? = some s) : Fn Tryz.prog 104 [.agg p.fr, .agg g.fr] (.bool (mayW p g)) := by
  refine Fn.intro Tryz.func104 (by decide) rfl (rs := [.tmp 4]) rfl Tryz.ntmps104 (by simp) ?_; obtain ⟨x0, i, _, _, hat, _, h11⟩ := at_facts hp ha; rw [hat] at hop hs; have hI := instr_s p g ha
  rw [hat] at hI; have hm : mayW p g = (decide (i.op = 8) || decide (i.op = 9) || decide (i.op = 12) || (decide (i.op = 11) && match p.sels[i.a.toNat]? with | some s => decide (s.els < 0) | none => false)) := by unfold mayW; rw [hat]; rfl
  obtain ⟨op, a, b, c⟩ := i; try simp only [] at hop h11 hm hI
  try simp only [] at hs
  rw [hs] at hm; have hop2 : (op == 11) = false := by simpa using hop
  refine SW.rb ?_; refine SW.rg fun K hK => ?_; simp -implicitDefEqProofs; repeat (refine And.intro (by clear hK; first | omega | (intros; simp_all; done) | (intros; grind)) ?_)
  first
    | refine CallQ.fzE (hI) (by simp) ?_
    | refine CallK.fzE (hI) (by simp) ?_
  simp -implicitDefEqProofs; repeat (refine And.intro (by clear hK; first | omega | (intros; simp_all; done) | (intros; grind)) ?_)
  refine hK _ ?_; clear hK K; refine SW.rg fun K hK => ?_; simp -implicitDefEqProofs [hop, hop2, hs]; repeat (refine And.intro (by clear hK; first | omega | (intros; simp_all; done) | (intros; grind)) ?_)
  refine hK _ ?_; clear hK K; refine SW.ret ?_; simp [Ex.then, Ex.ib]
  all_goals first
    | (rw [hm]; simp; done)
    | (rw [hm]; simp [hop]; done)
    | (rw [hm, Bool.eq_iff_iff]; simp; omega)
    | (rw [hm, Bool.eq_iff_iff]; simp [hop]; done)
    | fail
theorem mayy_i (p : Prog) (g : Gor) (h : p.ok) (hg : g.ok) (hk : gorOk p g = true) (hp : progOk p = true) (ha : atOk p g) (hop : (atI p g).op = 11) : Fn Tryz.prog 123 [.agg p.fr, .agg g.fr] (.bool (mayW p g)) := by
  refine Fn.intro Tryz.func123 (by decide) rfl (rs := [.tmp 4]) rfl Tryz.ntmps123 (by simp) ?_; obtain ⟨x0, i, _, _, hat, _, h11⟩ := at_facts hp ha; rw [hat] at hop; have hI := instr_i p g ha
  rw [hat] at hI; have hm : mayW p g = (decide (i.op = 8) || decide (i.op = 9) || decide (i.op = 12) || (decide (i.op = 11) && match p.sels[i.a.toNat]? with | some s => decide (s.els < 0) | none => false)) := by unfold mayW; rw [hat]; rfl
  obtain ⟨op, a, b, c⟩ := i; try simp only [] at hop h11 hm hI
  subst hop; obtain ⟨hA, hB, s, hs, _⟩ := h11 rfl; try simp only [] at hA hB hs
  rw [hs] at hm; have hel := progOk_els hp hs
  have hlt : a.toNat < p.sels.length := by omega
  have hsE : ∀ q, p.sels[a.toNat]'q = s := fun q => (List.getElem?_eq_some_iff.1 hs).2
  refine SW.rb ?_; refine SW.seqK fun K1 hK1 => ?_; refine SW.rg fun K hK => ?_; simp -implicitDefEqProofs [hk]; repeat (refine And.intro (by clear hK; first | omega | (intros; simp_all; done) | (intros; grind)) ?_)
  first
    | refine CallQ.fzE (gorOk_i p g h hg) (by simp) ?_
    | refine CallK.fzE (gorOk_i p g h hg) (by simp) ?_
  simp -implicitDefEqProofs [hk]; repeat (refine And.intro (by clear hK; first | omega | (intros; simp_all; done) | (intros; grind)) ?_)
  refine hK _ ?_; clear hK K; refine SW.cond _ rfl (by simp) ?_ ?_
  case' refine_1 =>
   intro hb1; exfalso; simp at hb1
  intro hb1; refine SW.skip ?_; refine hK1 _ ?_; refine SW.rg fun K hK => ?_; simp -implicitDefEqProofs; repeat (refine And.intro (by clear hK; first | omega | (intros; simp_all; done) | (intros; grind)) ?_)
  first
    | refine CallQ.fzE (hI) (by simp) ?_
    | refine CallK.fzE (hI) (by simp) ?_
  simp -implicitDefEqProofs; repeat (refine And.intro (by clear hK; first | omega | (intros; simp_all; done) | (intros; grind)) ?_)
  refine hK _ ?_; clear hK K; refine SW.rg fun K hK => ?_; simp -implicitDefEqProofs [hA, hB, hs, hsE, hlt]; repeat (refine And.intro (by clear hK; first | omega | (intros; simp_all; done) | (intros; grind)) ?_)
  refine hK _ ?_; clear hK K; refine SW.ret ?_; simp [Ex.then, Ex.ib]
  all_goals first
    | (rw [hm]; simp; done)
    | (rw [hm]; simp [hop]; done)
    | (rw [hm, Bool.eq_iff_iff]; simp; omega)
    | (rw [hm, Bool.eq_iff_iff]; simp [hop]; done)
    | fail
theorem mayn_i (p : Prog) (g : Gor) (h : p.ok) (hg : g.ok) (hk : gorOk p g = true) (hp : progOk p = true) (ha : atOk p g) (hop : ¬ (atI p g).op = 11) (hs : p.sels[(atI p g).a.toNat]? = none) : Fn Tryz.prog 123 [.agg p.fr, .agg g.fr] (.bool (mayW p g)) := by
  refine Fn.intro Tryz.func123 (by decide) rfl (rs := [.tmp 4]) rfl Tryz.ntmps123 (by simp) ?_; obtain ⟨x0, i, _, _, hat, _, h11⟩ := at_facts hp ha; rw [hat] at hop hs; have hI := instr_i p g ha
  rw [hat] at hI; have hm : mayW p g = (decide (i.op = 8) || decide (i.op = 9) || decide (i.op = 12) || (decide (i.op = 11) && match p.sels[i.a.toNat]? with | some s => decide (s.els < 0) | none => false)) := by unfold mayW; rw [hat]; rfl
  obtain ⟨op, a, b, c⟩ := i; try simp only [] at hop h11 hm hI
  try simp only [] at hs
  rw [hs] at hm; have hop2 : (op == 11) = false := by simpa using hop
  refine SW.rb ?_; refine SW.seqK fun K1 hK1 => ?_; refine SW.rg fun K hK => ?_; simp -implicitDefEqProofs [hk]; repeat (refine And.intro (by clear hK; first | omega | (intros; simp_all; done) | (intros; grind)) ?_)
  first
    | refine CallQ.fzE (gorOk_i p g h hg) (by simp) ?_
    | refine CallK.fzE (gorOk_i p g h hg) (by simp) ?_
  simp -implicitDefEqProofs [hk]; repeat (refine And.intro (by clear hK; first | omega | (intros; simp_all; done) | (intros; grind)) ?_)
  refine hK _ ?_; clear hK K; refine SW.cond _ rfl (by simp) ?_ ?_
  case' refine_1 =>
   intro hb1; exfalso; simp at hb1
  intro hb1; refine SW.skip ?_; refine hK1 _ ?_; refine SW.rg fun K hK => ?_; simp -implicitDefEqProofs; repeat (refine And.intro (by clear hK; first | omega | (intros; simp_all; done) | (intros; grind)) ?_)
  first
    | refine CallQ.fzE (hI) (by simp) ?_
    | refine CallK.fzE (hI) (by simp) ?_
  simp -implicitDefEqProofs; repeat (refine And.intro (by clear hK; first | omega | (intros; simp_all; done) | (intros; grind)) ?_)
  refine hK _ ?_; clear hK K; refine SW.rg fun K hK => ?_; simp -implicitDefEqProofs [hop, hop2, hs]; repeat (refine And.intro (by clear hK; first | omega | (intros; simp_all; done) | (intros; grind)) ?_)
  refine hK _ ?_; clear hK K; refine SW.ret ?_; simp [Ex.then, Ex.ib]
  all_goals first
    | (rw [hm]; simp; done)
    | (rw [hm]; simp [hop]; done)
    | (rw [hm, Bool.eq_iff_iff]; simp; omega)
    | (rw [hm, Bool.eq_iff_iff]; simp [hop]; done)
    | fail
theorem maym_i (p : Prog) (g : Gor) (h : p.ok) (hg : g.ok) (hk : gorOk p g = true) (hp : progOk p = true) (ha : atOk p g) (hop : ¬ (atI p g).op = 11) (s : Select) (hs : p.sels[(atI p g).a.toNat]? = some s) : Fn Tryz.prog 123 [.agg p.fr, .agg g.fr] (.bool (mayW p g)) := by
  refine Fn.intro Tryz.func123 (by decide) rfl (rs := [.tmp 4]) rfl Tryz.ntmps123 (by simp) ?_; obtain ⟨x0, i, _, _, hat, _, h11⟩ := at_facts hp ha; rw [hat] at hop hs; have hI := instr_i p g ha
  rw [hat] at hI; have hm : mayW p g = (decide (i.op = 8) || decide (i.op = 9) || decide (i.op = 12) || (decide (i.op = 11) && match p.sels[i.a.toNat]? with | some s => decide (s.els < 0) | none => false)) := by unfold mayW; rw [hat]; rfl
  obtain ⟨op, a, b, c⟩ := i; try simp only [] at hop h11 hm hI
  try simp only [] at hs
  rw [hs] at hm; have hop2 : (op == 11) = false := by simpa using hop
  refine SW.rb ?_; refine SW.seqK fun K1 hK1 => ?_; refine SW.rg fun K hK => ?_; simp -implicitDefEqProofs [hk]; repeat (refine And.intro (by clear hK; first | omega | (intros; simp_all; done) | (intros; grind)) ?_)
  first
    | refine CallQ.fzE (gorOk_i p g h hg) (by simp) ?_
    | refine CallK.fzE (gorOk_i p g h hg) (by simp) ?_
  simp -implicitDefEqProofs [hk]; repeat (refine And.intro (by clear hK; first | omega | (intros; simp_all; done) | (intros; grind)) ?_)
  refine hK _ ?_; clear hK K; refine SW.cond _ rfl (by simp) ?_ ?_
  case' refine_1 =>
   intro hb1; exfalso; simp at hb1
  intro hb1; refine SW.skip ?_; refine hK1 _ ?_; refine SW.rg fun K hK => ?_; simp -implicitDefEqProofs; repeat (refine And.intro (by clear hK; first | omega | (intros; simp_all; done) | (intros; grind)) ?_)
  first
    | refine CallQ.fzE (hI) (by simp) ?_
    | refine CallK.fzE (hI) (by simp) ?_
  simp -implicitDefEqProofs; repeat (refine And.intro (by clear hK; first | omega | (intros; simp_all; done) | (intros; grind)) ?_)
  refine hK _ ?_; clear hK K; refine SW.rg fun K hK => ?_; simp -implicitDefEqProofs [hop, hop2, hs]; repeat (refine And.intro (by clear hK; first | omega | (intros; simp_all; done) | (intros; grind)) ?_)
  refine hK _ ?_; clear hK K; refine SW.ret ?_; simp [Ex.then, Ex.ib]
  all_goals first
    | (rw [hm]; simp; done)
    | (rw [hm]; simp [hop]; done)
    | (rw [hm, Bool.eq_iff_iff]; simp; omega)
    | (rw [hm, Bool.eq_iff_iff]; simp [hop]; done)
    | fail
theorem may_s (p : Prog) (g : Gor) (h : p.ok) (hp : progOk p = true) (ha : atOk p g) : Fn Tryz.prog 104 [.agg p.fr, .agg g.fr] (.bool (mayW p g)) := by
  by_cases hop : (atI p g).op = 11
  · exact mayy_s p g h hp ha hop
  · cases hs : p.sels[(atI p g).a.toNat]? with
    | none => exact mayn_s p g h hp ha hop hs
    | some s => exact maym_s p g h hp ha hop s hs
theorem may_i (p : Prog) (g : Gor) (h : p.ok) (hg : g.ok) (hk : gorOk p g = true) : Fn Tryz.prog 123 [.agg p.fr, .agg g.fr] (.bool (mayW p g)) := by
  have hp : progOk p = true := by simp only [gorOk, Bool.and_eq_true] at hk; exact hk.1
  by_cases hop : (atI p g).op = 11
  · exact mayy_i p g h hg hk hp (gor_at hk) hop
  · cases hs : p.sels[(atI p g).a.toNat]? with
    | none => exact mayn_i p g h hg hk hp (gor_at hk) hop hs
    | some s => exact maym_i p g h hg hk hp (gor_at hk) hop s hs
end HT
