import Derived.Test.YtohfnikklggjjaaGreatHGVG
import Derived.Test.YtohfnikklggjjaaGreatHGW3
import Derived.Test.YtohfnikklggjjaaGreatHK52
/-
  My own texts (road H): HGWF.
-/
set_option linter.unusedSimpArgs false
set_option linter.unusedVariables false
namespace HT
open Go Go.Proofs HK
def swL (l : List Deed) (k : Nat) (x y : Deed) : List Deed := (l.set k y).set (k + 1) x
@[simp] theorem swL_len (l : List Deed) (k : Nat) (x y : Deed) : (swL l k x y).length = l.length := by simp [swL]
theorem tupD_okI (l : List Deed) : okI (.tup [.own 4 (DeedS l), .bool true]) = true := by
  have := DeedS_okI l
  simp [okI] at this ⊢; try exact this
theorem DeedS_oc {l : List Deed} {x : List AV} {y : AV} (hx : x ∈ DeedS l) (hy : y ∈ x) : oc y = true ∧ plain y = true := by
  obtain ⟨d, _, rfl⟩ := List.mem_map.1 hx; simp at hy; rcases hy with rfl | rfl | rfl | rfl <;> exact ⟨rfl, rfl⟩
theorem DeedS_strM (l : List Deed) : ∀ x ∈ DeedS l, ∀ y ∈ x, strN 4 y = true := fun x hx y hy => by
  obtain ⟨d, _, rfl⟩ := List.mem_map.1 hx; simp at hy; rcases hy with rfl | rfl | rfl | rfl <;> rfl
@[simp] theorem swL_take (l : List Deed) (k : Nat) (x y : Deed) : List.take l.length (DeedS (swL l k x y)) = DeedS (swL l k x y) := by
  have := DeedS_take (swL l k x y)
  rw [swL_len] at this; exact this
theorem swL_cells (l : List Deed) (k n : Nat) (x y : Deed) (hn : n = l.length) : List.take n (((DeedS l).set k [.int .i64 y.g, .int .i64 y.op, .int .i64 y.obj, .int .i64 y.cas]).set (k + 1) [.int .i64 x.g, .int .i64 x.op, .int .i64 x.obj, .int .i64 x.cas]) = DeedS (swL l k x y) := by
  subst hn
  show List.take _ (((DeedS l).set k y.cl).set (k + 1) x.cl) = _
  rw [DeedS_setL, DeedS_setL]; have := DeedS_take (swL l k x y)
  rw [swL_len] at this; exact this
theorem eqDeedS_nil : Fn Tryz.prog 10 [.nil, .nil] (.bool true) := Fn.nil2 (eqDeedS_ok [] (by simp))
set_option maxHeartbeats 1000000 in
theorem cloneD_ok (l : List Deed) (hl : l.length ≤ 2 ^ 30) : Fn Tryz.prog 24 [.fz (DeedS l)] (.own 4 (DeedS l)) := by
  refine Fn.intro Tryz.func24 (by decide) rfl (rs := [.tmp 2]) rfl Tryz.ntmps24 (by simp) ?_; refine SW.rg fun K hK => ?_; simp -implicitDefEqProofs; repeat refine ⟨by omega, ?_⟩
  refine hK _ ?_; clear hK K; refine SW.seqK fun K1 hK1 => ?_; refine SW.regionNil fun K hK => ?_; simp [nilK, elemsN, -Bool.forall_bool]; intro b hbn; refine hK _ ?_; clear hK K; refine SW.cond _ rfl (by simp) ?_ ?_
  case' refine_2 =>
   intro hb1; refine SW.skip ?_; refine hK1 _ ?_; refine SW.rg fun K hK => ?_; simp -implicitDefEqProofs; refine ⟨⟨fun e he => DeedS_len he, fun x hx y hy => DeedS_oc hx hy, by omega⟩, hK _ ?_⟩; clear hK K; refine SW.ret ?_
   simp [Ex.then, Ex.ib, -strN]
   all_goals first | done | rfl | (exfalso; rw [hm] at hb2; cases hb2; done) | exact ⟨rfl, rfl⟩ | (rw [swL_cells _ _ _ _ _ rfl]; exact ⟨⟨fun a h1 b h2 => DeedS_strM _ a h1 b h2, by simp⟩, rfl⟩) | (rw [swL_cells _ _ _ _ _ rfl]; exact ⟨⟨fun a h1 b h2 => DeedS_strM _ a h1 b h2, rfl⟩, rfl⟩) | exact DeedS_strM _ | (intro x hx y hy; exact DeedS_strM _ x hx y hy) | fail
  rotate_right
  case' _ =>
   intro hb1; have hb2 : b = true := by simpa using hb1
   have hl0 : l = [] := by simpa [DeedS] using hbn hb2
   subst hl0; refine SW.rg fun K hK => ?_; simp -implicitDefEqProofs; refine hK _ (SW.wk (Wk.soft (env' := [(2, .own 4 [])]) (by simp [softE, softV])) ?_); clear hK K; refine SW.ret ?_; simp [Ex.then, Ex.ib, -strN]
   all_goals first | done | rfl | (exfalso; rw [hm] at hb2; cases hb2; done) | exact ⟨rfl, rfl⟩ | (rw [swL_cells _ _ _ _ _ rfl]; exact ⟨⟨fun a h1 b h2 => DeedS_strM _ a h1 b h2, by simp⟩, rfl⟩) | (rw [swL_cells _ _ _ _ _ rfl]; exact ⟨⟨fun a h1 b h2 => DeedS_strM _ a h1 b h2, rfl⟩, rfl⟩) | exact DeedS_strM _ | (intro x hx y hy; exact DeedS_strM _ x hx y hy) | fail
set_option maxHeartbeats 1000000 in
theorem swap_sy (p : Prog) (l : List Deed) (k : Nat) (x y : Deed) (h : p.ok) (hl : l.length ≤ 1048576) (hx : l[k]? = some x) (hy : l[k + 1]? = some y) (hm : meet p x y = false) : Fn Tryz.prog 6 [.agg p.fr, .fz (DeedS l), .int .i64 (k : Nat)] (.tup [.own 4 (DeedS (swL l k x y)), .bool true]) := by
  refine Fn.intro Tryz.func6 (by decide) rfl (rs := [.tmp 6, .tmp 7]) rfl Tryz.ntmps6 (by simp) ?_; have hlt : k < l.length := (List.getElem?_eq_some_iff.1 hx).1
  have hlt1 : k + 1 < l.length := (List.getElem?_eq_some_iff.1 hy).1
  have hw := wrapI ((k : Int) + 1) (by omega) (by omega)
  have hw2 := wrapI ((l.length : Int) - 1) (by omega) (by omega)
  have hc : ((k : Int) + 1).toNat = k + 1 := by omega
  have hxE : ∀ h, l[k]'h = x := fun h => (List.getElem?_eq_some_iff.1 hx).2
  have hyE : ∀ h, l[k + 1]'h = y := fun h => (List.getElem?_eq_some_iff.1 hy).2
  refine SW.rg fun K hK => ?_; simp -implicitDefEqProofs; repeat (refine And.intro (by clear hK; first | omega | (intros; omega) | (intros; simp_all; done) | (intros; grind)) ?_)
  refine hK _ ?_; clear hK K; refine SW.seqK fun K1 hK1 => ?_; refine SW.rg fun K hK => ?_; simp -implicitDefEqProofs [hx, hy, hxE, hyE, hw, hw2, hc, hlt, hlt1, DeedS_setL]
  repeat (refine And.intro (by clear hK; first | omega | (intros; omega) | (intros; simp_all; done) | (intros; grind)) ?_)
  refine hK _ ?_; clear hK K; refine SW.cond _ rfl (by simp) ?_ ?_
  case' refine_2 =>
   intro hb1
   first
   | (exfalso; simp at hb1; done)
   | (exfalso; simp at hb1; omega)
   | (
    refine SW.skip ?_; refine hK1 _ ?_; refine SW.seqK fun K2 hK2 => ?_
    refine SW.drawK mixed [.q [(0, false), (1, false), (2, false), (3, false), (4, false), (5, false), (6, false), (7, false), (8, false), (9, false), (10, false)]] (by kernel_rfl) rfl fun K hK => ?_
    simp -implicitDefEqProofs [hx, hy, hxE, hyE, hw, hw2, hc, hlt, hlt1, DeedS_setL]; repeat (refine And.intro (by clear hK; first | omega | (intros; omega) | (intros; simp_all; done) | (intros; grind)) ?_)
    first
      | refine CallQ.fzE (meet_s p x y h) (by simp) ?_
      | refine CallK.fzE (meet_s p x y h) (by simp) ?_
    simp -implicitDefEqProofs [hx, hy, hxE, hyE, hw, hw2, hc, hlt, hlt1, DeedS_setL]; repeat (refine And.intro (by clear hK; first | omega | (intros; omega) | (intros; simp_all; done) | (intros; grind)) ?_)
    refine hK _ ?_; clear hK K; refine SW.cond _ rfl (by simp) ?_ ?_
    case' refine_2 =>
     intro hb2; rw [hm] at hb2
     first
     | (exfalso; simp at hb2; done)
     | (exfalso; simp at hb2; omega)
     | (
      refine SW.skip ?_; refine hK2 _ ?_; refine SW.rg fun K hK => ?_; simp -implicitDefEqProofs [hx, hy, hxE, hyE, hw, hw2, hc, hlt, hlt1, DeedS_setL]; refine ⟨⟨fun e he => DeedS_len he, fun x hx y hy => DeedS_oc hx hy, by omega⟩, hK _ ?_⟩
      clear hK K; refine SW.rg fun K hK => ?_; simp -implicitDefEqProofs [hx, hy, hxE, hyE, hw, hw2, hc, hlt, hlt1, DeedS_setL]
      repeat (refine And.intro (by clear hK; first | omega | (intros; omega) | (intros; simp_all; done) | (intros; grind)) ?_)
      refine hK _ ?_; clear hK K; refine SW.rg fun K hK => ?_; simp -implicitDefEqProofs [hx, hy, hxE, hyE, hw, hw2, hc, hlt, hlt1, DeedS_setL]
      repeat (refine And.intro (by clear hK; first | omega | (intros; omega) | (intros; simp_all; done) | (intros; grind)) ?_)
      refine hK _ ?_; clear hK K; refine SW.rg fun K hK => ?_; simp -implicitDefEqProofs [hx, hy, hxE, hyE, hw, hw2, hc, hlt, hlt1, DeedS_setL]
      repeat (refine And.intro (by clear hK; first | omega | (intros; omega) | (intros; simp_all; done) | (intros; grind)) ?_)
      refine hK _ ?_; clear hK K; refine SW.ret ?_; simp [Ex.then, Ex.ib, -strN]
      all_goals first | done | rfl | (exfalso; rw [hm] at hb2; cases hb2; done) | exact ⟨rfl, rfl⟩ | (rw [swL_cells _ _ _ _ _ rfl]; exact ⟨⟨fun a h1 b h2 => DeedS_strM _ a h1 b h2, by simp⟩, rfl⟩) | (rw [swL_cells _ _ _ _ _ rfl]; exact ⟨⟨fun a h1 b h2 => DeedS_strM _ a h1 b h2, rfl⟩, rfl⟩) | exact DeedS_strM _ | (intro x hx y hy; exact DeedS_strM _ x hx y hy) | fail)
    rotate_right
    case' _ =>
     intro hb2; rw [hm] at hb2
     first
     | (exfalso; simp at hb2; done)
     | (exfalso; simp at hb2; omega)
     | (
      refine SW.rg fun K hK => ?_; simp -implicitDefEqProofs [hx, hy, hxE, hyE, hw, hw2, hc, hlt, hlt1, DeedS_setL]; repeat (refine And.intro (by clear hK; first | omega | (intros; omega) | (intros; simp_all; done) | (intros; grind)) ?_)
      refine hK _ ?_; clear hK K; refine SW.ret ?_; simp [Ex.then, Ex.ib, -strN]
      all_goals first | done | rfl | (exfalso; rw [hm] at hb2; cases hb2; done) | exact ⟨rfl, rfl⟩ | (rw [swL_cells _ _ _ _ _ rfl]; exact ⟨⟨fun a h1 b h2 => DeedS_strM _ a h1 b h2, by simp⟩, rfl⟩) | (rw [swL_cells _ _ _ _ _ rfl]; exact ⟨⟨fun a h1 b h2 => DeedS_strM _ a h1 b h2, rfl⟩, rfl⟩) | exact DeedS_strM _ | (intro x hx y hy; exact DeedS_strM _ x hx y hy) | fail))
  rotate_right
  case' _ =>
   intro hb1
   first
   | (exfalso; simp at hb1; done)
   | (exfalso; simp at hb1; omega)
   | (
    refine SW.rg fun K hK => ?_; simp -implicitDefEqProofs [hx, hy, hxE, hyE, hw, hw2, hc, hlt, hlt1, DeedS_setL]; repeat (refine And.intro (by clear hK; first | omega | (intros; omega) | (intros; simp_all; done) | (intros; grind)) ?_)
    refine hK _ ?_; clear hK K; refine SW.ret ?_; simp [Ex.then, Ex.ib, -strN]
    all_goals first | done | rfl | (exfalso; rw [hm] at hb2; cases hb2; done) | exact ⟨rfl, rfl⟩ | (rw [swL_cells _ _ _ _ _ rfl]; exact ⟨⟨fun a h1 b h2 => DeedS_strM _ a h1 b h2, by simp⟩, rfl⟩) | (rw [swL_cells _ _ _ _ _ rfl]; exact ⟨⟨fun a h1 b h2 => DeedS_strM _ a h1 b h2, rfl⟩, rfl⟩) | exact DeedS_strM _ | (intro x hx y hy; exact DeedS_strM _ x hx y hy) | fail)
set_option maxHeartbeats 1000000 in
theorem swap_sn (p : Prog) (l : List Deed) (k : Nat) (x y : Deed) (h : p.ok) (hl : l.length ≤ 1048576) (hx : l[k]? = some x) (hy : l[k + 1]? = some y) (hm : meet p x y = true) : Fn Tryz.prog 6 [.agg p.fr, .fz (DeedS l), .int .i64 (k : Nat)] (.tup [.nil, .bool false]) := by
  refine Fn.intro Tryz.func6 (by decide) rfl (rs := [.tmp 6, .tmp 7]) rfl Tryz.ntmps6 (by simp) ?_; have hlt : k < l.length := (List.getElem?_eq_some_iff.1 hx).1
  have hlt1 : k + 1 < l.length := (List.getElem?_eq_some_iff.1 hy).1
  have hw := wrapI ((k : Int) + 1) (by omega) (by omega)
  have hw2 := wrapI ((l.length : Int) - 1) (by omega) (by omega)
  have hc : ((k : Int) + 1).toNat = k + 1 := by omega
  have hxE : ∀ h, l[k]'h = x := fun h => (List.getElem?_eq_some_iff.1 hx).2
  have hyE : ∀ h, l[k + 1]'h = y := fun h => (List.getElem?_eq_some_iff.1 hy).2
  refine SW.rg fun K hK => ?_; simp -implicitDefEqProofs; repeat (refine And.intro (by clear hK; first | omega | (intros; omega) | (intros; simp_all; done) | (intros; grind)) ?_)
  refine hK _ ?_; clear hK K; refine SW.seqK fun K1 hK1 => ?_; refine SW.rg fun K hK => ?_; simp -implicitDefEqProofs [hx, hy, hxE, hyE, hw, hw2, hc, hlt, hlt1, DeedS_setL]
  repeat (refine And.intro (by clear hK; first | omega | (intros; omega) | (intros; simp_all; done) | (intros; grind)) ?_)
  refine hK _ ?_; clear hK K; refine SW.cond _ rfl (by simp) ?_ ?_
  case' refine_2 =>
   intro hb1
   first
   | (exfalso; simp at hb1; done)
   | (exfalso; simp at hb1; omega)
   | (
    refine SW.skip ?_; refine hK1 _ ?_; refine SW.seqK fun K2 hK2 => ?_
    refine SW.drawK mixed [.q [(0, false), (1, false), (2, false), (3, false), (4, false), (5, false), (6, false), (7, false), (8, false), (9, false), (10, false)]] (by kernel_rfl) rfl fun K hK => ?_
    simp -implicitDefEqProofs [hx, hy, hxE, hyE, hw, hw2, hc, hlt, hlt1, DeedS_setL]; repeat (refine And.intro (by clear hK; first | omega | (intros; omega) | (intros; simp_all; done) | (intros; grind)) ?_)
    first
      | refine CallQ.fzE (meet_s p x y h) (by simp) ?_
      | refine CallK.fzE (meet_s p x y h) (by simp) ?_
    simp -implicitDefEqProofs [hx, hy, hxE, hyE, hw, hw2, hc, hlt, hlt1, DeedS_setL]; repeat (refine And.intro (by clear hK; first | omega | (intros; omega) | (intros; simp_all; done) | (intros; grind)) ?_)
    refine hK _ ?_; clear hK K; refine SW.cond _ rfl (by simp) ?_ ?_
    case' refine_2 =>
     intro hb2; rw [hm] at hb2
     first
     | (exfalso; simp at hb2; done)
     | (exfalso; simp at hb2; omega)
     | (
      refine SW.skip ?_; refine hK2 _ ?_; refine SW.rg fun K hK => ?_; simp -implicitDefEqProofs [hx, hy, hxE, hyE, hw, hw2, hc, hlt, hlt1, DeedS_setL]; refine ⟨⟨fun e he => DeedS_len he, fun x hx y hy => DeedS_oc hx hy, by omega⟩, hK _ ?_⟩
      clear hK K; refine SW.rg fun K hK => ?_; simp -implicitDefEqProofs [hx, hy, hxE, hyE, hw, hw2, hc, hlt, hlt1, DeedS_setL]
      repeat (refine And.intro (by clear hK; first | omega | (intros; omega) | (intros; simp_all; done) | (intros; grind)) ?_)
      refine hK _ ?_; clear hK K; refine SW.rg fun K hK => ?_; simp -implicitDefEqProofs [hx, hy, hxE, hyE, hw, hw2, hc, hlt, hlt1, DeedS_setL]
      repeat (refine And.intro (by clear hK; first | omega | (intros; omega) | (intros; simp_all; done) | (intros; grind)) ?_)
      refine hK _ ?_; clear hK K; refine SW.rg fun K hK => ?_; simp -implicitDefEqProofs [hx, hy, hxE, hyE, hw, hw2, hc, hlt, hlt1, DeedS_setL]
      repeat (refine And.intro (by clear hK; first | omega | (intros; omega) | (intros; simp_all; done) | (intros; grind)) ?_)
      refine hK _ ?_; clear hK K; refine SW.ret ?_; simp [Ex.then, Ex.ib, -strN]
      all_goals first | done | rfl | (exfalso; rw [hm] at hb2; cases hb2; done) | exact ⟨rfl, rfl⟩ | (rw [swL_cells _ _ _ _ _ rfl]; exact ⟨⟨fun a h1 b h2 => DeedS_strM _ a h1 b h2, by simp⟩, rfl⟩) | (rw [swL_cells _ _ _ _ _ rfl]; exact ⟨⟨fun a h1 b h2 => DeedS_strM _ a h1 b h2, rfl⟩, rfl⟩) | exact DeedS_strM _ | (intro x hx y hy; exact DeedS_strM _ x hx y hy) | fail)
    rotate_right
    case' _ =>
     intro hb2; rw [hm] at hb2
     first
     | (exfalso; simp at hb2; done)
     | (exfalso; simp at hb2; omega)
     | (
      refine SW.rg fun K hK => ?_; simp -implicitDefEqProofs [hx, hy, hxE, hyE, hw, hw2, hc, hlt, hlt1, DeedS_setL]; repeat (refine And.intro (by clear hK; first | omega | (intros; omega) | (intros; simp_all; done) | (intros; grind)) ?_)
      refine hK _ ?_; clear hK K; refine SW.ret ?_; simp [Ex.then, Ex.ib, -strN]
      all_goals first | done | rfl | (exfalso; rw [hm] at hb2; cases hb2; done) | exact ⟨rfl, rfl⟩ | (rw [swL_cells _ _ _ _ _ rfl]; exact ⟨⟨fun a h1 b h2 => DeedS_strM _ a h1 b h2, by simp⟩, rfl⟩) | (rw [swL_cells _ _ _ _ _ rfl]; exact ⟨⟨fun a h1 b h2 => DeedS_strM _ a h1 b h2, rfl⟩, rfl⟩) | exact DeedS_strM _ | (intro x hx y hy; exact DeedS_strM _ x hx y hy) | fail))
  rotate_right
  case' _ =>
   intro hb1
   first
   | (exfalso; simp at hb1; done)
   | (exfalso; simp at hb1; omega)
   | (
    refine SW.rg fun K hK => ?_; simp -implicitDefEqProofs [hx, hy, hxE, hyE, hw, hw2, hc, hlt, hlt1, DeedS_setL]; repeat (refine And.intro (by clear hK; first | omega | (intros; omega) | (intros; simp_all; done) | (intros; grind)) ?_)
    refine hK _ ?_; clear hK K; refine SW.ret ?_; simp [Ex.then, Ex.ib, -strN]
    all_goals first | done | rfl | (exfalso; rw [hm] at hb2; cases hb2; done) | exact ⟨rfl, rfl⟩ | (rw [swL_cells _ _ _ _ _ rfl]; exact ⟨⟨fun a h1 b h2 => DeedS_strM _ a h1 b h2, by simp⟩, rfl⟩) | (rw [swL_cells _ _ _ _ _ rfl]; exact ⟨⟨fun a h1 b h2 => DeedS_strM _ a h1 b h2, rfl⟩, rfl⟩) | exact DeedS_strM _ | (intro x hx y hy; exact DeedS_strM _ x hx y hy) | fail)
set_option maxHeartbeats 1000000 in
theorem swap_sm (p : Prog) (l : List Deed) (n : Int) (h : p.ok) (hl : l.length ≤ 1048576) (hn : n < 0 ∨ (l.length : Int) - 1 ≤ n) : Fn Tryz.prog 6 [.agg p.fr, .fz (DeedS l), .int .i64 n] (.tup [.nil, .bool false]) := by
  refine Fn.intro Tryz.func6 (by decide) rfl (rs := [.tmp 6, .tmp 7]) rfl Tryz.ntmps6 (by simp) ?_; have hw2 := wrapI ((l.length : Int) - 1) (by omega) (by omega)
  refine SW.rg fun K hK => ?_; simp -implicitDefEqProofs; repeat (refine And.intro (by clear hK; first | omega | (intros; omega) | (intros; simp_all; done) | (intros; grind)) ?_)
  refine hK _ ?_; clear hK K; refine SW.seqK fun K1 hK1 => ?_; refine SW.rg fun K hK => ?_; simp -implicitDefEqProofs [hw2, hn]
  repeat (refine And.intro (by clear hK; first | omega | (intros; omega) | (intros; simp_all; done) | (intros; grind)) ?_)
  refine hK _ ?_; clear hK K; refine SW.cond _ rfl (by simp) ?_ ?_
  case' refine_2 =>
   intro hb1
   first
   | (exfalso; simp at hb1; done)
   | (exfalso; simp at hb1; omega)
   | (
    refine SW.skip ?_; refine hK1 _ ?_; refine SW.seqK fun K2 hK2 => ?_
    refine SW.drawK mixed [.q [(0, false), (1, false), (2, false), (3, false), (4, false), (5, false), (6, false), (7, false), (8, false), (9, false), (10, false)]] (by kernel_rfl) rfl fun K hK => ?_; simp -implicitDefEqProofs
    repeat (refine And.intro (by clear hK; first | omega | (intros; omega) | (intros; simp_all; done) | (intros; grind)) ?_)
    fail
    simp -implicitDefEqProofs; repeat (refine And.intro (by clear hK; first | omega | (intros; omega) | (intros; simp_all; done) | (intros; grind)) ?_)
    refine hK _ ?_; clear hK K; refine SW.cond _ rfl (by simp) ?_ ?_
    case' refine_2 =>
     intro hb2
     first
     | (exfalso; simp at hb2; done)
     | (exfalso; simp at hb2; omega)
     | (
      refine SW.skip ?_; refine hK2 _ ?_; refine SW.rg fun K hK => ?_; simp -implicitDefEqProofs; repeat (refine And.intro (by clear hK; first | omega | (intros; omega) | (intros; simp_all; done) | (intros; grind)) ?_)
      refine hK _ ?_; clear hK K; refine SW.rg fun K hK => ?_; simp -implicitDefEqProofs; repeat (refine And.intro (by clear hK; first | omega | (intros; omega) | (intros; simp_all; done) | (intros; grind)) ?_)
      refine hK _ ?_; clear hK K; refine SW.rg fun K hK => ?_; simp -implicitDefEqProofs; repeat (refine And.intro (by clear hK; first | omega | (intros; omega) | (intros; simp_all; done) | (intros; grind)) ?_)
      refine hK _ ?_; clear hK K; refine SW.rg fun K hK => ?_; simp -implicitDefEqProofs; repeat (refine And.intro (by clear hK; first | omega | (intros; omega) | (intros; simp_all; done) | (intros; grind)) ?_)
      refine hK _ ?_; clear hK K; refine SW.ret ?_; simp [Ex.then, Ex.ib, -strN]
      all_goals first | done | rfl | (exfalso; rw [hm] at hb2; cases hb2; done) | exact ⟨rfl, rfl⟩ | (rw [swL_cells _ _ _ _ _ rfl]; exact ⟨⟨fun a h1 b h2 => DeedS_strM _ a h1 b h2, by simp⟩, rfl⟩) | (rw [swL_cells _ _ _ _ _ rfl]; exact ⟨⟨fun a h1 b h2 => DeedS_strM _ a h1 b h2, rfl⟩, rfl⟩) | exact DeedS_strM _ | (intro x hx y hy; exact DeedS_strM _ x hx y hy) | fail)
    rotate_right
    case' _ =>
     intro hb2
     first
     | (exfalso; simp at hb2; done)
     | (exfalso; simp at hb2; omega)
     | (
      refine SW.rg fun K hK => ?_; simp -implicitDefEqProofs; repeat (refine And.intro (by clear hK; first | omega | (intros; omega) | (intros; simp_all; done) | (intros; grind)) ?_)
      refine hK _ ?_; clear hK K; refine SW.ret ?_; simp [Ex.then, Ex.ib, -strN]
      all_goals first | done | rfl | (exfalso; rw [hm] at hb2; cases hb2; done) | exact ⟨rfl, rfl⟩ | (rw [swL_cells _ _ _ _ _ rfl]; exact ⟨⟨fun a h1 b h2 => DeedS_strM _ a h1 b h2, by simp⟩, rfl⟩) | (rw [swL_cells _ _ _ _ _ rfl]; exact ⟨⟨fun a h1 b h2 => DeedS_strM _ a h1 b h2, rfl⟩, rfl⟩) | exact DeedS_strM _ | (intro x hx y hy; exact DeedS_strM _ x hx y hy) | fail))
  rotate_right
  case' _ =>
   intro hb1
   first
   | (exfalso; simp at hb1; done)
   | (exfalso; simp at hb1; omega)
   | (
    refine SW.rg fun K hK => ?_; simp -implicitDefEqProofs; repeat (refine And.intro (by clear hK; first | omega | (intros; omega) | (intros; simp_all; done) | (intros; grind)) ?_)
    refine hK _ ?_; clear hK K; refine SW.ret ?_; simp [Ex.then, Ex.ib, -strN]
    all_goals first | done | rfl | (exfalso; rw [hm] at hb2; cases hb2; done) | exact ⟨rfl, rfl⟩ | (rw [swL_cells _ _ _ _ _ rfl]; exact ⟨⟨fun a h1 b h2 => DeedS_strM _ a h1 b h2, by simp⟩, rfl⟩) | (rw [swL_cells _ _ _ _ _ rfl]; exact ⟨⟨fun a h1 b h2 => DeedS_strM _ a h1 b h2, rfl⟩, rfl⟩) | exact DeedS_strM _ | (intro x hx y hy; exact DeedS_strM _ x hx y hy) | fail)
set_option maxHeartbeats 1000000 in
theorem swap_iy (p : Prog) (l : List Deed) (k : Nat) (x y : Deed) (h : p.ok) (hl : l.length ≤ 1048576) (hx : l[k]? = some x) (hy : l[k + 1]? = some y) (hm : meet p x y = false) : Fn Tryz.prog 9 [.agg p.fr, .fz (DeedS l), .int .i64 (k : Nat)] (.tup [.own 4 (DeedS (swL l k x y)), .bool true]) := by
  refine Fn.intro Tryz.func9 (by decide) rfl (rs := [.tmp 6, .tmp 7]) rfl Tryz.ntmps9 (by simp) ?_; have hlt : k < l.length := (List.getElem?_eq_some_iff.1 hx).1
  have hlt1 : k + 1 < l.length := (List.getElem?_eq_some_iff.1 hy).1
  have hw := wrapI ((k : Int) + 1) (by omega) (by omega)
  have hw2 := wrapI ((l.length : Int) - 1) (by omega) (by omega)
  have hc : ((k : Int) + 1).toNat = k + 1 := by omega
  have hxE : ∀ h, l[k]'h = x := fun h => (List.getElem?_eq_some_iff.1 hx).2
  have hyE : ∀ h, l[k + 1]'h = y := fun h => (List.getElem?_eq_some_iff.1 hy).2
  refine SW.rg fun K hK => ?_; simp -implicitDefEqProofs; repeat (refine And.intro (by clear hK; first | omega | (intros; omega) | (intros; simp_all; done) | (intros; grind)) ?_)
  refine hK _ ?_; clear hK K; refine SW.seqK fun K1 hK1 => ?_
  refine SW.drawK mixed [.q [(0, false), (1, false), (2, false), (3, false), (4, false), (5, false), (6, false), (7, false), (8, false), (9, false), (10, false), (11, false), (12, false), (13, false), (14, false), (15, false), (16, false), (17, false), (18, false), (19, false), (20, false), (21, false)]] (by kernel_rfl) rfl fun K hK => ?_
  simp -implicitDefEqProofs [hx, hy, hxE, hyE, hw, hw2, hc, hlt, hlt1, DeedS_setL]; repeat (refine And.intro (by clear hK; first | omega | (intros; omega) | (intros; simp_all; done) | (intros; grind)) ?_)
  first
    | refine CallQG.fzE (by simp) (fun _ => meet_i p x y h) (by simp) ?_
    | refine CallG.fzE (by simp) (fun _ => meet_i p x y h) (by simp) ?_
    | refine CallQ.fzE (meet_i p x y h) (by simp) ?_
  simp -implicitDefEqProofs [hx, hy, hxE, hyE, hw, hw2, hc, hlt, hlt1, DeedS_setL]; repeat (refine And.intro (by clear hK; first | omega | (intros; omega) | (intros; simp_all; done) | (intros; grind)) ?_)
  refine hK _ ?_; clear hK K; refine SW.cond _ rfl (by simp) ?_ ?_
  case' refine_2 =>
   intro hb1; rw [hm] at hb1
   first
   | (exfalso; simp at hb1; done)
   | (exfalso; simp at hb1; omega)
   | (
    refine SW.skip ?_; refine hK1 _ ?_; refine SW.rg fun K hK => ?_; simp -implicitDefEqProofs [hx, hy, hxE, hyE, hw, hw2, hc, hlt, hlt1, DeedS_setL]
    repeat (refine And.intro (by clear hK; first | omega | (intros; omega) | (intros; simp_all; done) | (intros; grind)) ?_)
    refine CallK.imE (cloneD_ok l (by omega)) (by simp) (DeedS_okI _) ?_; simp -implicitDefEqProofs [hx, hy, hxE, hyE, hw, hw2, hc, hlt, hlt1, DeedS_setL]
    repeat (refine And.intro (by clear hK; first | omega | (intros; omega) | (intros; simp_all; done) | (intros; grind)) ?_)
    refine hK _ ?_; clear hK K
    refine SW.drawXK mixed [(0, false), (1, false), (2, false), (3, false), (4, false), (5, false), (6, false), (7, false), (8, false), (9, false), (10, false), (11, false), (12, false), (13, false), (14, false)] 15 [2, 3, 4] [.q [(16, false)], .b 17] (by kernel_rfl) rfl fun K hK => ?_
    simp -implicitDefEqProofs [hx, hy, hxE, hyE, hw, hw2, hc, hlt, hlt1, DeedS_setL]; repeat (refine And.intro (by clear hK; first | omega | (intros; omega) | (intros; simp_all; done) | (intros; grind)) ?_)
    refine hK _ ?_; clear hK K; refine SW.rg fun K hK => ?_; simp -implicitDefEqProofs [hx, hy, hxE, hyE, hw, hw2, hc, hlt, hlt1, DeedS_setL]
    repeat (refine And.intro (by clear hK; first | omega | (intros; omega) | (intros; simp_all; done) | (intros; grind)) ?_)
    refine hK _ ?_; clear hK K; refine SW.ret ?_; simp [Ex.then, Ex.ib, -strN]
    all_goals first | done | rfl | (exfalso; rw [hm] at hb2; cases hb2; done) | exact ⟨rfl, rfl⟩ | (rw [swL_cells _ _ _ _ _ rfl]; exact ⟨⟨fun a h1 b h2 => DeedS_strM _ a h1 b h2, by simp⟩, rfl⟩) | (rw [swL_cells _ _ _ _ _ rfl]; exact ⟨⟨fun a h1 b h2 => DeedS_strM _ a h1 b h2, rfl⟩, rfl⟩) | exact DeedS_strM _ | (intro x hx y hy; exact DeedS_strM _ x hx y hy) | fail)
  rotate_right
  case' _ =>
   intro hb1; rw [hm] at hb1
   first
   | (exfalso; simp at hb1; done)
   | (exfalso; simp at hb1; omega)
   | (
    refine SW.rg fun K hK => ?_; simp -implicitDefEqProofs [hx, hy, hxE, hyE, hw, hw2, hc, hlt, hlt1, DeedS_setL]; repeat (refine And.intro (by clear hK; first | omega | (intros; omega) | (intros; simp_all; done) | (intros; grind)) ?_)
    refine hK _ ?_; clear hK K; refine SW.ret ?_; simp [Ex.then, Ex.ib, -strN]
    all_goals first | done | rfl | (exfalso; rw [hm] at hb2; cases hb2; done) | exact ⟨rfl, rfl⟩ | (rw [swL_cells _ _ _ _ _ rfl]; exact ⟨⟨fun a h1 b h2 => DeedS_strM _ a h1 b h2, by simp⟩, rfl⟩) | (rw [swL_cells _ _ _ _ _ rfl]; exact ⟨⟨fun a h1 b h2 => DeedS_strM _ a h1 b h2, rfl⟩, rfl⟩) | exact DeedS_strM _ | (intro x hx y hy; exact DeedS_strM _ x hx y hy) | fail)
set_option maxHeartbeats 1000000 in
theorem swap_in (p : Prog) (l : List Deed) (k : Nat) (x y : Deed) (h : p.ok) (hl : l.length ≤ 1048576) (hx : l[k]? = some x) (hy : l[k + 1]? = some y) (hm : meet p x y = true) : Fn Tryz.prog 9 [.agg p.fr, .fz (DeedS l), .int .i64 (k : Nat)] (.tup [.nil, .bool false]) := by
  refine Fn.intro Tryz.func9 (by decide) rfl (rs := [.tmp 6, .tmp 7]) rfl Tryz.ntmps9 (by simp) ?_; have hlt : k < l.length := (List.getElem?_eq_some_iff.1 hx).1
  have hlt1 : k + 1 < l.length := (List.getElem?_eq_some_iff.1 hy).1
  have hw := wrapI ((k : Int) + 1) (by omega) (by omega)
  have hw2 := wrapI ((l.length : Int) - 1) (by omega) (by omega)
  have hc : ((k : Int) + 1).toNat = k + 1 := by omega
  have hxE : ∀ h, l[k]'h = x := fun h => (List.getElem?_eq_some_iff.1 hx).2
  have hyE : ∀ h, l[k + 1]'h = y := fun h => (List.getElem?_eq_some_iff.1 hy).2
  refine SW.rg fun K hK => ?_; simp -implicitDefEqProofs; repeat (refine And.intro (by clear hK; first | omega | (intros; omega) | (intros; simp_all; done) | (intros; grind)) ?_)
  refine hK _ ?_; clear hK K; refine SW.seqK fun K1 hK1 => ?_
  refine SW.drawK mixed [.q [(0, false), (1, false), (2, false), (3, false), (4, false), (5, false), (6, false), (7, false), (8, false), (9, false), (10, false), (11, false), (12, false), (13, false), (14, false), (15, false), (16, false), (17, false), (18, false), (19, false), (20, false), (21, false)]] (by kernel_rfl) rfl fun K hK => ?_
  simp -implicitDefEqProofs [hx, hy, hxE, hyE, hw, hw2, hc, hlt, hlt1, DeedS_setL]; repeat (refine And.intro (by clear hK; first | omega | (intros; omega) | (intros; simp_all; done) | (intros; grind)) ?_)
  first
    | refine CallQG.fzE (by simp) (fun _ => meet_i p x y h) (by simp) ?_
    | refine CallG.fzE (by simp) (fun _ => meet_i p x y h) (by simp) ?_
    | refine CallQ.fzE (meet_i p x y h) (by simp) ?_
  simp -implicitDefEqProofs [hx, hy, hxE, hyE, hw, hw2, hc, hlt, hlt1, DeedS_setL]; repeat (refine And.intro (by clear hK; first | omega | (intros; omega) | (intros; simp_all; done) | (intros; grind)) ?_)
  refine hK _ ?_; clear hK K; refine SW.cond _ rfl (by simp) ?_ ?_
  case' refine_2 =>
   intro hb1; rw [hm] at hb1
   first
   | (exfalso; simp at hb1; done)
   | (exfalso; simp at hb1; omega)
   | (
    refine SW.skip ?_; refine hK1 _ ?_; refine SW.rg fun K hK => ?_; simp -implicitDefEqProofs [hx, hy, hxE, hyE, hw, hw2, hc, hlt, hlt1, DeedS_setL]
    repeat (refine And.intro (by clear hK; first | omega | (intros; omega) | (intros; simp_all; done) | (intros; grind)) ?_)
    fail
    simp -implicitDefEqProofs [hx, hy, hxE, hyE, hw, hw2, hc, hlt, hlt1, DeedS_setL]; repeat (refine And.intro (by clear hK; first | omega | (intros; omega) | (intros; simp_all; done) | (intros; grind)) ?_)
    refine hK _ ?_; clear hK K
    refine SW.drawXK mixed [(0, false), (1, false), (2, false), (3, false), (4, false), (5, false), (6, false), (7, false), (8, false), (9, false), (10, false), (11, false), (12, false), (13, false), (14, false)] 15 [2, 3, 4] [.q [(16, false)], .b 17] (by kernel_rfl) rfl fun K hK => ?_
    simp -implicitDefEqProofs [hx, hy, hxE, hyE, hw, hw2, hc, hlt, hlt1, DeedS_setL]; repeat (refine And.intro (by clear hK; first | omega | (intros; omega) | (intros; simp_all; done) | (intros; grind)) ?_)
    refine hK _ ?_; clear hK K; refine SW.rg fun K hK => ?_; simp -implicitDefEqProofs [hx, hy, hxE, hyE, hw, hw2, hc, hlt, hlt1, DeedS_setL]
    repeat (refine And.intro (by clear hK; first | omega | (intros; omega) | (intros; simp_all; done) | (intros; grind)) ?_)
    refine hK _ ?_; clear hK K; refine SW.ret ?_; simp [Ex.then, Ex.ib, -strN]
    all_goals first | done | rfl | (exfalso; rw [hm] at hb2; cases hb2; done) | exact ⟨rfl, rfl⟩ | (rw [swL_cells _ _ _ _ _ rfl]; exact ⟨⟨fun a h1 b h2 => DeedS_strM _ a h1 b h2, by simp⟩, rfl⟩) | (rw [swL_cells _ _ _ _ _ rfl]; exact ⟨⟨fun a h1 b h2 => DeedS_strM _ a h1 b h2, rfl⟩, rfl⟩) | exact DeedS_strM _ | (intro x hx y hy; exact DeedS_strM _ x hx y hy) | fail)
  rotate_right
  case' _ =>
   intro hb1; rw [hm] at hb1
   first
   | (exfalso; simp at hb1; done)
   | (exfalso; simp at hb1; omega)
   | (
    refine SW.rg fun K hK => ?_; simp -implicitDefEqProofs [hx, hy, hxE, hyE, hw, hw2, hc, hlt, hlt1, DeedS_setL]; repeat (refine And.intro (by clear hK; first | omega | (intros; omega) | (intros; simp_all; done) | (intros; grind)) ?_)
    refine hK _ ?_; clear hK K; refine SW.ret ?_; simp [Ex.then, Ex.ib, -strN]
    all_goals first | done | rfl | (exfalso; rw [hm] at hb2; cases hb2; done) | exact ⟨rfl, rfl⟩ | (rw [swL_cells _ _ _ _ _ rfl]; exact ⟨⟨fun a h1 b h2 => DeedS_strM _ a h1 b h2, by simp⟩, rfl⟩) | (rw [swL_cells _ _ _ _ _ rfl]; exact ⟨⟨fun a h1 b h2 => DeedS_strM _ a h1 b h2, rfl⟩, rfl⟩) | exact DeedS_strM _ | (intro x hx y hy; exact DeedS_strM _ x hx y hy) | fail)
set_option maxHeartbeats 1000000 in
theorem swap_im (p : Prog) (l : List Deed) (n : Int) (h : p.ok) (hl : l.length ≤ 1048576) (hn : n < 0 ∨ (l.length : Int) - 1 ≤ n) : Fn Tryz.prog 9 [.agg p.fr, .fz (DeedS l), .int .i64 n] (.tup [.nil, .bool false]) := by
  refine Fn.intro Tryz.func9 (by decide) rfl (rs := [.tmp 6, .tmp 7]) rfl Tryz.ntmps9 (by simp) ?_; have hw2 := wrapI ((l.length : Int) - 1) (by omega) (by omega)
  refine SW.rg fun K hK => ?_; simp -implicitDefEqProofs; repeat (refine And.intro (by clear hK; first | omega | (intros; omega) | (intros; simp_all; done) | (intros; grind)) ?_)
  refine hK _ ?_; clear hK K; refine SW.seqK fun K1 hK1 => ?_
  refine SW.drawK mixed [.q [(0, false), (1, false), (2, false), (3, false), (4, false), (5, false), (6, false), (7, false), (8, false), (9, false), (10, false), (11, false), (12, false), (13, false), (14, false), (15, false), (16, false), (17, false), (18, false), (19, false), (20, false), (21, false)]] (by kernel_rfl) rfl fun K hK => ?_
  simp -implicitDefEqProofs [hw2, hn]; repeat (refine And.intro (by clear hK; first | omega | (intros; omega) | (intros; simp_all; done) | (intros; grind)) ?_)
  refine ⟨.undef, (fun hgg => by first | cases hgg | (simp at hgg; omega)), ?_⟩; simp -implicitDefEqProofs [hw2, hn]; repeat (refine And.intro (by clear hK; first | omega | (intros; omega) | (intros; simp_all; done) | (intros; grind)) ?_)
  refine hK _ ?_; clear hK K; refine SW.cond _ rfl (by simp) ?_ ?_
  case' refine_2 =>
   intro hb1
   first
   | (exfalso; simp at hb1; done)
   | (exfalso; simp at hb1; omega)
   | (
    refine SW.skip ?_; refine hK1 _ ?_; refine SW.rg fun K hK => ?_; simp -implicitDefEqProofs; repeat (refine And.intro (by clear hK; first | omega | (intros; omega) | (intros; simp_all; done) | (intros; grind)) ?_)
    fail
    simp -implicitDefEqProofs; repeat (refine And.intro (by clear hK; first | omega | (intros; omega) | (intros; simp_all; done) | (intros; grind)) ?_)
    refine hK _ ?_; clear hK K
    refine SW.drawXK mixed [(0, false), (1, false), (2, false), (3, false), (4, false), (5, false), (6, false), (7, false), (8, false), (9, false), (10, false), (11, false), (12, false), (13, false), (14, false)] 15 [2, 3, 4] [.q [(16, false)], .b 17] (by kernel_rfl) rfl fun K hK => ?_
    simp -implicitDefEqProofs; repeat (refine And.intro (by clear hK; first | omega | (intros; omega) | (intros; simp_all; done) | (intros; grind)) ?_)
    refine hK _ ?_; clear hK K; refine SW.rg fun K hK => ?_; simp -implicitDefEqProofs; repeat (refine And.intro (by clear hK; first | omega | (intros; omega) | (intros; simp_all; done) | (intros; grind)) ?_)
    refine hK _ ?_; clear hK K; refine SW.ret ?_; simp [Ex.then, Ex.ib, -strN]
    all_goals first | done | rfl | (exfalso; rw [hm] at hb2; cases hb2; done) | exact ⟨rfl, rfl⟩ | (rw [swL_cells _ _ _ _ _ rfl]; exact ⟨⟨fun a h1 b h2 => DeedS_strM _ a h1 b h2, by simp⟩, rfl⟩) | (rw [swL_cells _ _ _ _ _ rfl]; exact ⟨⟨fun a h1 b h2 => DeedS_strM _ a h1 b h2, rfl⟩, rfl⟩) | exact DeedS_strM _ | (intro x hx y hy; exact DeedS_strM _ x hx y hy) | fail)
  rotate_right
  case' _ =>
   intro hb1
   first
   | (exfalso; simp at hb1; done)
   | (exfalso; simp at hb1; omega)
   | (
    refine SW.rg fun K hK => ?_; simp -implicitDefEqProofs; repeat (refine And.intro (by clear hK; first | omega | (intros; omega) | (intros; simp_all; done) | (intros; grind)) ?_)
    refine hK _ ?_; clear hK K; refine SW.ret ?_; simp [Ex.then, Ex.ib, -strN]
    all_goals first | done | rfl | (exfalso; rw [hm] at hb2; cases hb2; done) | exact ⟨rfl, rfl⟩ | (rw [swL_cells _ _ _ _ _ rfl]; exact ⟨⟨fun a h1 b h2 => DeedS_strM _ a h1 b h2, by simp⟩, rfl⟩) | (rw [swL_cells _ _ _ _ _ rfl]; exact ⟨⟨fun a h1 b h2 => DeedS_strM _ a h1 b h2, rfl⟩, rfl⟩) | exact DeedS_strM _ | (intro x hx y hy; exact DeedS_strM _ x hx y hy) | fail)
end HT
