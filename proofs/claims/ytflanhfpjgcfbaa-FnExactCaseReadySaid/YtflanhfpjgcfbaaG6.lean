import Derived.Test.YtflanhfpjgcfbaaG4
import Derived.Test.YtflanhfpjgcfbaaG5
/-
  My own texts (road H): HT5 HTA.
-/
set_option linter.unusedSimpArgs false
namespace HT
open Go Go.Proofs HK
theorem snoc {α : Type} (l : List α) : l = [] ∨ ∃ a x, l = a ++ [x] := by
  rcases List.eq_nil_or_concat l with h | ⟨a, x, h⟩
  · exact .inl h
  · exact .inr ⟨a, x, by simpa using h⟩
/-- A trace without its end. -/
def trc (l : List Item) : List Item := match l.getLast? with
  | some x => if x.kind == 9 then l.dropLast else l
  | none => l
theorem trc_nil : trc [] = [] := rfl
theorem trc_yes {a : List Item} {x : Item} (h : x.kind = 9) : trc (a ++ [x]) = a := by simp [trc, h]
theorem trc_no {a : List Item} {x : Item} (h : ¬ x.kind = 9) : trc (a ++ [x]) = a ++ [x] := by simp [trc, h]
theorem trc_le (l : List Item) : (trc l).length ≤ l.length := by
  unfold trc; split <;> (try split) <;> simp
theorem ItemS_snoc (a : List Item) (x : Item) : ItemS (a ++ [x]) = ItemS a ++ [x.cl] := by simp [ItemS]
theorem ItemS_oc {l : List Item} {x : List AV} {y : AV} (hx : x ∈ ItemS l) (hy : y ∈ x) : oc y = true ∧ plain y = true := by
  obtain ⟨d, _, rfl⟩ := List.mem_map.1 hx
  simp at hy
  rcases hy with rfl | rfl | rfl | rfl <;> exact ⟨rfl, rfl⟩
theorem ItemS_strM (l : List Item) : ∀ x ∈ ItemS l, ∀ y ∈ x, strN 4 y = true := fun x hx y hy => by
  obtain ⟨d, _, rfl⟩ := List.mem_map.1 hx
  simp at hy
  rcases hy with rfl | rfl | rfl | rfl <;> rfl
theorem wrm1 : IntKind.i64.wrap (-1) = -1 := wrapI (-1) (by omega) (by omega)
theorem Item_eqc (a b : Item) : eqc a.cl b.cl = decide (a = b) := by
  cases a; cases b
  simp [eqc]
  rw [Bool.eq_iff_iff]
  simp
theorem ItemS_sh {l : List Item} (h : ItemS l = []) : l = [] := by simpa [ItemS] using h
set_option maxHeartbeats 1000000 in
theorem l14Trace_ok (p pc s : Int) (r : List Int) (l : List Item) (hl : l.length ≤ 2 ^ 29) : Fn Try.prog 61 [.agg [.int .i64 p, .int .i64 pc, .fz (IntS r), .int .i64 s, .fz (ItemS l)]] (.own 4 (ItemS (trc l))) := by
  refine Fn.intro Try.func61 (by decide) rfl (rs := [.tmp 2]) rfl Try.ntmps61 (by simp) ?_
  refine SW.regionK fun K hK => ?_
  simp -implicitDefEqProofs
  first | refine hK _ ?_ | refine ⟨by omega, hK _ ?_⟩ | refine ⟨by omega, by omega, hK _ ?_⟩
  clear hK K
  rcases snoc l with rfl | ⟨a, x, rfl⟩
  rotate_left
  have hw := wrapI (a.length : Int) (by omega) (by simp at hl; omega)
  rotate_right
  all_goals (
   refine SW.regionK fun K hK => ?_
   simp -implicitDefEqProofs
   first
     | refine hK _ ?_
     | refine ⟨⟨fun e he => ItemS_len he, fun x hx y hy => ItemS_oc hx hy, by omega⟩, hK _ ?_⟩
     | (simp at hl; refine ⟨⟨fun e he => ItemS_len he, fun x hx y hy => ItemS_oc hx hy, by omega⟩, hK _ ?_⟩)
   clear hK K
   refine SW.seqK fun K1 hK1 => ?_
   refine SW.regionK fun K hK => ?_
   first | simp -implicitDefEqProofs [hw] | simp -implicitDefEqProofs
   first | refine hK _ ?_ | refine ⟨by omega, hK _ ?_⟩ | refine ⟨by omega, by omega, hK _ ?_⟩
   clear hK K
   refine SW.cond _ rfl (by simp) ?_ ?_
   case' refine_2 =>
    intro hb1
    first
    | (exfalso; simp at hb1; done)
    | (exfalso; simp at hb1; omega)
    | (
     first | (have h9 : ¬ x.kind = 9 := by simpa using hb1) | skip
     refine SW.skip ?_)
   rotate_right
   case' _ =>
    intro hb1
    first
    | (exfalso; simp at hb1; done)
    | (exfalso; simp at hb1; omega)
    | (
     have h9 : x.kind = 9 := by simpa using hb1
     refine SW.regionE fun K hK => ?_
     simp -implicitDefEqProofs [hw]
     first | refine hK _ ?_ | refine ⟨by omega, hK _ ?_⟩ | refine ⟨by omega, by omega, hK _ ?_⟩
     clear hK K)
   all_goals (
    refine hK1 _ ?_
    refine SW.regionK fun K hK => ?_
    simp -implicitDefEqProofs
    first | refine hK _ ?_ | refine ⟨by omega, hK _ ?_⟩ | refine ⟨by omega, by omega, hK _ ?_⟩
    clear hK K
    refine SW.ret ?_
    simp [Ex.then, Ex.inBlock, -strN]
    first
      | (simp [trc_nil]; done)
      | (rw [ItemS_takeN, List.take_left' rfl, trc_yes h9]; exact ⟨ItemS_strM _, rfl⟩)
      | (rw [ItemS_takeN, List.take_of_length_le (by simp), trc_no h9]; exact ⟨ItemS_strM _, rfl⟩)
      | fail))
set_option maxHeartbeats 1000000 in
theorem cloneI_ok (l : List Item) (hl : l.length ≤ 2 ^ 30) : Fn Try.prog 62 [.fz (ItemS l)] (.own 4 (ItemS l)) := by
  refine Fn.intro Try.func62 (by decide) rfl (rs := [.tmp 2]) rfl Try.ntmps62 (by simp) ?_
  refine SW.regionK fun K hK => ?_
  simp -implicitDefEqProofs
  first | refine hK _ ?_ | refine ⟨by omega, hK _ ?_⟩ | refine ⟨by omega, by omega, hK _ ?_⟩
  clear hK K
  refine SW.seqK fun K1 hK1 => ?_
  refine SW.regionNil fun K hK => ?_
  simp [nilK, elemsN, -Bool.forall_bool]
  intro b hbn
  refine hK _ ?_; clear hK K
  refine SW.cond _ rfl (by simp) ?_ ?_
  case' refine_2 =>
   intro hb1
   refine SW.skip ?_
   refine hK1 _ ?_
   refine SW.regionK fun K hK => ?_
   simp -implicitDefEqProofs
   refine ⟨⟨fun e he => ItemS_len he, fun x hx y hy => ItemS_oc hx hy, by omega⟩, hK _ ?_⟩
   clear hK K
   refine SW.ret ?_
   simp [Ex.then, Ex.inBlock, -strN]
   all_goals first | done | rfl | exact ItemS_strM _ | (intro x hx y hy; exact ItemS_strM _ x hx y hy) | skip
  rotate_right
  case' _ =>
   intro hb1
   have hb2 : b = true := by simpa using hb1
   have hl0 := ItemS_sh (hbn hb2)
   subst hl0
   refine SW.regionK fun K hK => ?_
   simp -implicitDefEqProofs
   refine hK _ (SW.wk (Wk.soft (env' := [(2, .own 4 [])]) (by simp [softE, softV])) ?_)
   clear hK K
   refine SW.ret ?_
   simp [Ex.then, Ex.inBlock, -strN]
   all_goals first | done | rfl | exact ItemS_strM _ | (intro x hx y hy; exact ItemS_strM _ x hx y hy) | skip
set_option maxHeartbeats 1000000 in
theorem within_ok (a b c : Int) : Fn Try.prog 58 [.int .i64 a, .int .i64 b, .int .i64 c] (.bool (decide (b ≤ a) && decide (a < c))) := by
  refine Fn.intro Try.func58 (by decide) rfl (rs := [.tmp 6]) rfl Try.ntmps58 (by simp) ?_
  refine SW.regionK fun K hK => ?_
  simp -implicitDefEqProofs
  first | refine hK _ ?_ | refine ⟨by omega, hK _ ?_⟩ | refine ⟨by omega, by omega, hK _ ?_⟩
  clear hK K
  refine SW.regionK fun K hK => ?_
  simp -implicitDefEqProofs
  first | refine hK _ ?_ | refine ⟨by omega, hK _ ?_⟩ | refine ⟨by omega, by omega, hK _ ?_⟩
  clear hK K
  refine SW.ret ?_
  simp [Ex.then, Ex.inBlock]
set_option maxHeartbeats 1000000 in
theorem traceOf_sy (e : Eng) (N : Nat) (g : Gor) (hg : e.gs[N]? = some g) (hl : g.trace.length ≤ 2 ^ 29) : Fn Try.prog 18 [.agg e.fr, .int .i64 (N : Nat)] (.own 4 (ItemS (trc g.trace))) := by
  refine Fn.intro Try.func18 (by decide) rfl (rs := [.tmp 4]) rfl Try.ntmps18 (by simp) ?_
  have hlt : N < e.gs.length := (List.getElem?_eq_some_iff.1 hg).1
  have hgE : ∀ h, e.gs[N]'h = g := fun h => (List.getElem?_eq_some_iff.1 hg).2
  refine SW.regionK fun K hK => ?_
  simp -implicitDefEqProofs
  first | refine hK _ ?_ | refine ⟨by omega, hK _ ?_⟩ | refine ⟨by omega, by omega, hK _ ?_⟩
  clear hK K
  refine SW.seqK fun K1 hK1 => ?_
  refine SW.regionK fun K hK => ?_
  simp -implicitDefEqProofs [hlt]
  first | refine hK _ ?_ | refine ⟨by omega, hK _ ?_⟩ | refine ⟨by omega, by omega, hK _ ?_⟩
  clear hK K
  refine SW.cond _ rfl (by simp) ?_ ?_
  case' refine_2 =>
   intro hb1
   first
   | (exfalso; simp at hb1; done)
   | (exfalso; simp at hb1; omega)
   | (
    refine SW.skip ?_
    refine hK1 _ ?_
    refine SW.regionK fun K hK => ?_
    simp -implicitDefEqProofs [hg, hgE, hlt]
    first | refine ⟨by omega, by omega, ?_⟩ | refine ⟨by omega, ?_⟩ | skip
    refine CallK.imE (l14Trace_ok g.proc g.pc g.state g.regs g.trace hl) (by simp) (ItemS_okI _) ?_
    simp -implicitDefEqProofs [hg, hgE, hlt]
    first | refine hK _ ?_ | refine ⟨by omega, hK _ ?_⟩ | refine ⟨by omega, by omega, hK _ ?_⟩
    clear hK K
    refine SW.ret ?_
    simp [Ex.then, Ex.inBlock, -strN]
    all_goals first | done | rfl | exact ItemS_strM _ | (intro x hx y hy; exact ItemS_strM _ x hx y hy) | skip)
  rotate_right
  case' _ =>
   intro hb1
   first
   | (exfalso; simp at hb1; done)
   | (exfalso; simp at hb1; omega)
   | (
    refine SW.regionK fun K hK => ?_
    simp -implicitDefEqProofs
    first | refine hK _ ?_ | refine ⟨by omega, hK _ ?_⟩ | refine ⟨by omega, by omega, hK _ ?_⟩
    clear hK K
    refine SW.ret ?_
    simp [Ex.then, Ex.inBlock, -strN]
    all_goals first | done | rfl | exact ItemS_strM _ | (intro x hx y hy; exact ItemS_strM _ x hx y hy) | skip)
set_option maxHeartbeats 1000000 in
theorem traceOf_sn (e : Eng) (n : Int) (hn : ¬ (0 ≤ n ∧ n < e.gs.length)) : Fn Try.prog 18 [.agg e.fr, .int .i64 n] (.nil) := by
  refine Fn.intro Try.func18 (by decide) rfl (rs := [.tmp 4]) rfl Try.ntmps18 (by simp) ?_
  refine SW.regionK fun K hK => ?_
  simp -implicitDefEqProofs
  first | refine hK _ ?_ | refine ⟨by omega, hK _ ?_⟩ | refine ⟨by omega, by omega, hK _ ?_⟩
  clear hK K
  refine SW.seqK fun K1 hK1 => ?_
  refine SW.regionK fun K hK => ?_
  simp -implicitDefEqProofs
  first | refine hK _ ?_ | refine ⟨by omega, hK _ ?_⟩ | refine ⟨by omega, by omega, hK _ ?_⟩
  clear hK K
  refine SW.cond _ rfl (by simp) ?_ ?_
  case' refine_2 =>
   intro hb1
   first
   | (exfalso; simp at hb1; done)
   | (exfalso; simp at hb1; omega)
   | (
    refine SW.skip ?_
    refine hK1 _ ?_
    refine SW.regionK fun K hK => ?_
    simp -implicitDefEqProofs
    first | refine ⟨by omega, by omega, ?_⟩ | refine ⟨by omega, ?_⟩ | skip
    fail
    simp -implicitDefEqProofs
    first | refine hK _ ?_ | refine ⟨by omega, hK _ ?_⟩ | refine ⟨by omega, by omega, hK _ ?_⟩
    clear hK K
    refine SW.ret ?_
    simp [Ex.then, Ex.inBlock, -strN]
    all_goals first | done | rfl | exact ItemS_strM _ | (intro x hx y hy; exact ItemS_strM _ x hx y hy) | skip)
  rotate_right
  case' _ =>
   intro hb1
   first
   | (exfalso; simp at hb1; done)
   | (exfalso; simp at hb1; omega)
   | (
    refine SW.regionK fun K hK => ?_
    simp -implicitDefEqProofs
    first | refine hK _ ?_ | refine ⟨by omega, hK _ ?_⟩ | refine ⟨by omega, by omega, hK _ ?_⟩
    clear hK K
    refine SW.ret ?_
    simp [Ex.then, Ex.inBlock, -strN]
    all_goals first | done | rfl | exact ItemS_strM _ | (intro x hx y hy; exact ItemS_strM _ x hx y hy) | skip)
set_option maxHeartbeats 1000000 in
theorem traceOf_iy (e : Eng) (N : Nat) (g : Gor) (hg : e.gs[N]? = some g) (hl : g.trace.length ≤ 2 ^ 29) : Fn Try.prog 19 [.agg e.fr, .int .i64 (N : Nat)] (.own 4 (ItemS (trc g.trace))) := by
  refine Fn.intro Try.func19 (by decide) rfl (rs := [.tmp 4]) rfl Try.ntmps19 (by simp) ?_
  have hlt : N < e.gs.length := (List.getElem?_eq_some_iff.1 hg).1
  have hgE : ∀ h, e.gs[N]'h = g := fun h => (List.getElem?_eq_some_iff.1 hg).2
  refine SW.regionK fun K hK => ?_
  simp -implicitDefEqProofs
  first | refine hK _ ?_ | refine ⟨by omega, hK _ ?_⟩ | refine ⟨by omega, by omega, hK _ ?_⟩
  clear hK K
  refine SW.seqK fun K1 hK1 => ?_
  obtain ⟨p, pc, r, s, l⟩ := g
  simp only [] at hl
  rcases snoc l with rfl | ⟨a, x, rfl⟩
  rotate_left
  have hw := wrapI (a.length : Int) (by omega) (by simp at hl; omega)
  rotate_right
  all_goals (
   refine SW.regionK fun K hK => ?_
   simp -implicitDefEqProofs [hlt]
   first | refine ⟨by omega, by omega, ?_⟩ | refine ⟨by omega, ?_⟩ | skip
   refine CallK.fz (within_ok _ _ _) ?_
   simp -implicitDefEqProofs [hlt]
   first | refine hK _ ?_ | refine ⟨by omega, hK _ ?_⟩ | refine ⟨by omega, by omega, hK _ ?_⟩
   clear hK K
   refine SW.cond _ rfl (by simp) ?_ ?_
   case' refine_2 =>
    intro hb1
    first
    | (exfalso; simp at hb1; done)
    | (exfalso; simp at hb1; omega)
    | (
     refine SW.skip ?_
     refine hK1 _ ?_
     refine SW.regionK fun K hK => ?_
     simp -implicitDefEqProofs [hg, hgE, hlt]
     first | refine ⟨by omega, by omega, ?_⟩ | refine ⟨by omega, ?_⟩ | skip
     first
       | refine CallK.imE (cloneI_ok (a ++ [x]) (by omega)) (by simp) (ItemS_okI _) ?_
       | refine CallK.imE (cloneI_ok [] (by simp)) (by simp) (ItemS_okI _) ?_
     simp -implicitDefEqProofs [hg, hgE, hlt]
     first | refine hK _ ?_ | refine ⟨by omega, hK _ ?_⟩ | refine ⟨by omega, by omega, hK _ ?_⟩
     clear hK K
     refine SW.seqK fun K2 hK2 => ?_
     refine SW.regionK fun K hK => ?_
     first | simp -implicitDefEqProofs [hw] | simp -implicitDefEqProofs [wrm1]
     first | refine hK _ ?_ | refine ⟨by omega, hK _ ?_⟩ | refine ⟨by omega, by omega, hK _ ?_⟩
     clear hK K
     refine SW.regionK fun K hK => ?_
     first | simp -implicitDefEqProofs [hw] | simp -implicitDefEqProofs
     first | refine hK _ ?_ | refine ⟨by omega, hK _ ?_⟩ | refine ⟨by omega, by omega, hK _ ?_⟩
     clear hK K
     refine SW.cond _ rfl (by simp) ?_ ?_
     case' refine_2 =>
      intro hb2
      first
      | (exfalso; simp at hb2; done)
      | (exfalso; simp at hb2; omega)
      | (
       first | (have h9 : ¬ x.kind = 9 := by simpa using hb2) | skip
       refine SW.skip ?_)
     rotate_right
     case' _ =>
      intro hb2
      first
      | (exfalso; simp at hb2; done)
      | (exfalso; simp at hb2; omega)
      | (
       have h9 : x.kind = 9 := by simpa using hb2
       refine SW.regionE fun K hK => ?_
       simp -implicitDefEqProofs [hw]
       first | refine hK _ ?_ | refine ⟨by omega, hK _ ?_⟩ | refine ⟨by omega, by omega, hK _ ?_⟩
       clear hK K)
     all_goals (
      refine hK2 _ ?_
      refine SW.regionK fun K hK => ?_
      simp -implicitDefEqProofs
      first | refine hK _ ?_ | refine ⟨by omega, hK _ ?_⟩ | refine ⟨by omega, by omega, hK _ ?_⟩
      clear hK K
      refine SW.ret ?_
      simp [Ex.then, Ex.inBlock, -strN]
      first
        | (simp [trc_nil]; done)
        | (rw [ItemS_takeN, List.take_left' rfl, trc_yes h9]; exact ⟨ItemS_strM _, rfl⟩)
        | (rw [ItemS_takeN, List.take_of_length_le (by simp), trc_no h9]; exact ⟨ItemS_strM _, rfl⟩)
        | fail))
   rotate_right
   case' _ =>
    intro hb1
    first
    | (exfalso; simp at hb1; done)
    | (exfalso; simp at hb1; omega)
    | (
     refine SW.regionK fun K hK => ?_
     simp -implicitDefEqProofs
     first | refine hK _ ?_ | refine ⟨by omega, hK _ ?_⟩ | refine ⟨by omega, by omega, hK _ ?_⟩
     clear hK K
     refine SW.ret ?_
     simp [Ex.then, Ex.inBlock, -strN]
     first
       | (simp [trc_nil]; done)
       | (rw [ItemS_takeN, List.take_left' rfl, trc_yes h9]; exact ⟨ItemS_strM _, rfl⟩)
       | (rw [ItemS_takeN, List.take_of_length_le (by simp), trc_no h9]; exact ⟨ItemS_strM _, rfl⟩)
       | fail))
set_option maxHeartbeats 1000000 in
theorem traceOf_in (e : Eng) (n : Int) (hn : ¬ (0 ≤ n ∧ n < e.gs.length)) : Fn Try.prog 19 [.agg e.fr, .int .i64 n] (.nil) := by
  refine Fn.intro Try.func19 (by decide) rfl (rs := [.tmp 4]) rfl Try.ntmps19 (by simp) ?_
  refine SW.regionK fun K hK => ?_
  simp -implicitDefEqProofs
  first | refine hK _ ?_ | refine ⟨by omega, hK _ ?_⟩ | refine ⟨by omega, by omega, hK _ ?_⟩
  clear hK K
  refine SW.seqK fun K1 hK1 => ?_
  refine SW.regionK fun K hK => ?_
  simp -implicitDefEqProofs
  first | refine ⟨by omega, by omega, ?_⟩ | refine ⟨by omega, ?_⟩ | skip
  refine CallK.fz (within_ok _ _ _) ?_
  simp -implicitDefEqProofs
  first | refine hK _ ?_ | refine ⟨by omega, hK _ ?_⟩ | refine ⟨by omega, by omega, hK _ ?_⟩
  clear hK K
  refine SW.cond _ rfl (by simp) ?_ ?_
  case' refine_2 =>
   intro hb1
   first
   | (exfalso; simp at hb1; done)
   | (exfalso; simp at hb1; omega)
   | (
    refine SW.skip ?_
    refine hK1 _ ?_
    refine SW.regionK fun K hK => ?_
    simp -implicitDefEqProofs
    first | refine ⟨by omega, by omega, ?_⟩ | refine ⟨by omega, ?_⟩ | skip
    fail
    simp -implicitDefEqProofs
    first | refine hK _ ?_ | refine ⟨by omega, hK _ ?_⟩ | refine ⟨by omega, by omega, hK _ ?_⟩
    clear hK K
    refine SW.seqK fun K2 hK2 => ?_
    refine SW.regionK fun K hK => ?_
    simp -implicitDefEqProofs
    first | refine hK _ ?_ | refine ⟨by omega, hK _ ?_⟩ | refine ⟨by omega, by omega, hK _ ?_⟩
    clear hK K
    refine SW.regionK fun K hK => ?_
    simp -implicitDefEqProofs
    first | refine hK _ ?_ | refine ⟨by omega, hK _ ?_⟩ | refine ⟨by omega, by omega, hK _ ?_⟩
    clear hK K
    refine SW.cond _ rfl (by simp) ?_ ?_
    case' refine_2 =>
     intro hb2
     first
     | (exfalso; simp at hb2; done)
     | (exfalso; simp at hb2; omega)
     | (
      refine SW.skip ?_)
    rotate_right
    case' _ =>
     intro hb2
     first
     | (exfalso; simp at hb2; done)
     | (exfalso; simp at hb2; omega)
     | (
      refine SW.regionE fun K hK => ?_
      simp -implicitDefEqProofs
      first | refine hK _ ?_ | refine ⟨by omega, hK _ ?_⟩ | refine ⟨by omega, by omega, hK _ ?_⟩
      clear hK K)
    all_goals (
     refine hK2 _ ?_
     refine SW.regionK fun K hK => ?_
     simp -implicitDefEqProofs
     first | refine hK _ ?_ | refine ⟨by omega, hK _ ?_⟩ | refine ⟨by omega, by omega, hK _ ?_⟩
     clear hK K
     refine SW.ret ?_
     simp [Ex.then, Ex.inBlock, -strN]
     all_goals first | done | rfl | exact ItemS_strM _ | (intro x hx y hy; exact ItemS_strM _ x hx y hy) | skip))
  rotate_right
  case' _ =>
   intro hb1
   first
   | (exfalso; simp at hb1; done)
   | (exfalso; simp at hb1; omega)
   | (
    refine SW.regionK fun K hK => ?_
    simp -implicitDefEqProofs
    first | refine hK _ ?_ | refine ⟨by omega, hK _ ?_⟩ | refine ⟨by omega, by omega, hK _ ?_⟩
    clear hK K
    refine SW.ret ?_
    simp [Ex.then, Ex.inBlock, -strN]
    all_goals first | done | rfl | exact ItemS_strM _ | (intro x hx y hy; exact ItemS_strM _ x hx y hy) | skip)
end HT

set_option linter.unusedSimpArgs false
namespace HT
open Go Go.Proofs HK
def valOk (n : Int) : Bool := decide (0 ≤ n) && decide (n ≤ 999)
def wOk (q : Bool) (w : Waiter) : Bool := decide (0 ≤ w.g) && decide (-1 ≤ w.cas) && valOk w.v && (q || decide (w.v = 0))
def chanHead (c : Chan) : Bool := decide (0 ≤ c.cap) && decide (c.cap ≤ 4) && decide ((c.buf.length : Int) ≤ c.cap)
def chanMid (c : Chan) : Bool := decide (0 < c.sends.length) && (decide ((c.buf.length : Int) < c.cap) || decide (0 < c.recvs.length) || c.closed)
def chanTail (c : Chan) : Bool := decide (c.recvs.length = 0) || (decide (c.buf.length = 0) && !c.closed)
def chanOk (c : Chan) : Bool := chanHead c && c.buf.all valOk && c.sends.all (wOk true) && c.recvs.all (wOk false) && !chanMid c && chanTail c
theorem all_false {α : Type} {l : List α} {p : α → Bool} {k : Nat} {x : α} (h : l[k]? = some x) (hx : p x = false) : l.all p = false := by
  rw [List.all_eq_false]; exact ⟨x, List.mem_of_getElem? h, by simp [hx]⟩
theorem all_next {α : Type} {l : List α} {p : α → Bool} {k : Nat} {x : α} (h : l[k]? = some x) (ha : (l.take k).all p = true) (hx : p x = true) : (l.take (k + 1)).all p = true := by
  rw [List.take_add_one, h, List.all_append, ha]; simp [hx]
theorem all_take {α : Type} {l : List α} {p : α → Bool} (h : (l.take l.length).all p = true) : l.all p = true := by rwa [List.take_length] at h
set_option maxHeartbeats 1000000 in
theorem val_s (a : Int) : Fn Try.prog 137 [.int .i64 a] (.bool (valOk a)) := by
  refine Fn.intro Try.func137 (by decide) rfl (rs := [.tmp 2]) rfl Try.ntmps137 (by simp) ?_
  refine SW.regionK fun K hK => ?_
  simp -implicitDefEqProofs
  first | refine hK _ ?_ | refine ⟨by omega, hK _ ?_⟩ | refine ⟨by omega, by omega, hK _ ?_⟩
  clear hK K
  refine SW.regionK fun K hK => ?_
  simp -implicitDefEqProofs
  first | refine hK _ ?_ | refine ⟨by omega, hK _ ?_⟩ | refine ⟨by omega, by omega, hK _ ?_⟩
  clear hK K
  refine SW.ret ?_
  simp [Ex.then, Ex.inBlock]
  all_goals simp [valOk]
set_option maxHeartbeats 1000000 in
theorem val_i (a : Int) : Fn Try.prog 122 [.int .i64 a] (.bool (valOk a)) := by
  refine Fn.intro Try.func122 (by decide) rfl (rs := [.tmp 2]) rfl Try.ntmps122 (by simp) ?_
  refine SW.regionK fun K hK => ?_
  simp -implicitDefEqProofs
  first | refine hK _ ?_ | refine ⟨by omega, hK _ ?_⟩ | refine ⟨by omega, by omega, hK _ ?_⟩
  clear hK K
  refine SW.regionK fun K hK => ?_
  simp -implicitDefEqProofs
  first | refine hK _ ?_ | refine ⟨by omega, hK _ ?_⟩ | refine ⟨by omega, by omega, hK _ ?_⟩
  clear hK K
  refine SW.ret ?_
  simp [Ex.then, Ex.inBlock]
  all_goals simp [valOk]
set_option maxHeartbeats 1000000 in
theorem waiters_s (l : List Waiter) (q : Bool) (hl : l.length ≤ 2 ^ 40) : Fn Try.prog 136 [.fz (WaiterS l), .bool q] (.bool (l.all (wOk q))) := by
  refine Fn.intro Try.func136 (by decide) rfl (rs := [.tmp 4]) rfl Try.ntmps136 (by simp) ?_
  refine SW.regionK fun K hK => ?_
  simp -implicitDefEqProofs
  first
    | refine hK _ ?_
    | refine ⟨by omega, hK _ ?_⟩
    | (refine ⟨?_, hK _ ?_⟩
       · first | (clear hK; grind) | (intros; simp_all; done))
    | (refine ⟨?_, ?_, hK _ ?_⟩
       · first | (clear hK; grind) | (intros; simp_all; done)
       · first | (clear hK; grind) | (intros; simp_all; done))
    | refine ⟨by omega, by omega, hK _ ?_⟩
  clear hK K
  refine SW.seqK fun K1 hK1 => ?_
  refine SW.regionK fun K hK => ?_
  simp -implicitDefEqProofs
  first
    | refine hK _ ?_
    | refine ⟨by omega, hK _ ?_⟩
    | (refine ⟨?_, hK _ ?_⟩
       · first | (clear hK; grind) | (intros; simp_all; done))
    | (refine ⟨?_, ?_, hK _ ?_⟩
       · first | (clear hK; grind) | (intros; simp_all; done)
       · first | (clear hK; grind) | (intros; simp_all; done))
    | refine ⟨by omega, by omega, hK _ ?_⟩
  clear hK K
  refine SW.block ?_
  refine SW.loop (α := Nat) (fun k => ⟨[(9, .int .i64 k), (8, .int .i64 l.length), (7, .fz (WaiterS l)), (1, .bool q)], []⟩) (fun k => k ≤ l.length ∧ (l.take k).all (wOk q) = true) (fun k => l.length - k) (0) ?_ ?_ (fun k hx => ?_)
  case' refine_1 =>
   simp
  case' refine_2 =>
   exact Wk.cut (by simp) (by simp [subE]) (by simp [cutH]) (by simp [lowE, lowN]) (by simp)
  case' refine_3 =>
   skip
   refine SW.regionK fun K hK => ?_
   simp -implicitDefEqProofs
   first
     | refine hK _ ?_
     | refine ⟨by omega, hK _ ?_⟩
     | (refine ⟨?_, hK _ ?_⟩
        · first | (clear hK; grind) | (intros; simp_all; done))
     | (refine ⟨?_, ?_, hK _ ?_⟩
        · first | (clear hK; grind) | (intros; simp_all; done)
        · first | (clear hK; grind) | (intros; simp_all; done))
     | refine ⟨by omega, by omega, hK _ ?_⟩
   clear hK K
   refine SW.seqK fun K2 hK2 => ?_
   refine SW.cond _ rfl (by simp) ?_ ?_
   case' refine_2 =>
    intro hb1
    have hk : k = l.length := by simp at hb1; omega
    subst hk
    have hal := all_take hx.2
    first
    | (exfalso; simp at hb1; done)
    | (exfalso; simp at hb1; omega)
    | (
     refine SW.exit ?_
     simp only [Ex.then, Ex.inBlock]
     try simp only [if_true, if_false, reduceIte]
     refine hK1 _ ?_
     refine SW.regionK fun K hK => ?_
     simp -implicitDefEqProofs
     first
       | refine hK _ ?_
       | refine ⟨by omega, hK _ ?_⟩
       | (refine ⟨?_, hK _ ?_⟩
          · first | (clear hK; grind) | (intros; simp_all; done))
       | (refine ⟨?_, ?_, hK _ ?_⟩
          · first | (clear hK; grind) | (intros; simp_all; done)
          · first | (clear hK; grind) | (intros; simp_all; done))
       | refine ⟨by omega, by omega, hK _ ?_⟩
     clear hK K
     refine SW.ret ?_
     simp [Ex.then, Ex.inBlock]
     first
       | (simpa using hal)
       | (simpa using hf)
       | fail)
   rotate_right
   case' _ =>
    intro hb1
    have hlt : k < l.length := by simp at hb1; omega
    obtain ⟨x, hxk⟩ : ∃ x, l[k]? = some x := ⟨_, List.getElem?_eq_getElem hlt⟩
    first
    | (exfalso; simp at hb1; done)
    | (exfalso; simp at hb1; omega)
    | (
     refine SW.skip ?_
     refine hK2 _ ?_
     refine SW.seqK fun K3 hK3 => ?_
     refine SW.block ?_
     refine SW.regionK fun K hK => ?_
     simp -implicitDefEqProofs [hxk]
     first
       | refine hK _ ?_
       | refine ⟨by omega, hK _ ?_⟩
       | (refine ⟨?_, hK _ ?_⟩
          · first | (clear hK; grind) | (intros; simp_all; done))
       | (refine ⟨?_, ?_, hK _ ?_⟩
          · first | (clear hK; grind) | (intros; simp_all; done)
          · first | (clear hK; grind) | (intros; simp_all; done))
       | refine ⟨by omega, by omega, hK _ ?_⟩
     clear hK K
     refine SW.regionK fun K hK => ?_
     simp -implicitDefEqProofs
     first | refine ⟨by omega, by omega, ?_⟩ | refine ⟨by omega, ?_⟩ | skip
     refine CallG.fz (by simp) (fun _ => val_s _) ?_
     simp -implicitDefEqProofs
     first
       | refine hK _ ?_
       | refine ⟨by omega, hK _ ?_⟩
       | (refine ⟨?_, hK _ ?_⟩
          · first | (clear hK; grind) | (intros; simp_all; done))
       | (refine ⟨?_, ?_, hK _ ?_⟩
          · first | (clear hK; grind) | (intros; simp_all; done)
          · first | (clear hK; grind) | (intros; simp_all; done))
       | refine ⟨by omega, by omega, hK _ ?_⟩
     clear hK K
     refine SW.cond _ rfl (by simp) ?_ ?_
     case' refine_2 =>
      intro hb2
      have hf : wOk q x = true := by cases q <;> simp [wOk, valOk] at hb2 ⊢ <;> omega
      first
      | (exfalso; simp at hb2; done)
      | (exfalso; simp at hb2; omega)
      | (
       refine SW.skip ?_
       refine hK3 _ ?_
       refine SW.regionE fun K hK => ?_
       simp -implicitDefEqProofs
       first
         | refine hK _ ?_
         | refine ⟨by omega, hK _ ?_⟩
         | (refine ⟨?_, hK _ ?_⟩
            · first | (clear hK; grind) | (intros; simp_all; done))
         | (refine ⟨?_, ?_, hK _ ?_⟩
            · first | (clear hK; grind) | (intros; simp_all; done)
            · first | (clear hK; grind) | (intros; simp_all; done))
         | refine ⟨by omega, by omega, hK _ ?_⟩
       clear hK K
       refine ⟨k + 1, ⟨by omega, all_next hxk hx.2 hf⟩, by omega, ?_⟩
       exact Wk.cut (by simp) (by simp [subE, wrap1 k (by omega)]) (by simp [cutH]) (by simp [lowE, lowN]) (by simp))
     rotate_right
     case' _ =>
      intro hb2
      have hf : l.all (wOk q) = false := all_false hxk (by cases q <;> cases h9 : wOk _ x <;> first | rfl | (exfalso; simp [wOk, valOk] at h9 hb2; omega))
      first
      | (exfalso; simp at hb2; done)
      | (exfalso; simp at hb2; omega)
      | (
       refine SW.regionK fun K hK => ?_
       simp -implicitDefEqProofs
       first
         | refine hK _ ?_
         | refine ⟨by omega, hK _ ?_⟩
         | (refine ⟨?_, hK _ ?_⟩
            · first | (clear hK; grind) | (intros; simp_all; done))
         | (refine ⟨?_, ?_, hK _ ?_⟩
            · first | (clear hK; grind) | (intros; simp_all; done)
            · first | (clear hK; grind) | (intros; simp_all; done))
         | refine ⟨by omega, by omega, hK _ ?_⟩
       clear hK K
       refine SW.ret ?_
       simp [Ex.then, Ex.inBlock]
       first
         | (simpa using hal)
         | (simpa using hf)
         | fail))
set_option maxHeartbeats 1000000 in
theorem waiter_i (w : Waiter) : Fn Try.prog 139 [.agg w.cl] (.bool (wOk true w)) := by
  refine Fn.intro Try.func139 (by decide) rfl (rs := [.tmp 2]) rfl Try.ntmps139 (by simp) ?_
  refine SW.regionK fun K hK => ?_
  simp -implicitDefEqProofs
  first
    | refine hK _ ?_
    | refine ⟨by omega, hK _ ?_⟩
    | (refine ⟨?_, hK _ ?_⟩
       · first | (clear hK; grind) | (intros; simp_all; done))
    | (refine ⟨?_, ?_, hK _ ?_⟩
       · first | (clear hK; grind) | (intros; simp_all; done)
       · first | (clear hK; grind) | (intros; simp_all; done))
    | refine ⟨by omega, by omega, hK _ ?_⟩
  clear hK K
  refine SW.regionK fun K hK => ?_
  simp -implicitDefEqProofs
  first | refine ⟨by omega, by omega, ?_⟩ | refine ⟨by omega, ?_⟩ | skip
  refine CallG.fz (by simp) (fun _ => val_i _) ?_
  simp -implicitDefEqProofs
  first
    | refine hK _ ?_
    | refine ⟨by omega, hK _ ?_⟩
    | (refine ⟨?_, hK _ ?_⟩
       · first | (clear hK; grind) | (intros; simp_all; done))
    | (refine ⟨?_, ?_, hK _ ?_⟩
       · first | (clear hK; grind) | (intros; simp_all; done)
       · first | (clear hK; grind) | (intros; simp_all; done))
    | refine ⟨by omega, by omega, hK _ ?_⟩
  clear hK K
  refine SW.ret ?_
  simp [Ex.then, Ex.inBlock]
  all_goals (simp [wOk]; try (cases decide (0 ≤ w.g) <;> cases decide (-1 ≤ w.cas) <;> simp))
set_option maxHeartbeats 1000000 in
theorem pred_ok (d : Int) : Fn Try.prog 138 [.int .i64 d] (.bool (!valOk d)) := by
  refine Fn.intro Try.func138 (by decide) rfl (rs := [.tmp 2]) rfl Try.ntmps138 (by simp) ?_
  refine SW.regionK fun K hK => ?_
  simp -implicitDefEqProofs
  first | refine hK _ ?_ | refine ⟨by omega, hK _ ?_⟩ | refine ⟨by omega, by omega, hK _ ?_⟩
  clear hK K
  refine SW.regionK fun K hK => ?_
  simp -implicitDefEqProofs
  first | refine ⟨by omega, by omega, ?_⟩ | refine ⟨by omega, ?_⟩ | skip
  refine CallK.fz (val_i _) ?_
  simp -implicitDefEqProofs
  first | refine hK _ ?_ | refine ⟨by omega, hK _ ?_⟩ | refine ⟨by omega, by omega, hK _ ?_⟩
  clear hK K
  refine SW.ret ?_
  simp [Ex.then, Ex.inBlock]
  all_goals simp
def idxV (l : List Int) : Int := if l.all valOk then -1 else ((l.takeWhile valOk).length : Int)
theorem idxV_at {l : List Int} {k : Nat} {x : Int} (ha : (l.take k).all valOk = true) (h : l[k]? = some x) (hx : valOk x = false) : idxV l = k := by
  have hf := all_false h hx
  obtain ⟨hlt, rfl⟩ := List.getElem?_eq_some_iff.1 h
  rw [idxV, if_neg (by simp [hf])]
  conv => lhs; rw [← List.take_append_drop k l, List.drop_eq_getElem_cons hlt]
  rw [List.takeWhile_append_of_pos (by simpa using ha), List.takeWhile_cons_of_neg (by simp [hx])]
  simp; omega
theorem idxV_nn (l : List Int) : decide (0 ≤ idxV l) = !l.all valOk := by
  unfold idxV
  cases h : l.all valOk <;> simp
set_option maxHeartbeats 1000000 in
theorem indexV_ok (l : List Int) (hl : l.length ≤ 2 ^ 40) : Fn Try.prog 155 [.fz (IntS l), .fn (.func 138) [] []] (.int .i64 (idxV l)) := by
  refine Fn.intro Try.func155 (by decide) rfl (rs := [.tmp 4]) rfl Try.ntmps155 (by simp) ?_
  refine SW.regionK fun K hK => ?_
  simp -implicitDefEqProofs
  first | refine hK _ ?_ | refine ⟨by omega, hK _ ?_⟩ | refine ⟨by omega, by omega, hK _ ?_⟩
  clear hK K
  refine SW.seqK fun K1 hK1 => ?_
  refine SW.regionK fun K hK => ?_
  simp -implicitDefEqProofs
  first | refine hK _ ?_ | refine ⟨by omega, hK _ ?_⟩ | refine ⟨by omega, by omega, hK _ ?_⟩
  clear hK K
  refine SW.block ?_
  refine SW.loop (α := Nat) (fun k => ⟨[(8, .int .i64 k), (7, .int .i64 l.length), (0, .fz (IntS l)), (1, .fn (.func 138) [] [])], []⟩) (fun k => k ≤ l.length ∧ (l.take k).all valOk = true) (fun k => l.length - k) (0) ?_ ?_ (fun k hx => ?_)
  case' refine_1 =>
   simp
  case' refine_2 =>
   exact Wk.cut (by simp) (by simp [subE]) (by simp [cutH]) (by simp [lowE, lowN]) (by simp)
  case' refine_3 =>
   skip
   refine SW.regionK fun K hK => ?_
   simp -implicitDefEqProofs
   first | refine hK _ ?_ | refine ⟨by omega, hK _ ?_⟩ | refine ⟨by omega, by omega, hK _ ?_⟩
   clear hK K
   refine SW.seqK fun K2 hK2 => ?_
   refine SW.cond _ rfl (by simp) ?_ ?_
   case' refine_2 =>
    intro hb1
    have hk : k = l.length := by simp at hb1; omega
    subst hk
    have hid : idxV l = -1 := by rw [idxV, if_pos (all_take hx.2)]
    refine SW.exit ?_
    simp only [Ex.then, Ex.inBlock]
    try simp only [if_true, if_false, reduceIte]
    refine hK1 _ ?_
    refine SW.regionK fun K hK => ?_
    simp -implicitDefEqProofs
    first | refine hK _ ?_ | refine ⟨by omega, hK _ ?_⟩ | refine ⟨by omega, by omega, hK _ ?_⟩
    clear hK K
    refine SW.ret ?_
    simp [Ex.then, Ex.inBlock]
    rw [hid]
   rotate_right
   case' _ =>
    intro hb1
    have hlt : k < l.length := by simp at hb1; omega
    obtain ⟨x, hxk⟩ : ∃ x, l[k]? = some x := ⟨_, List.getElem?_eq_getElem hlt⟩
    refine SW.skip ?_
    refine hK2 _ ?_
    refine SW.seqK fun K3 hK3 => ?_
    refine SW.block ?_
    refine SW.regionK fun K hK => ?_
    simp -implicitDefEqProofs
    first | refine hK _ ?_ | refine ⟨by omega, hK _ ?_⟩ | refine ⟨by omega, by omega, hK _ ?_⟩
    clear hK K
    refine SW.regionK fun K hK => ?_
    simp -implicitDefEqProofs [hxk]
    first | refine ⟨by omega, by omega, ?_⟩ | refine ⟨by omega, ?_⟩ | skip
    refine CallK.fz (pred_ok x) ?_
    simp -implicitDefEqProofs [hxk]
    first | refine hK _ ?_ | refine ⟨by omega, hK _ ?_⟩ | refine ⟨by omega, by omega, hK _ ?_⟩
    clear hK K
    refine SW.cond _ rfl (by simp) ?_ ?_
    case' refine_2 =>
     intro hb2
     have hsx : valOk x = true := by simpa using hb2
     have hnx := all_next hxk hx.2 hsx
     refine SW.skip ?_
     refine hK3 _ ?_
     refine SW.regionE fun K hK => ?_
     simp -implicitDefEqProofs
     first | refine hK _ ?_ | refine ⟨by omega, hK _ ?_⟩ | refine ⟨by omega, by omega, hK _ ?_⟩
     clear hK K
     refine ⟨k + 1, ⟨by omega, hnx⟩, by omega, ?_⟩
     exact Wk.cut (by simp) (by simp [subE, wrap1 k (by omega)]) (by simp [cutH]) (by simp [lowE, lowN]) (by simp)
    rotate_right
    case' _ =>
     intro hb2
     have hsx : valOk x = false := by simpa using hb2
     have hid := idxV_at hx.2 hxk hsx
     refine SW.regionK fun K hK => ?_
     simp -implicitDefEqProofs
     first | refine hK _ ?_ | refine ⟨by omega, hK _ ?_⟩ | refine ⟨by omega, by omega, hK _ ?_⟩
     clear hK K
     refine SW.ret ?_
     simp [Ex.then, Ex.inBlock]
     rw [hid]
set_option maxHeartbeats 1000000 in
theorem contV_ok (l : List Int) (hl : l.length ≤ 2 ^ 40) : Fn Try.prog 120 [.fz (IntS l), .fn (.func 138) [] []] (.bool (!l.all valOk)) := by
  refine Fn.intro Try.func120 (by decide) rfl (rs := [.tmp 4]) rfl Try.ntmps120 (by simp) ?_
  refine SW.regionK fun K hK => ?_
  simp -implicitDefEqProofs
  first | refine hK _ ?_ | refine ⟨by omega, hK _ ?_⟩ | refine ⟨by omega, by omega, hK _ ?_⟩
  clear hK K
  refine SW.regionK fun K hK => ?_
  simp -implicitDefEqProofs
  first | refine ⟨by omega, by omega, ?_⟩ | refine ⟨by omega, ?_⟩ | skip
  refine CallK.fzE (indexV_ok l hl) (by simp) ?_
  simp -implicitDefEqProofs
  first | refine hK _ ?_ | refine ⟨by omega, hK _ ?_⟩ | refine ⟨by omega, by omega, hK _ ?_⟩
  clear hK K
  refine SW.ret ?_
  simp [Ex.then, Ex.inBlock]
  all_goals simp [idxV_nn]
end HT
