/-
  My own text (road H): HT5.
-/
import Derived.Test.YtflanhfpjgcfbaaHT2
set_option linter.unusedSimpArgs false
namespace HT
open Go Go.Proofs HK
theorem snoc {α : Type} (l : List α) : l = [] ∨ ∃ a x, l = a ++ [x] := by
  rcases List.eq_nil_or_concat l with h | ⟨a, x, h⟩
  · exact .inl h
  · exact .inr ⟨a, x, by simpa using h⟩
/-- A trace without its end. -/
def trc (l : List Item) : List Item := match l.getLast? with
  | some x => if x.kind == 9 then l.dropLast else l
  | none => l
theorem trc_nil : trc [] = [] := rfl
theorem trc_yes {a : List Item} {x : Item} (h : x.kind = 9) : trc (a ++ [x]) = a := by simp [trc, h]
theorem trc_no {a : List Item} {x : Item} (h : ¬ x.kind = 9) : trc (a ++ [x]) = a ++ [x] := by simp [trc, h]
theorem trc_le (l : List Item) : (trc l).length ≤ l.length := by
  unfold trc; split <;> (try split) <;> simp
theorem ItemS_snoc (a : List Item) (x : Item) : ItemS (a ++ [x]) = ItemS a ++ [x.cl] := by simp [ItemS]
theorem ItemS_oc {l : List Item} {x : List AV} {y : AV} (hx : x ∈ ItemS l) (hy : y ∈ x) : oc y = true ∧ plain y = true := by
  obtain ⟨d, _, rfl⟩ := List.mem_map.1 hx
  simp at hy
  rcases hy with rfl | rfl | rfl | rfl <;> exact ⟨rfl, rfl⟩
theorem ItemS_strM (l : List Item) : ∀ x ∈ ItemS l, ∀ y ∈ x, strN 4 y = true := fun x hx y hy => by
  obtain ⟨d, _, rfl⟩ := List.mem_map.1 hx
  simp at hy
  rcases hy with rfl | rfl | rfl | rfl <;> rfl
theorem wrm1 : IntKind.i64.wrap (-1) = -1 := wrapI (-1) (by omega) (by omega)
theorem Item_eqc (a b : Item) : eqc a.cl b.cl = decide (a = b) := by
  cases a; cases b
  simp [eqc]
  rw [Bool.eq_iff_iff]
  simp
theorem ItemS_sh {l : List Item} (h : ItemS l = []) : l = [] := by simpa [ItemS] using h
set_option maxHeartbeats 1000000 in
theorem l14Trace_ok (p pc s : Int) (r : List Int) (l : List Item) (hl : l.length ≤ 2 ^ 29) : Fn Try.prog 61 [.agg [.int .i64 p, .int .i64 pc, .fz (IntS r), .int .i64 s, .fz (ItemS l)]] (.own 4 (ItemS (trc l))) := by
  refine Fn.intro Try.func61 (by decide) rfl (rs := [.tmp 2]) rfl Try.ntmps61 (by simp) ?_
  refine SW.regionK fun K hK => ?_
  simp -implicitDefEqProofs
  first | refine hK _ ?_ | refine ⟨by omega, hK _ ?_⟩ | refine ⟨by omega, by omega, hK _ ?_⟩
  clear hK K
  rcases snoc l with rfl | ⟨a, x, rfl⟩
  rotate_left
  have hw := wrapI (a.length : Int) (by omega) (by simp at hl; omega)
  rotate_right
  all_goals (
    refine SW.regionK fun K hK => ?_
    simp -implicitDefEqProofs
    first
      | refine hK _ ?_
      | refine ⟨⟨fun e he => ItemS_len he, fun x hx y hy => ItemS_oc hx hy, by omega⟩, hK _ ?_⟩
      | (simp at hl; refine ⟨⟨fun e he => ItemS_len he, fun x hx y hy => ItemS_oc hx hy, by omega⟩, hK _ ?_⟩)
    clear hK K
    refine SW.seqK fun K1 hK1 => ?_
    refine SW.regionK fun K hK => ?_
    first | simp -implicitDefEqProofs [hw] | simp -implicitDefEqProofs
    first | refine hK _ ?_ | refine ⟨by omega, hK _ ?_⟩ | refine ⟨by omega, by omega, hK _ ?_⟩
    clear hK K
    refine SW.cond _ rfl (by simp) ?_ ?_
    case' refine_2 =>
      intro hb1
      first
      | (exfalso; simp at hb1; done)
      | (exfalso; simp at hb1; omega)
      | (
        first | (have h9 : ¬ x.kind = 9 := by simpa using hb1) | skip
        refine SW.skip ?_)
    rotate_right
    case' _ =>
      intro hb1
      first
      | (exfalso; simp at hb1; done)
      | (exfalso; simp at hb1; omega)
      | (
        have h9 : x.kind = 9 := by simpa using hb1
        refine SW.regionE fun K hK => ?_
        simp -implicitDefEqProofs [hw]
        first | refine hK _ ?_ | refine ⟨by omega, hK _ ?_⟩ | refine ⟨by omega, by omega, hK _ ?_⟩
        clear hK K)
    all_goals (
      refine hK1 _ ?_
      refine SW.regionK fun K hK => ?_
      simp -implicitDefEqProofs
      first | refine hK _ ?_ | refine ⟨by omega, hK _ ?_⟩ | refine ⟨by omega, by omega, hK _ ?_⟩
      clear hK K
      refine SW.ret ?_
      simp [Ex.then, Ex.inBlock, -strN]
      first
        | (simp [trc_nil]; done)
        | (rw [ItemS_takeN, List.take_left' rfl, trc_yes h9]; exact ⟨ItemS_strM _, rfl⟩)
        | (rw [ItemS_takeN, List.take_of_length_le (by simp), trc_no h9]; exact ⟨ItemS_strM _, rfl⟩)
        | (trace_state; sorry)))
set_option maxHeartbeats 1000000 in
theorem cloneI_ok (l : List Item) (hl : l.length ≤ 2 ^ 30) : Fn Try.prog 62 [.fz (ItemS l)] (.own 4 (ItemS l)) := by
  refine Fn.intro Try.func62 (by decide) rfl (rs := [.tmp 2]) rfl Try.ntmps62 (by simp) ?_
  refine SW.regionK fun K hK => ?_
  simp -implicitDefEqProofs
  first | refine hK _ ?_ | refine ⟨by omega, hK _ ?_⟩ | refine ⟨by omega, by omega, hK _ ?_⟩
  clear hK K
  refine SW.seqK fun K1 hK1 => ?_
  refine SW.regionNil fun K hK => ?_
  simp [nilK, elemsN, -Bool.forall_bool]
  intro b hbn
  refine hK _ ?_; clear hK K
  refine SW.cond _ rfl (by simp) ?_ ?_
  case' refine_2 =>
    intro hb1
    refine SW.skip ?_
    refine hK1 _ ?_
    refine SW.regionK fun K hK => ?_
    simp -implicitDefEqProofs
    refine ⟨⟨fun e he => ItemS_len he, fun x hx y hy => ItemS_oc hx hy, by omega⟩, hK _ ?_⟩
    clear hK K
    refine SW.ret ?_
    simp [Ex.then, Ex.inBlock, -strN]
    all_goals first | done | rfl | exact ItemS_strM _ | (intro x hx y hy; exact ItemS_strM _ x hx y hy) | skip
  rotate_right
  case' _ =>
    intro hb1
    have hb2 : b = true := by simpa using hb1
    have hl0 := ItemS_sh (hbn hb2)
    subst hl0
    refine SW.regionK fun K hK => ?_
    simp -implicitDefEqProofs
    refine hK _ (SW.wk (Wk.soft (env' := [(2, .own 4 [])]) (by simp [softE, softV])) ?_)
    clear hK K
    refine SW.ret ?_
    simp [Ex.then, Ex.inBlock, -strN]
    all_goals first | done | rfl | exact ItemS_strM _ | (intro x hx y hy; exact ItemS_strM _ x hx y hy) | skip
set_option maxHeartbeats 1000000 in
theorem within_ok (a b c : Int) : Fn Try.prog 58 [.int .i64 a, .int .i64 b, .int .i64 c] (.bool (decide (b ≤ a) && decide (a < c))) := by
  refine Fn.intro Try.func58 (by decide) rfl (rs := [.tmp 6]) rfl Try.ntmps58 (by simp) ?_
  refine SW.regionK fun K hK => ?_
  simp -implicitDefEqProofs
  first | refine hK _ ?_ | refine ⟨by omega, hK _ ?_⟩ | refine ⟨by omega, by omega, hK _ ?_⟩
  clear hK K
  refine SW.regionK fun K hK => ?_
  simp -implicitDefEqProofs
  first | refine hK _ ?_ | refine ⟨by omega, hK _ ?_⟩ | refine ⟨by omega, by omega, hK _ ?_⟩
  clear hK K
  refine SW.ret ?_
  simp [Ex.then, Ex.inBlock]
set_option maxHeartbeats 1000000 in
theorem traceOf_sy (e : Eng) (N : Nat) (g : Gor) (hg : e.gs[N]? = some g) (hl : g.trace.length ≤ 2 ^ 29) : Fn Try.prog 18 [.agg e.fr, .int .i64 (N : Nat)] (.own 4 (ItemS (trc g.trace))) := by
  refine Fn.intro Try.func18 (by decide) rfl (rs := [.tmp 4]) rfl Try.ntmps18 (by simp) ?_
  have hlt : N < e.gs.length := (List.getElem?_eq_some_iff.1 hg).1
  have hgE : ∀ h, e.gs[N]'h = g := fun h => (List.getElem?_eq_some_iff.1 hg).2
  refine SW.regionK fun K hK => ?_
  simp -implicitDefEqProofs
  first | refine hK _ ?_ | refine ⟨by omega, hK _ ?_⟩ | refine ⟨by omega, by omega, hK _ ?_⟩
  clear hK K
  refine SW.seqK fun K1 hK1 => ?_
  refine SW.regionK fun K hK => ?_
  simp -implicitDefEqProofs [hlt]
  first | refine hK _ ?_ | refine ⟨by omega, hK _ ?_⟩ | refine ⟨by omega, by omega, hK _ ?_⟩
  clear hK K
  refine SW.cond _ rfl (by simp) ?_ ?_
  case' refine_2 =>
    intro hb1
    first
    | (exfalso; simp at hb1; done)
    | (exfalso; simp at hb1; omega)
    | (
      refine SW.skip ?_
      refine hK1 _ ?_
      refine SW.regionK fun K hK => ?_
      simp -implicitDefEqProofs [hg, hgE, hlt]
      first | refine ⟨by omega, by omega, ?_⟩ | refine ⟨by omega, ?_⟩ | skip
      refine CallK.imE (l14Trace_ok g.proc g.pc g.state g.regs g.trace hl) (by simp) (ItemS_okI _) ?_
      simp -implicitDefEqProofs [hg, hgE, hlt]
      first | refine hK _ ?_ | refine ⟨by omega, hK _ ?_⟩ | refine ⟨by omega, by omega, hK _ ?_⟩
      clear hK K
      refine SW.ret ?_
      simp [Ex.then, Ex.inBlock, -strN]
      all_goals first | done | rfl | exact ItemS_strM _ | (intro x hx y hy; exact ItemS_strM _ x hx y hy) | skip)
  rotate_right
  case' _ =>
    intro hb1
    first
    | (exfalso; simp at hb1; done)
    | (exfalso; simp at hb1; omega)
    | (
      refine SW.regionK fun K hK => ?_
      simp -implicitDefEqProofs
      first | refine hK _ ?_ | refine ⟨by omega, hK _ ?_⟩ | refine ⟨by omega, by omega, hK _ ?_⟩
      clear hK K
      refine SW.ret ?_
      simp [Ex.then, Ex.inBlock, -strN]
      all_goals first | done | rfl | exact ItemS_strM _ | (intro x hx y hy; exact ItemS_strM _ x hx y hy) | skip)
set_option maxHeartbeats 1000000 in
theorem traceOf_sn (e : Eng) (n : Int) (hn : ¬ (0 ≤ n ∧ n < e.gs.length)) : Fn Try.prog 18 [.agg e.fr, .int .i64 n] (.nil) := by
  refine Fn.intro Try.func18 (by decide) rfl (rs := [.tmp 4]) rfl Try.ntmps18 (by simp) ?_
  refine SW.regionK fun K hK => ?_
  simp -implicitDefEqProofs
  first | refine hK _ ?_ | refine ⟨by omega, hK _ ?_⟩ | refine ⟨by omega, by omega, hK _ ?_⟩
  clear hK K
  refine SW.seqK fun K1 hK1 => ?_
  refine SW.regionK fun K hK => ?_
  simp -implicitDefEqProofs
  first | refine hK _ ?_ | refine ⟨by omega, hK _ ?_⟩ | refine ⟨by omega, by omega, hK _ ?_⟩
  clear hK K
  refine SW.cond _ rfl (by simp) ?_ ?_
  case' refine_2 =>
    intro hb1
    first
    | (exfalso; simp at hb1; done)
    | (exfalso; simp at hb1; omega)
    | (
      refine SW.skip ?_
      refine hK1 _ ?_
      refine SW.regionK fun K hK => ?_
      simp -implicitDefEqProofs
      first | refine ⟨by omega, by omega, ?_⟩ | refine ⟨by omega, ?_⟩ | skip
      sorry
      simp -implicitDefEqProofs
      first | refine hK _ ?_ | refine ⟨by omega, hK _ ?_⟩ | refine ⟨by omega, by omega, hK _ ?_⟩
      clear hK K
      refine SW.ret ?_
      simp [Ex.then, Ex.inBlock, -strN]
      all_goals first | done | rfl | exact ItemS_strM _ | (intro x hx y hy; exact ItemS_strM _ x hx y hy) | skip)
  rotate_right
  case' _ =>
    intro hb1
    first
    | (exfalso; simp at hb1; done)
    | (exfalso; simp at hb1; omega)
    | (
      refine SW.regionK fun K hK => ?_
      simp -implicitDefEqProofs
      first | refine hK _ ?_ | refine ⟨by omega, hK _ ?_⟩ | refine ⟨by omega, by omega, hK _ ?_⟩
      clear hK K
      refine SW.ret ?_
      simp [Ex.then, Ex.inBlock, -strN]
      all_goals first | done | rfl | exact ItemS_strM _ | (intro x hx y hy; exact ItemS_strM _ x hx y hy) | skip)
set_option maxHeartbeats 1000000 in
theorem traceOf_iy (e : Eng) (N : Nat) (g : Gor) (hg : e.gs[N]? = some g) (hl : g.trace.length ≤ 2 ^ 29) : Fn Try.prog 19 [.agg e.fr, .int .i64 (N : Nat)] (.own 4 (ItemS (trc g.trace))) := by
  refine Fn.intro Try.func19 (by decide) rfl (rs := [.tmp 4]) rfl Try.ntmps19 (by simp) ?_
  have hlt : N < e.gs.length := (List.getElem?_eq_some_iff.1 hg).1
  have hgE : ∀ h, e.gs[N]'h = g := fun h => (List.getElem?_eq_some_iff.1 hg).2
  refine SW.regionK fun K hK => ?_
  simp -implicitDefEqProofs
  first | refine hK _ ?_ | refine ⟨by omega, hK _ ?_⟩ | refine ⟨by omega, by omega, hK _ ?_⟩
  clear hK K
  refine SW.seqK fun K1 hK1 => ?_
  obtain ⟨p, pc, r, s, l⟩ := g
  simp only [] at hl
  rcases snoc l with rfl | ⟨a, x, rfl⟩
  rotate_left
  have hw := wrapI (a.length : Int) (by omega) (by simp at hl; omega)
  rotate_right
  all_goals (
    refine SW.regionK fun K hK => ?_
    simp -implicitDefEqProofs [hlt]
    first | refine ⟨by omega, by omega, ?_⟩ | refine ⟨by omega, ?_⟩ | skip
    refine CallK.fz (within_ok _ _ _) ?_
    simp -implicitDefEqProofs [hlt]
    first | refine hK _ ?_ | refine ⟨by omega, hK _ ?_⟩ | refine ⟨by omega, by omega, hK _ ?_⟩
    clear hK K
    refine SW.cond _ rfl (by simp) ?_ ?_
    case' refine_2 =>
      intro hb1
      first
      | (exfalso; simp at hb1; done)
      | (exfalso; simp at hb1; omega)
      | (
        refine SW.skip ?_
        refine hK1 _ ?_
        refine SW.regionK fun K hK => ?_
        simp -implicitDefEqProofs [hg, hgE, hlt]
        first | refine ⟨by omega, by omega, ?_⟩ | refine ⟨by omega, ?_⟩ | skip
        first
          | refine CallK.imE (cloneI_ok (a ++ [x]) (by omega)) (by simp) (ItemS_okI _) ?_
          | refine CallK.imE (cloneI_ok [] (by simp)) (by simp) (ItemS_okI _) ?_
        simp -implicitDefEqProofs [hg, hgE, hlt]
        first | refine hK _ ?_ | refine ⟨by omega, hK _ ?_⟩ | refine ⟨by omega, by omega, hK _ ?_⟩
        clear hK K
        refine SW.seqK fun K2 hK2 => ?_
        refine SW.regionK fun K hK => ?_
        first | simp -implicitDefEqProofs [hw] | simp -implicitDefEqProofs [wrm1]
        first | refine hK _ ?_ | refine ⟨by omega, hK _ ?_⟩ | refine ⟨by omega, by omega, hK _ ?_⟩
        clear hK K
        refine SW.regionK fun K hK => ?_
        first | simp -implicitDefEqProofs [hw] | simp -implicitDefEqProofs
        first | refine hK _ ?_ | refine ⟨by omega, hK _ ?_⟩ | refine ⟨by omega, by omega, hK _ ?_⟩
        clear hK K
        refine SW.cond _ rfl (by simp) ?_ ?_
        case' refine_2 =>
          intro hb2
          first
          | (exfalso; simp at hb2; done)
          | (exfalso; simp at hb2; omega)
          | (
            first | (have h9 : ¬ x.kind = 9 := by simpa using hb2) | skip
            refine SW.skip ?_)
        rotate_right
        case' _ =>
          intro hb2
          first
          | (exfalso; simp at hb2; done)
          | (exfalso; simp at hb2; omega)
          | (
            have h9 : x.kind = 9 := by simpa using hb2
            refine SW.regionE fun K hK => ?_
            simp -implicitDefEqProofs [hw]
            first | refine hK _ ?_ | refine ⟨by omega, hK _ ?_⟩ | refine ⟨by omega, by omega, hK _ ?_⟩
            clear hK K)
        all_goals (
          refine hK2 _ ?_
          refine SW.regionK fun K hK => ?_
          simp -implicitDefEqProofs
          first | refine hK _ ?_ | refine ⟨by omega, hK _ ?_⟩ | refine ⟨by omega, by omega, hK _ ?_⟩
          clear hK K
          refine SW.ret ?_
          simp [Ex.then, Ex.inBlock, -strN]
          first
            | (simp [trc_nil]; done)
            | (rw [ItemS_takeN, List.take_left' rfl, trc_yes h9]; exact ⟨ItemS_strM _, rfl⟩)
            | (rw [ItemS_takeN, List.take_of_length_le (by simp), trc_no h9]; exact ⟨ItemS_strM _, rfl⟩)
            | (trace_state; sorry)))
    rotate_right
    case' _ =>
      intro hb1
      first
      | (exfalso; simp at hb1; done)
      | (exfalso; simp at hb1; omega)
      | (
        refine SW.regionK fun K hK => ?_
        simp -implicitDefEqProofs
        first | refine hK _ ?_ | refine ⟨by omega, hK _ ?_⟩ | refine ⟨by omega, by omega, hK _ ?_⟩
        clear hK K
        refine SW.ret ?_
        simp [Ex.then, Ex.inBlock, -strN]
        first
          | (simp [trc_nil]; done)
          | (rw [ItemS_takeN, List.take_left' rfl, trc_yes h9]; exact ⟨ItemS_strM _, rfl⟩)
          | (rw [ItemS_takeN, List.take_of_length_le (by simp), trc_no h9]; exact ⟨ItemS_strM _, rfl⟩)
          | (trace_state; sorry)))
set_option maxHeartbeats 1000000 in
theorem traceOf_in (e : Eng) (n : Int) (hn : ¬ (0 ≤ n ∧ n < e.gs.length)) : Fn Try.prog 19 [.agg e.fr, .int .i64 n] (.nil) := by
  refine Fn.intro Try.func19 (by decide) rfl (rs := [.tmp 4]) rfl Try.ntmps19 (by simp) ?_
  refine SW.regionK fun K hK => ?_
  simp -implicitDefEqProofs
  first | refine hK _ ?_ | refine ⟨by omega, hK _ ?_⟩ | refine ⟨by omega, by omega, hK _ ?_⟩
  clear hK K
  refine SW.seqK fun K1 hK1 => ?_
  refine SW.regionK fun K hK => ?_
  simp -implicitDefEqProofs
  first | refine ⟨by omega, by omega, ?_⟩ | refine ⟨by omega, ?_⟩ | skip
  refine CallK.fz (within_ok _ _ _) ?_
  simp -implicitDefEqProofs
  first | refine hK _ ?_ | refine ⟨by omega, hK _ ?_⟩ | refine ⟨by omega, by omega, hK _ ?_⟩
  clear hK K
  refine SW.cond _ rfl (by simp) ?_ ?_
  case' refine_2 =>
    intro hb1
    first
    | (exfalso; simp at hb1; done)
    | (exfalso; simp at hb1; omega)
    | (
      refine SW.skip ?_
      refine hK1 _ ?_
      refine SW.regionK fun K hK => ?_
      simp -implicitDefEqProofs
      first | refine ⟨by omega, by omega, ?_⟩ | refine ⟨by omega, ?_⟩ | skip
      sorry
      simp -implicitDefEqProofs
      first | refine hK _ ?_ | refine ⟨by omega, hK _ ?_⟩ | refine ⟨by omega, by omega, hK _ ?_⟩
      clear hK K
      refine SW.seqK fun K2 hK2 => ?_
      refine SW.regionK fun K hK => ?_
      simp -implicitDefEqProofs
      first | refine hK _ ?_ | refine ⟨by omega, hK _ ?_⟩ | refine ⟨by omega, by omega, hK _ ?_⟩
      clear hK K
      refine SW.regionK fun K hK => ?_
      simp -implicitDefEqProofs
      first | refine hK _ ?_ | refine ⟨by omega, hK _ ?_⟩ | refine ⟨by omega, by omega, hK _ ?_⟩
      clear hK K
      refine SW.cond _ rfl (by simp) ?_ ?_
      case' refine_2 =>
        intro hb2
        first
        | (exfalso; simp at hb2; done)
        | (exfalso; simp at hb2; omega)
        | (
          refine SW.skip ?_)
      rotate_right
      case' _ =>
        intro hb2
        first
        | (exfalso; simp at hb2; done)
        | (exfalso; simp at hb2; omega)
        | (
          refine SW.regionE fun K hK => ?_
          simp -implicitDefEqProofs
          first | refine hK _ ?_ | refine ⟨by omega, hK _ ?_⟩ | refine ⟨by omega, by omega, hK _ ?_⟩
          clear hK K)
      all_goals (
        refine hK2 _ ?_
        refine SW.regionK fun K hK => ?_
        simp -implicitDefEqProofs
        first | refine hK _ ?_ | refine ⟨by omega, hK _ ?_⟩ | refine ⟨by omega, by omega, hK _ ?_⟩
        clear hK K
        refine SW.ret ?_
        simp [Ex.then, Ex.inBlock, -strN]
        all_goals first | done | rfl | exact ItemS_strM _ | (intro x hx y hy; exact ItemS_strM _ x hx y hy) | skip))
  rotate_right
  case' _ =>
    intro hb1
    first
    | (exfalso; simp at hb1; done)
    | (exfalso; simp at hb1; omega)
    | (
      refine SW.regionK fun K hK => ?_
      simp -implicitDefEqProofs
      first | refine hK _ ?_ | refine ⟨by omega, hK _ ?_⟩ | refine ⟨by omega, by omega, hK _ ?_⟩
      clear hK K
      refine SW.ret ?_
      simp [Ex.then, Ex.inBlock, -strN]
      all_goals first | done | rfl | exact ItemS_strM _ | (intro x hx y hy; exact ItemS_strM _ x hx y hy) | skip)
end HT
