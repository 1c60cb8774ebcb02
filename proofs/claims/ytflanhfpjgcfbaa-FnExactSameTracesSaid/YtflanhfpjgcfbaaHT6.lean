import Derived.Test.YtflanhfpjgcfbaaG6
/-
  My own texts (road H): HT6.
-/
set_option linter.unusedSimpArgs false
namespace HT
open Go Go.Proofs HK
set_option maxHeartbeats 1000000 in
theorem l14Same_ok (l m : List Item) (hl : l.length ≤ 2 ^ 40) : Fn Try.prog 48 [.fz (ItemS l), .fz (ItemS m)] (.bool (decide (l = m))) := by
  refine Fn.intro Try.func48 (by decide) rfl (rs := [.tmp 4]) rfl Try.ntmps48 (by simp) ?_
  refine SW.regionK fun K hK => ?_
  simp -implicitDefEqProofs
  first | refine hK _ ?_ | refine ⟨by omega, hK _ ?_⟩ | refine ⟨by omega, by omega, hK _ ?_⟩
  clear hK K
  refine SW.seqK fun K1 hK1 => ?_
  refine SW.regionK fun K hK => ?_
  simp -implicitDefEqProofs
  first | refine hK _ ?_ | refine ⟨by omega, hK _ ?_⟩ | refine ⟨by omega, by omega, hK _ ?_⟩
  clear hK K
  refine SW.cond _ rfl (by simp) ?_ ?_
  case' refine_2 =>
   intro hb1
   have hll : l.length = m.length := by simp at hb1; omega
   first
   | (exfalso; simp at hb1; done)
   | (exfalso; simp at hb1; omega)
   | (
    refine SW.skip ?_
    refine hK1 _ ?_
    refine SW.seqK fun K2 hK2 => ?_
    refine SW.regionK fun K hK => ?_
    simp -implicitDefEqProofs
    first | refine hK _ ?_ | refine ⟨by omega, hK _ ?_⟩ | refine ⟨by omega, by omega, hK _ ?_⟩
    clear hK K
    refine SW.block ?_
    refine SW.loop (α := Nat) (fun k => ⟨[(13, .int .i64 k), (12, .int .i64 l.length), (0, .fz (ItemS l)), (1, .fz (ItemS m))], []⟩) (fun k => k ≤ l.length ∧ l.take k = m.take k) (fun k => l.length - k) (0) ?_ ?_ (fun k hx => ?_)
    case' refine_1 =>
     simp
    case' refine_2 =>
     exact Wk.cut (by simp) (by simp [subE]) (by simp [cutH]) (by simp [lowE, lowN]) (by simp)
    case' refine_3 =>
     skip
     refine SW.regionK fun K hK => ?_
     simp -implicitDefEqProofs
     first | refine hK _ ?_ | refine ⟨by omega, hK _ ?_⟩ | refine ⟨by omega, by omega, hK _ ?_⟩
     clear hK K
     refine SW.seqK fun K3 hK3 => ?_
     refine SW.cond _ rfl (by simp) ?_ ?_
     case' refine_2 =>
      intro hb2
      have hk : k = l.length := by simp at hb2; omega
      have hee : l = m := by have h9 := hx.2; rw [hk, List.take_length, hll, List.take_length] at h9; exact h9
      first
      | (exfalso; simp at hb2; done)
      | (exfalso; simp at hb2; omega)
      | (
       refine SW.exit ?_
       simp only [Ex.then, Ex.inBlock]
       try simp only [if_true, if_false, reduceIte]
       refine hK2 _ ?_
       refine SW.regionK fun K hK => ?_
       simp -implicitDefEqProofs
       first | refine hK _ ?_ | refine ⟨by omega, hK _ ?_⟩ | refine ⟨by omega, by omega, hK _ ?_⟩
       clear hK K
       refine SW.ret ?_
       simp [Ex.then, Ex.inBlock]
       first
         | (simp [hne]; done)
         | (simp [hee]; done)
         | fail)
     rotate_right
     case' _ =>
      intro hb2
      have hlt : k < l.length := by simp at hb2; omega
      have hlt2 : k < m.length := by omega
      obtain ⟨x, hxk⟩ : ∃ x, l[k]? = some x := ⟨_, List.getElem?_eq_getElem hlt⟩
      obtain ⟨y, hyk⟩ : ∃ y, m[k]? = some y := ⟨_, List.getElem?_eq_getElem hlt2⟩
      have hxE : ∀ h, l[k]'h = x := fun h => (List.getElem?_eq_some_iff.1 hxk).2
      have hyE : ∀ h, m[k]'h = y := fun h => (List.getElem?_eq_some_iff.1 hyk).2
      have hec := Item_eqc x y
      simp only [Item.cl] at hec
      first
      | (exfalso; simp at hb2; done)
      | (exfalso; simp at hb2; omega)
      | (
       refine SW.skip ?_
       refine hK3 _ ?_
       refine SW.seqK fun K4 hK4 => ?_
       refine SW.block ?_
       refine SW.regionK fun K hK => ?_
       simp -implicitDefEqProofs
       first | refine hK _ ?_ | refine ⟨by omega, hK _ ?_⟩ | refine ⟨by omega, by omega, hK _ ?_⟩
       clear hK K
       refine SW.drawK mixed [.q [(0, false), (1, false), (2, false), (3, false), (4, false), (5, false), (6, false), (7, false), (8, false)]] (by kernel_rfl) rfl fun K hK => ?_
       simp -implicitDefEqProofs [hxk, hyk, hxE, hyE, hec]
       first | refine hK _ ?_ | refine ⟨by omega, hK _ ?_⟩ | refine ⟨by omega, by omega, hK _ ?_⟩
       clear hK K
       refine SW.cond _ rfl (by simp) ?_ ?_
       case' refine_2 =>
        intro hb3
        have hxy : x = y := by cases x; cases y; simpa using hb3
        have hnx : l.take (k + 1) = m.take (k + 1) := by rw [List.take_add_one, List.take_add_one, hx.2, hxk, hyk, hxy]
        first
        | (exfalso; simp at hb3; done)
        | (exfalso; simp at hb3; omega)
        | (
         refine SW.skip ?_
         refine hK4 _ ?_
         refine SW.regionE fun K hK => ?_
         simp -implicitDefEqProofs
         first | refine hK _ ?_ | refine ⟨by omega, hK _ ?_⟩ | refine ⟨by omega, by omega, hK _ ?_⟩
         clear hK K
         refine ⟨k + 1, ⟨by omega, hnx⟩, by omega, ?_⟩
         exact Wk.cut (by simp) (by simp [subE, wrap1 k (by omega)]) (by simp [cutH]) (by simp [lowE, lowN]) (by simp))
       rotate_right
       case' _ =>
        intro hb3
        have hne : ¬ l = m := by
          intro e
          subst e
          rw [hxk] at hyk
          cases hyk
          simp at hb3
        first
        | (exfalso; simp at hb3; done)
        | (exfalso; simp at hb3; omega)
        | (
         refine SW.regionK fun K hK => ?_
         simp -implicitDefEqProofs
         first | refine hK _ ?_ | refine ⟨by omega, hK _ ?_⟩ | refine ⟨by omega, by omega, hK _ ?_⟩
         clear hK K
         refine SW.ret ?_
         simp [Ex.then, Ex.inBlock]
         first
           | (simp [hne]; done)
           | (simp [hee]; done)
           | fail)))
  rotate_right
  case' _ =>
   intro hb1
   have hne : ¬ l = m := by intro e; subst e; simp at hb1
   first
   | (exfalso; simp at hb1; done)
   | (exfalso; simp at hb1; omega)
   | (
    refine SW.regionK fun K hK => ?_
    simp -implicitDefEqProofs
    first | refine hK _ ?_ | refine ⟨by omega, hK _ ?_⟩ | refine ⟨by omega, by omega, hK _ ?_⟩
    clear hK K
    refine SW.ret ?_
    simp [Ex.then, Ex.inBlock]
    first
      | (simp [hne]; done)
      | (simp [hee]; done)
      | fail)
set_option maxHeartbeats 1000000 in
theorem equalI_ok (l m : List Item) (hl : l.length ≤ 2 ^ 40) : Fn Try.prog 52 [.fz (ItemS l), .fz (ItemS m)] (.bool (decide (l = m))) := by
  refine Fn.intro Try.func52 (by decide) rfl (rs := [.tmp 4]) rfl Try.ntmps52 (by simp) ?_
  refine SW.regionK fun K hK => ?_
  simp -implicitDefEqProofs
  first | refine hK _ ?_ | refine ⟨by omega, hK _ ?_⟩ | refine ⟨by omega, by omega, hK _ ?_⟩
  clear hK K
  refine SW.seqK fun K1 hK1 => ?_
  refine SW.regionK fun K hK => ?_
  simp -implicitDefEqProofs
  first | refine hK _ ?_ | refine ⟨by omega, hK _ ?_⟩ | refine ⟨by omega, by omega, hK _ ?_⟩
  clear hK K
  refine SW.cond _ rfl (by simp) ?_ ?_
  case' refine_2 =>
   intro hb1
   have hll : l.length = m.length := by simp at hb1; omega
   first
   | (exfalso; simp at hb1; done)
   | (exfalso; simp at hb1; omega)
   | (
    refine SW.skip ?_
    refine hK1 _ ?_
    refine SW.seqK fun K2 hK2 => ?_
    refine SW.regionK fun K hK => ?_
    simp -implicitDefEqProofs
    first | refine hK _ ?_ | refine ⟨by omega, hK _ ?_⟩ | refine ⟨by omega, by omega, hK _ ?_⟩
    clear hK K
    refine SW.block ?_
    refine SW.loop (α := Nat) (fun k => ⟨[(13, .int .i64 k), (12, .int .i64 l.length), (0, .fz (ItemS l)), (1, .fz (ItemS m))], []⟩) (fun k => k ≤ l.length ∧ l.take k = m.take k) (fun k => l.length - k) (0) ?_ ?_ (fun k hx => ?_)
    case' refine_1 =>
     simp
    case' refine_2 =>
     exact Wk.cut (by simp) (by simp [subE]) (by simp [cutH]) (by simp [lowE, lowN]) (by simp)
    case' refine_3 =>
     skip
     refine SW.regionK fun K hK => ?_
     simp -implicitDefEqProofs
     first | refine hK _ ?_ | refine ⟨by omega, hK _ ?_⟩ | refine ⟨by omega, by omega, hK _ ?_⟩
     clear hK K
     refine SW.seqK fun K3 hK3 => ?_
     refine SW.cond _ rfl (by simp) ?_ ?_
     case' refine_2 =>
      intro hb2
      have hk : k = l.length := by simp at hb2; omega
      have hee : l = m := by have h9 := hx.2; rw [hk, List.take_length, hll, List.take_length] at h9; exact h9
      first
      | (exfalso; simp at hb2; done)
      | (exfalso; simp at hb2; omega)
      | (
       refine SW.exit ?_
       simp only [Ex.then, Ex.inBlock]
       try simp only [if_true, if_false, reduceIte]
       refine hK2 _ ?_
       refine SW.regionK fun K hK => ?_
       simp -implicitDefEqProofs
       first | refine hK _ ?_ | refine ⟨by omega, hK _ ?_⟩ | refine ⟨by omega, by omega, hK _ ?_⟩
       clear hK K
       refine SW.ret ?_
       simp [Ex.then, Ex.inBlock]
       first
         | (simp [hne]; done)
         | (simp [hee]; done)
         | fail)
     rotate_right
     case' _ =>
      intro hb2
      have hlt : k < l.length := by simp at hb2; omega
      have hlt2 : k < m.length := by omega
      obtain ⟨x, hxk⟩ : ∃ x, l[k]? = some x := ⟨_, List.getElem?_eq_getElem hlt⟩
      obtain ⟨y, hyk⟩ : ∃ y, m[k]? = some y := ⟨_, List.getElem?_eq_getElem hlt2⟩
      have hxE : ∀ h, l[k]'h = x := fun h => (List.getElem?_eq_some_iff.1 hxk).2
      have hyE : ∀ h, m[k]'h = y := fun h => (List.getElem?_eq_some_iff.1 hyk).2
      have hec := Item_eqc x y
      simp only [Item.cl] at hec
      first
      | (exfalso; simp at hb2; done)
      | (exfalso; simp at hb2; omega)
      | (
       refine SW.skip ?_
       refine hK3 _ ?_
       refine SW.seqK fun K4 hK4 => ?_
       refine SW.block ?_
       refine SW.regionK fun K hK => ?_
       simp -implicitDefEqProofs
       first | refine hK _ ?_ | refine ⟨by omega, hK _ ?_⟩ | refine ⟨by omega, by omega, hK _ ?_⟩
       clear hK K
       refine SW.drawK mixed [.q [(0, false), (1, false), (2, false), (3, false), (4, false), (5, false), (6, false), (7, false), (8, false)]] (by kernel_rfl) rfl fun K hK => ?_
       simp -implicitDefEqProofs [hxk, hyk, hxE, hyE, hec]
       first | refine hK _ ?_ | refine ⟨by omega, hK _ ?_⟩ | refine ⟨by omega, by omega, hK _ ?_⟩
       clear hK K
       refine SW.cond _ rfl (by simp) ?_ ?_
       case' refine_2 =>
        intro hb3
        have hxy : x = y := by cases x; cases y; simpa using hb3
        have hnx : l.take (k + 1) = m.take (k + 1) := by rw [List.take_add_one, List.take_add_one, hx.2, hxk, hyk, hxy]
        first
        | (exfalso; simp at hb3; done)
        | (exfalso; simp at hb3; omega)
        | (
         refine SW.skip ?_
         refine hK4 _ ?_
         refine SW.regionE fun K hK => ?_
         simp -implicitDefEqProofs
         first | refine hK _ ?_ | refine ⟨by omega, hK _ ?_⟩ | refine ⟨by omega, by omega, hK _ ?_⟩
         clear hK K
         refine ⟨k + 1, ⟨by omega, hnx⟩, by omega, ?_⟩
         exact Wk.cut (by simp) (by simp [subE, wrap1 k (by omega)]) (by simp [cutH]) (by simp [lowE, lowN]) (by simp))
       rotate_right
       case' _ =>
        intro hb3
        have hne : ¬ l = m := by
          intro e
          subst e
          rw [hxk] at hyk
          cases hyk
          simp at hb3
        first
        | (exfalso; simp at hb3; done)
        | (exfalso; simp at hb3; omega)
        | (
         refine SW.regionK fun K hK => ?_
         simp -implicitDefEqProofs
         first | refine hK _ ?_ | refine ⟨by omega, hK _ ?_⟩ | refine ⟨by omega, by omega, hK _ ?_⟩
         clear hK K
         refine SW.ret ?_
         simp [Ex.then, Ex.inBlock]
         first
           | (simp [hne]; done)
           | (simp [hee]; done)
           | fail)))
  rotate_right
  case' _ =>
   intro hb1
   have hne : ¬ l = m := by intro e; subst e; simp at hb1
   first
   | (exfalso; simp at hb1; done)
   | (exfalso; simp at hb1; omega)
   | (
    refine SW.regionK fun K hK => ?_
    simp -implicitDefEqProofs
    first | refine hK _ ?_ | refine ⟨by omega, hK _ ?_⟩ | refine ⟨by omega, by omega, hK _ ?_⟩
    clear hK K
    refine SW.ret ?_
    simp [Ex.then, Ex.inBlock]
    first
      | (simp [hne]; done)
      | (simp [hee]; done)
      | fail)
def trs (e : Eng) : List (List Item) := e.gs.map fun g => trc g.trace
theorem trs_get {e : Eng} {k : Nat} {g : Gor} (h : e.gs[k]? = some g) : (trs e)[k]? = some (trc g.trace) := by simp [trs, h]
@[simp] theorem trs_len (e : Eng) : (trs e).length = e.gs.length := by simp [trs]
set_option maxHeartbeats 1000000 in
theorem sameTraces_s (a b : Eng) (ha : a.ok) (hb0 : b.ok) : Fn Try.prog 11 [.agg a.fr, .agg b.fr] (.bool (decide (trs a = trs b))) := by
  refine Fn.intro Try.func11 (by decide) rfl (rs := [.tmp 4]) rfl Try.ntmps11 (by simp) ?_
  have ha1 := ha.1
  have hb1 := hb0.1
  refine SW.regionK fun K hK => ?_
  simp -implicitDefEqProofs
  first | refine hK _ ?_ | refine ⟨by omega, hK _ ?_⟩ | refine ⟨by omega, by omega, hK _ ?_⟩
  clear hK K
  refine SW.seqK fun K1 hK1 => ?_
  refine SW.regionK fun K hK => ?_
  simp -implicitDefEqProofs
  first | refine hK _ ?_ | refine ⟨by omega, hK _ ?_⟩ | refine ⟨by omega, by omega, hK _ ?_⟩
  clear hK K
  refine SW.cond _ rfl (by simp) ?_ ?_
  case' refine_2 =>
   intro hb1
   have hll : a.gs.length = b.gs.length := by simp at hb1; omega
   first
   | (exfalso; simp at hb1; done)
   | (exfalso; simp at hb1; omega)
   | (
    refine SW.skip ?_
    refine hK1 _ ?_
    refine SW.seqK fun K2 hK2 => ?_
    refine SW.regionK fun K hK => ?_
    simp -implicitDefEqProofs
    first | refine hK _ ?_ | refine ⟨by omega, hK _ ?_⟩ | refine ⟨by omega, by omega, hK _ ?_⟩
    clear hK K
    refine SW.block ?_
    refine SW.loop (α := Nat) (fun k => ⟨[(16, .int .i64 k), (15, .int .i64 a.gs.length), (2, .ptr 0 0 0), (3, .ptr 1 0 0)], [some ⟨3, [a.fr]⟩, some ⟨3, [b.fr]⟩]⟩) (fun k => k ≤ a.gs.length ∧ (trs a).take k = (trs b).take k) (fun k => a.gs.length - k) (0) ?_ ?_ (fun k hx => ?_)
    case' refine_1 =>
     simp
    case' refine_2 =>
     exact Wk.cut (by simp) (by simp [subE]) (by simp [cutH]) (by simp [lowE, lowN]) (by simp)
    case' refine_3 =>
     skip
     refine SW.regionK fun K hK => ?_
     simp -implicitDefEqProofs
     first | refine hK _ ?_ | refine ⟨by omega, hK _ ?_⟩ | refine ⟨by omega, by omega, hK _ ?_⟩
     clear hK K
     refine SW.seqK fun K3 hK3 => ?_
     refine SW.cond _ rfl (by simp) ?_ ?_
     case' refine_2 =>
      intro hb2
      have hk : k = a.gs.length := by simp at hb2; omega
      have hee : trs a = trs b := by have h9 := hx.2; rw [hk, List.take_of_length_le (by simp), List.take_of_length_le (by simp [hll])] at h9; exact h9
      first
      | (exfalso; simp at hb2; done)
      | (exfalso; simp at hb2; omega)
      | (
       refine SW.exit ?_
       simp only [Ex.then, Ex.inBlock]
       try simp only [if_true, if_false, reduceIte]
       refine hK2 _ ?_
       refine SW.regionK fun K hK => ?_
       simp -implicitDefEqProofs
       first | refine hK _ ?_ | refine ⟨by omega, hK _ ?_⟩ | refine ⟨by omega, by omega, hK _ ?_⟩
       clear hK K
       refine SW.ret ?_
       simp [Ex.then, Ex.inBlock]
       first
         | (simp [hne]; done)
         | (simp [hee]; done)
         | fail)
     rotate_right
     case' _ =>
      intro hb2
      have hlt : k < a.gs.length := by simp at hb2; omega
      have hlt2 : k < b.gs.length := by omega
      obtain ⟨x, hxk⟩ : ∃ x, a.gs[k]? = some x := ⟨_, List.getElem?_eq_getElem hlt⟩
      obtain ⟨y, hyk⟩ : ∃ y, b.gs[k]? = some y := ⟨_, List.getElem?_eq_getElem hlt2⟩
      have hxt := trs_get hxk
      have hyt := trs_get hyk
      have hxo := (ha.2.1 x (List.mem_of_getElem? hxk)).2
      have hyo := (hb0.2.1 y (List.mem_of_getElem? hyk)).2
      have hxl := trc_le x.trace
      first
      | (exfalso; simp at hb2; done)
      | (exfalso; simp at hb2; omega)
      | (
       refine SW.skip ?_
       refine hK3 _ ?_
       refine SW.seqK fun K4 hK4 => ?_
       refine SW.block ?_
       refine SW.regionK fun K hK => ?_
       simp -implicitDefEqProofs
       first | refine hK _ ?_ | refine ⟨by omega, hK _ ?_⟩ | refine ⟨by omega, by omega, hK _ ?_⟩
       clear hK K
       refine SW.drawK mixed [.q [(0, false), (1, false), (2, false), (3, false), (4, false), (5, false), (6, false), (7, false)]] (by kernel_rfl) rfl fun K hK => ?_
       simp -implicitDefEqProofs
       first | refine ⟨by omega, by omega, ?_⟩ | refine ⟨by omega, ?_⟩ | skip
       refine CallQ.fzE (traceOf_sy a k x hxk (by omega)) (by simp) ?_
       simp -implicitDefEqProofs
       first | refine ⟨by omega, by omega, ?_⟩ | refine ⟨by omega, ?_⟩ | skip
       refine CallQ.fzE (traceOf_sy b k y hyk (by omega)) (by simp) ?_
       simp -implicitDefEqProofs
       first | refine ⟨by omega, by omega, ?_⟩ | refine ⟨by omega, ?_⟩ | skip
       refine CallQ.fzE (l14Same_ok (trc x.trace) (trc y.trace) (by omega)) (by simp) ?_
       simp -implicitDefEqProofs
       first | refine hK _ ?_ | refine ⟨by omega, hK _ ?_⟩ | refine ⟨by omega, by omega, hK _ ?_⟩
       clear hK K
       refine SW.cond _ rfl (by simp) ?_ ?_
       case' refine_2 =>
        intro hb3
        have hxy : trc x.trace = trc y.trace := by simpa using hb3
        have hnx : (trs a).take (k + 1) = (trs b).take (k + 1) := by rw [List.take_add_one, List.take_add_one, hx.2, hxt, hyt, hxy]
        first
        | (exfalso; simp at hb3; done)
        | (exfalso; simp at hb3; omega)
        | (
         refine SW.skip ?_
         refine hK4 _ ?_
         refine SW.regionE fun K hK => ?_
         simp -implicitDefEqProofs
         first | refine hK _ ?_ | refine ⟨by omega, hK _ ?_⟩ | refine ⟨by omega, by omega, hK _ ?_⟩
         clear hK K
         refine ⟨k + 1, ⟨by omega, hnx⟩, by omega, ?_⟩
         exact Wk.cut (by simp) (by simp [subE, wrap1 k (by omega)]) (by simp [cutH]) (by simp [lowE, lowN]) (by simp))
       rotate_right
       case' _ =>
        intro hb3
        have hne : ¬ trs a = trs b := by
          intro e
          rw [e, hyt] at hxt
          have h9 := Option.some.inj hxt
          rw [h9] at hb3
          simp at hb3
        first
        | (exfalso; simp at hb3; done)
        | (exfalso; simp at hb3; omega)
        | (
         refine SW.regionK fun K hK => ?_
         simp -implicitDefEqProofs
         first | refine hK _ ?_ | refine ⟨by omega, hK _ ?_⟩ | refine ⟨by omega, by omega, hK _ ?_⟩
         clear hK K
         refine SW.ret ?_
         simp [Ex.then, Ex.inBlock]
         first
           | (simp [hne]; done)
           | (simp [hee]; done)
           | fail)))
  rotate_right
  case' _ =>
   intro hb1
   have hne : ¬ trs a = trs b := by intro e; have := congrArg List.length e; simp at this; simp at hb1; omega
   first
   | (exfalso; simp at hb1; done)
   | (exfalso; simp at hb1; omega)
   | (
    refine SW.regionK fun K hK => ?_
    simp -implicitDefEqProofs
    first | refine hK _ ?_ | refine ⟨by omega, hK _ ?_⟩ | refine ⟨by omega, by omega, hK _ ?_⟩
    clear hK K
    refine SW.ret ?_
    simp [Ex.then, Ex.inBlock]
    first
      | (simp [hne]; done)
      | (simp [hee]; done)
      | fail)
set_option maxHeartbeats 1000000 in
theorem sameTraces_i (a b : Eng) (ha : a.ok) (hb0 : b.ok) : Fn Try.prog 13 [.agg a.fr, .agg b.fr] (.bool (decide (trs a = trs b))) := by
  refine Fn.intro Try.func13 (by decide) rfl (rs := [.tmp 4]) rfl Try.ntmps13 (by simp) ?_
  have ha1 := ha.1
  have hb1 := hb0.1
  refine SW.regionK fun K hK => ?_
  simp -implicitDefEqProofs
  first | refine hK _ ?_ | refine ⟨by omega, hK _ ?_⟩ | refine ⟨by omega, by omega, hK _ ?_⟩
  clear hK K
  refine SW.seqK fun K1 hK1 => ?_
  refine SW.regionK fun K hK => ?_
  simp -implicitDefEqProofs
  first | refine hK _ ?_ | refine ⟨by omega, hK _ ?_⟩ | refine ⟨by omega, by omega, hK _ ?_⟩
  clear hK K
  refine SW.cond _ rfl (by simp) ?_ ?_
  case' refine_2 =>
   intro hb1
   have hll : a.gs.length = b.gs.length := by simp at hb1; omega
   first
   | (exfalso; simp at hb1; done)
   | (exfalso; simp at hb1; omega)
   | (
    refine SW.skip ?_
    refine hK1 _ ?_
    refine SW.seqK fun K2 hK2 => ?_
    refine SW.regionK fun K hK => ?_
    simp -implicitDefEqProofs
    first | refine hK _ ?_ | refine ⟨by omega, hK _ ?_⟩ | refine ⟨by omega, by omega, hK _ ?_⟩
    clear hK K
    refine SW.block ?_
    refine SW.loop (α := Nat) (fun k => ⟨[(16, .int .i64 k), (15, .int .i64 a.gs.length), (2, .ptr 0 0 0), (3, .ptr 1 0 0)], [some ⟨3, [a.fr]⟩, some ⟨3, [b.fr]⟩]⟩) (fun k => k ≤ a.gs.length ∧ (trs a).take k = (trs b).take k) (fun k => a.gs.length - k) (0) ?_ ?_ (fun k hx => ?_)
    case' refine_1 =>
     simp
    case' refine_2 =>
     exact Wk.cut (by simp) (by simp [subE]) (by simp [cutH]) (by simp [lowE, lowN]) (by simp)
    case' refine_3 =>
     skip
     refine SW.regionK fun K hK => ?_
     simp -implicitDefEqProofs
     first | refine hK _ ?_ | refine ⟨by omega, hK _ ?_⟩ | refine ⟨by omega, by omega, hK _ ?_⟩
     clear hK K
     refine SW.seqK fun K3 hK3 => ?_
     refine SW.cond _ rfl (by simp) ?_ ?_
     case' refine_2 =>
      intro hb2
      have hk : k = a.gs.length := by simp at hb2; omega
      have hee : trs a = trs b := by have h9 := hx.2; rw [hk, List.take_of_length_le (by simp), List.take_of_length_le (by simp [hll])] at h9; exact h9
      first
      | (exfalso; simp at hb2; done)
      | (exfalso; simp at hb2; omega)
      | (
       refine SW.exit ?_
       simp only [Ex.then, Ex.inBlock]
       try simp only [if_true, if_false, reduceIte]
       refine hK2 _ ?_
       refine SW.regionK fun K hK => ?_
       simp -implicitDefEqProofs
       first | refine hK _ ?_ | refine ⟨by omega, hK _ ?_⟩ | refine ⟨by omega, by omega, hK _ ?_⟩
       clear hK K
       refine SW.ret ?_
       simp [Ex.then, Ex.inBlock]
       first
         | (simp [hne]; done)
         | (simp [hee]; done)
         | fail)
     rotate_right
     case' _ =>
      intro hb2
      have hlt : k < a.gs.length := by simp at hb2; omega
      have hlt2 : k < b.gs.length := by omega
      obtain ⟨x, hxk⟩ : ∃ x, a.gs[k]? = some x := ⟨_, List.getElem?_eq_getElem hlt⟩
      obtain ⟨y, hyk⟩ : ∃ y, b.gs[k]? = some y := ⟨_, List.getElem?_eq_getElem hlt2⟩
      have hxt := trs_get hxk
      have hyt := trs_get hyk
      have hxo := (ha.2.1 x (List.mem_of_getElem? hxk)).2
      have hyo := (hb0.2.1 y (List.mem_of_getElem? hyk)).2
      have hxl := trc_le x.trace
      first
      | (exfalso; simp at hb2; done)
      | (exfalso; simp at hb2; omega)
      | (
       refine SW.skip ?_
       refine hK3 _ ?_
       refine SW.seqK fun K4 hK4 => ?_
       refine SW.block ?_
       refine SW.regionK fun K hK => ?_
       simp -implicitDefEqProofs
       first | refine hK _ ?_ | refine ⟨by omega, hK _ ?_⟩ | refine ⟨by omega, by omega, hK _ ?_⟩
       clear hK K
       refine SW.drawK mixed [.q [(0, false), (1, false), (2, false), (3, false), (4, false), (5, false), (6, false), (7, false)]] (by kernel_rfl) rfl fun K hK => ?_
       simp -implicitDefEqProofs
       first | refine ⟨by omega, by omega, ?_⟩ | refine ⟨by omega, ?_⟩ | skip
       refine CallQ.fzE (traceOf_iy a k x hxk (by omega)) (by simp) ?_
       simp -implicitDefEqProofs
       first | refine ⟨by omega, by omega, ?_⟩ | refine ⟨by omega, ?_⟩ | skip
       refine CallQ.fzE (traceOf_iy b k y hyk (by omega)) (by simp) ?_
       simp -implicitDefEqProofs
       first | refine ⟨by omega, by omega, ?_⟩ | refine ⟨by omega, ?_⟩ | skip
       refine CallQ.fzE (equalI_ok (trc x.trace) (trc y.trace) (by omega)) (by simp) ?_
       simp -implicitDefEqProofs
       first | refine hK _ ?_ | refine ⟨by omega, hK _ ?_⟩ | refine ⟨by omega, by omega, hK _ ?_⟩
       clear hK K
       refine SW.cond _ rfl (by simp) ?_ ?_
       case' refine_2 =>
        intro hb3
        have hxy : trc x.trace = trc y.trace := by simpa using hb3
        have hnx : (trs a).take (k + 1) = (trs b).take (k + 1) := by rw [List.take_add_one, List.take_add_one, hx.2, hxt, hyt, hxy]
        first
        | (exfalso; simp at hb3; done)
        | (exfalso; simp at hb3; omega)
        | (
         refine SW.skip ?_
         refine hK4 _ ?_
         refine SW.regionE fun K hK => ?_
         simp -implicitDefEqProofs
         first | refine hK _ ?_ | refine ⟨by omega, hK _ ?_⟩ | refine ⟨by omega, by omega, hK _ ?_⟩
         clear hK K
         refine ⟨k + 1, ⟨by omega, hnx⟩, by omega, ?_⟩
         exact Wk.cut (by simp) (by simp [subE, wrap1 k (by omega)]) (by simp [cutH]) (by simp [lowE, lowN]) (by simp))
       rotate_right
       case' _ =>
        intro hb3
        have hne : ¬ trs a = trs b := by
          intro e
          rw [e, hyt] at hxt
          have h9 := Option.some.inj hxt
          rw [h9] at hb3
          simp at hb3
        first
        | (exfalso; simp at hb3; done)
        | (exfalso; simp at hb3; omega)
        | (
         refine SW.regionK fun K hK => ?_
         simp -implicitDefEqProofs
         first | refine hK _ ?_ | refine ⟨by omega, hK _ ?_⟩ | refine ⟨by omega, by omega, hK _ ?_⟩
         clear hK K
         refine SW.ret ?_
         simp [Ex.then, Ex.inBlock]
         first
           | (simp [hne]; done)
           | (simp [hee]; done)
           | fail)))
  rotate_right
  case' _ =>
   intro hb1
   have hne : ¬ trs a = trs b := by intro e; have := congrArg List.length e; simp at this; simp at hb1; omega
   first
   | (exfalso; simp at hb1; done)
   | (exfalso; simp at hb1; omega)
   | (
    refine SW.regionK fun K hK => ?_
    simp -implicitDefEqProofs
    first | refine hK _ ?_ | refine ⟨by omega, hK _ ?_⟩ | refine ⟨by omega, by omega, hK _ ?_⟩
    clear hK K
    refine SW.ret ?_
    simp [Ex.then, Ex.inBlock]
    first
      | (simp [hne]; done)
      | (simp [hee]; done)
      | fail)
end HT
