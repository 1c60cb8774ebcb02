/-
  My own text (road H): HSH.
-/
import Derived.Test.YteeefpifkepbpaaHSA
set_option linter.unusedSimpArgs false
namespace HS
open Go Go.Proofs HK
def sh (d : Deed) : Bool := decide (8 ≤ d.op) && decide (d.op ≤ 15)
def evs (l : List Deed) : List Deed := l.filter sh
theorem evs_step {l : List Deed} {k : Nat} {x : Deed} (h : l[k]? = some x) : evs (l.take (k + 1)) = evs (l.take k) ++ if sh x then [x] else [] := by
  unfold evs
  rw [List.take_add_one, h, List.filter_append]
  cases hx : sh x <;> simp [hx]
theorem evs_len (l : List Deed) (k : Nat) : (evs (l.take k)).length ≤ k := by
  unfold evs
  refine Nat.le_trans (List.length_filter_le _ _) ?_
  simp; omega
theorem evs_all {l : List Deed} (h : l.all sh = true) : evs l = l := by
  unfold evs
  exact List.filter_eq_self.2 (by simpa using h)
def idxS (l : List Deed) : Int := if l.all sh then -1 else ((l.takeWhile sh).length : Int)
theorem idx_at {l : List Deed} {k : Nat} {x : Deed} (ha : (l.take k).all sh = true) (h : l[k]? = some x) (hx : sh x = false) : l.all sh = false ∧ (l.takeWhile sh).length = k := by
  obtain ⟨hlt, rfl⟩ := List.getElem?_eq_some_iff.1 h
  refine ⟨?_, ?_⟩
  · rw [List.all_eq_false]
    exact ⟨l[k], List.getElem_mem hlt, by simp [hx]⟩
  · conv => lhs; rw [← List.take_append_drop k l, List.drop_eq_getElem_cons hlt]
    rw [List.takeWhile_append_of_pos (by simpa using ha), List.takeWhile_cons_of_neg (by simp [hx])]
    simp; omega
theorem first_not : ∀ {l : List Deed}, l.all sh = false → ∃ y, l[(l.takeWhile sh).length]? = some y ∧ sh y = false ∧ evs (l.take (l.takeWhile sh).length) = l.take (l.takeWhile sh).length
  | [], h => by simp at h
  | d :: l, h => by
    cases hd : sh d with
    | false => exact ⟨d, by simp [hd], hd, by simp [hd, evs]⟩
    | true =>
      obtain ⟨y, h1, h2, h3⟩ := first_not (l := l) (by simpa [hd] using h)
      refine ⟨y, by simpa [hd] using h1, h2, ?_⟩
      simp only [List.takeWhile_cons, hd, if_true, List.length_cons, List.take_succ_cons]
      unfold evs at h3 ⊢
      rw [List.filter_cons, hd, if_pos rfl, h3]
theorem first_cases (l : List Deed) : (l.all sh = true ∧ idxS l = -1) ∨ ∃ (i : Nat) (y0 : Deed), idxS l = (i : Int) ∧ l[i]? = some y0 ∧ sh y0 = false ∧ evs (l.take i) = l.take i ∧ i < l.length ∧ evs (l.take (i + 1)) = l.take i := by
  cases hall : l.all sh with
  | true => exact .inl ⟨rfl, by rw [idxS, if_pos hall]⟩
  | false =>
    obtain ⟨y0, h1, h2, h3⟩ := first_not hall
    refine .inr ⟨_, y0, by rw [idxS, if_neg (by simp [hall])], h1, h2, h3, (List.getElem?_eq_some_iff.1 h1).1, ?_⟩
    rw [evs_step h1, h2, h3]
    simp
theorem DS_set (l : List Deed) (k : Nat) (x : Deed) : (DS l).set k x.c = DS (l.set k x) := by simp [DS, List.map_set]
theorem DS_set' (l : List Deed) (k : Nat) (x : Deed) : (DS l).set k [.int .i64 x.g, .int .i64 x.op, .int .i64 x.obj, .int .i64 x.cas] = DS (l.set k x) := DS_set l k x
theorem mid_get {A B : List Deed} {l : List Deed} {j : Nat} {x : Deed} (h : l[j]? = some x) (hl : A.length + B.length = j) : (A ++ B ++ l.drop j)[j]? = some x := by
  rw [List.getElem?_append_right (by simp; omega)]
  simp [hl, h]
theorem mid_get2 (A B C : List Deed) (y : Deed) : (A ++ (y :: B) ++ C)[A.length]? = some y := by simp
theorem mid_set (A B C : List Deed) (y x : Deed) : (A ++ (y :: B) ++ C).set A.length x = A ++ [x] ++ B ++ C := by
  rw [List.append_assoc, List.set_append_right _ _ (by simp)]
  simp
theorem drop_get9 {α : Type} {l : List α} {k : Nat} {x : α} (h : l[k]? = some x) : l.drop k = x :: l.drop (k + 1) := by
  obtain ⟨hlt, rfl⟩ := List.getElem?_eq_some_iff.1 h
  exact List.drop_eq_getElem_cons hlt
@[simp] theorem take_evs (A : List Deed) (t : List (List AV)) : List.take A.length (DS A ++ t) = DS A := by
  have := List.take_left (l₁ := DS A) (l₂ := t)
  rwa [DS_length] at this
set_option maxHeartbeats 1000000 in
theorem events_spec (l : List Deed) (hl : l.length ≤ 1048576) : Fn Try.prog 22 [.fz (DS l)] (.own 4 (DS (evs l))) := by
  refine Fn.intro Try.func22 (by decide) rfl (rs := [.tmp 2]) rfl Try.ntmps22 (by simp) ?_
  refine SW.regionK fun K hK => ?_
  simp -implicitDefEqProofs
  first | refine hK _ ?_ | refine ⟨by omega, hK _ ?_⟩ | refine ⟨by omega, by omega, hK _ ?_⟩
  clear hK K
  refine SW.regionK fun K hK => ?_
  simp -implicitDefEqProofs
  first | refine hK _ ?_ | refine ⟨by omega, hK _ ?_⟩ | refine ⟨by omega, by omega, hK _ ?_⟩
  clear hK K
  refine SW.seqK fun K1 hK1 => ?_
  refine SW.regionK fun K hK => ?_
  simp -implicitDefEqProofs
  first | refine hK _ ?_ | refine ⟨by omega, hK _ ?_⟩ | refine ⟨by omega, by omega, hK _ ?_⟩
  clear hK K
  refine SW.block ?_
  refine SW.loop (α := Nat) (fun k => ⟨[(9, .int .i64 k), (8, .int .i64 l.length), (7, .fz (DS l)), (3, .sl 0 0 (evs (l.take k)).length)], [some ⟨4, DS (evs (l.take k))⟩]⟩) (fun k => k ≤ l.length) (fun k => l.length - k) (0) ?_ ?_ (fun k hx => ?_)
  case' refine_1 =>
    simp
  case' refine_2 =>
    exact Wk.cut (by simp) (by simp [subE, evs]) (by simp [cutH, evs]) (by simp [lowE, lowN]) (by simp)
  case' refine_3 =>
    skip
    refine SW.regionK fun K hK => ?_
    simp -implicitDefEqProofs
    first | refine hK _ ?_ | refine ⟨by omega, hK _ ?_⟩ | refine ⟨by omega, by omega, hK _ ?_⟩
    clear hK K
    refine SW.seqK fun K2 hK2 => ?_
    refine SW.cond _ rfl (by simp) ?_ ?_
    case' refine_2 =>
      intro hb1
      have hk : k = l.length := by simp at hb1; omega
      subst hk
      first
      | (exfalso; simp at hb1; done)
      | (exfalso; simp at hb1; omega)
      | (
        refine SW.exit ?_
        simp only [Ex.then, Ex.inBlock]
        try simp only [if_true, if_false, reduceIte]
        refine hK1 _ ?_
        refine SW.regionK fun K hK => ?_
        simp -implicitDefEqProofs
        first | refine hK _ ?_ | refine ⟨by omega, hK _ ?_⟩ | refine ⟨by omega, by omega, hK _ ?_⟩
        clear hK K
        refine SW.ret ?_
        simp [Ex.then, Ex.inBlock]
        intro x hx y hy; obtain ⟨n, rfl⟩ := DS_int hx hy; rfl)
    rotate_right
    case' _ =>
      intro hb1
      have hlt : k < l.length := by simp at hb1; omega
      obtain ⟨x, hxk⟩ : ∃ x, l[k]? = some x := ⟨_, List.getElem?_eq_getElem hlt⟩
      have hst := evs_step hxk
      have hle := evs_len l k
      first
      | (exfalso; simp at hb1; done)
      | (exfalso; simp at hb1; omega)
      | (
        refine SW.skip ?_
        refine hK2 _ ?_
        refine SW.seqK fun K3 hK3 => ?_
        refine SW.block ?_
        refine SW.regionK fun K hK => ?_
        simp -implicitDefEqProofs [hxk]
        first | refine hK _ ?_ | refine ⟨by omega, hK _ ?_⟩ | refine ⟨by omega, by omega, hK _ ?_⟩
        clear hK K
        refine SW.regionK fun K hK => ?_
        simp -implicitDefEqProofs
        first | refine ⟨by omega, by omega, ?_⟩ | refine ⟨by omega, ?_⟩ | skip
        refine CallK.fz (shared_s _) ?_
        simp -implicitDefEqProofs
        first | refine hK _ ?_ | refine ⟨by omega, hK _ ?_⟩ | refine ⟨by omega, by omega, hK _ ?_⟩
        clear hK K
        refine SW.cond _ rfl (by simp) ?_ ?_
        case' refine_2 =>
          intro hb2
          have hsx : sh x = false := by simpa [sh] using hb2
          rw [hsx] at hst
          simp at hst
          first
          | (exfalso; simp at hb2; done)
          | (exfalso; simp at hb2; omega)
          | (
            refine SW.skip ?_)
        rotate_right
        case' _ =>
          intro hb2
          have hsx : sh x = true := by simpa [sh] using hb2
          rw [hsx] at hst
          simp at hst
          first
          | (exfalso; simp at hb2; done)
          | (exfalso; simp at hb2; omega)
          | (
            refine SW.regionE fun K hK => ?_
            simp -implicitDefEqProofs
            first | refine hK _ ?_ | refine ⟨by omega, hK _ ?_⟩ | refine ⟨by omega, by omega, hK _ ?_⟩
            clear hK K)
        all_goals (
          refine hK3 _ ?_
          refine SW.regionE fun K hK => ?_
          simp -implicitDefEqProofs
          first | refine hK _ ?_ | refine ⟨by omega, hK _ ?_⟩ | refine ⟨by omega, by omega, hK _ ?_⟩
          clear hK K
          refine ⟨k + 1, by omega, by omega, ?_⟩
          first
            | (have q : sh x = true := hsx; exact Wk.ren [3] (by simp) (by simp) (by simp) (by simp) (by simp [renE, wrap1 k (by omega), hst]) (by simp [renH, hst, DS_app, DS]) (by simp [lowE, lowN]) (by simp))
            | exact Wk.cut (by simp) (by simp [subE, wrap1 k (by omega), hst]) (by simp [cutH, hst]) (by simp [lowE, lowN]) (by simp)))
set_option maxHeartbeats 1000000 in
theorem pred_ok (d : Deed) : Fn Try.prog 62 [.agg d.c] (.bool (!sh d)) := by
  refine Fn.intro Try.func62 (by decide) rfl (rs := [.tmp 2]) rfl Try.ntmps62 (by simp) ?_
  refine SW.regionK fun K hK => ?_
  simp -implicitDefEqProofs
  first | refine hK _ ?_ | refine ⟨by omega, hK _ ?_⟩ | refine ⟨by omega, by omega, hK _ ?_⟩
  clear hK K
  refine SW.regionK fun K hK => ?_
  simp -implicitDefEqProofs
  first | refine ⟨by omega, by omega, ?_⟩ | refine ⟨by omega, ?_⟩ | skip
  refine CallK.fz (shared_i _) ?_
  simp -implicitDefEqProofs
  first | refine hK _ ?_ | refine ⟨by omega, hK _ ?_⟩ | refine ⟨by omega, by omega, hK _ ?_⟩
  clear hK K
  refine SW.ret ?_
  simp [Ex.then, Ex.inBlock]
  simp [sh]
set_option maxHeartbeats 1000000 in
theorem index_ok (l : List Deed) (hl : l.length ≤ 1048576) : Fn Try.prog 89 [.fz (DS l), .fn (.func 62) [] []] (.int .i64 (idxS l)) := by
  refine Fn.intro Try.func89 (by decide) rfl (rs := [.tmp 4]) rfl Try.ntmps89 (by simp) ?_
  refine SW.regionK fun K hK => ?_
  simp -implicitDefEqProofs
  first | refine hK _ ?_ | refine ⟨by omega, hK _ ?_⟩ | refine ⟨by omega, by omega, hK _ ?_⟩
  clear hK K
  refine SW.seqK fun K1 hK1 => ?_
  refine SW.regionK fun K hK => ?_
  simp -implicitDefEqProofs
  first | refine hK _ ?_ | refine ⟨by omega, hK _ ?_⟩ | refine ⟨by omega, by omega, hK _ ?_⟩
  clear hK K
  refine SW.block ?_
  refine SW.loop (α := Nat) (fun k => ⟨[(8, .int .i64 k), (7, .int .i64 l.length), (0, .fz (DS l)), (1, .fn (.func 62) [] [])], []⟩) (fun k => k ≤ l.length ∧ (l.take k).all sh = true) (fun k => l.length - k) (0) ?_ ?_ (fun k hx => ?_)
  case' refine_1 =>
    simp
  case' refine_2 =>
    exact Wk.cut (by simp) (by simp [subE]) (by simp [cutH]) (by simp [lowE, lowN]) (by simp)
  case' refine_3 =>
    skip
    refine SW.regionK fun K hK => ?_
    simp -implicitDefEqProofs
    first | refine hK _ ?_ | refine ⟨by omega, hK _ ?_⟩ | refine ⟨by omega, by omega, hK _ ?_⟩
    clear hK K
    refine SW.seqK fun K2 hK2 => ?_
    refine SW.cond _ rfl (by simp) ?_ ?_
    case' refine_2 =>
      intro hb1
      have hk : k = l.length := by simp at hb1; omega
      subst hk
      have hal := hx.2
      rw [List.take_length] at hal
      have hid : idxS l = -1 := by rw [idxS, if_pos hal]
      refine SW.exit ?_
      simp only [Ex.then, Ex.inBlock]
      try simp only [if_true, if_false, reduceIte]
      refine hK1 _ ?_
      refine SW.regionK fun K hK => ?_
      simp -implicitDefEqProofs
      first | refine hK _ ?_ | refine ⟨by omega, hK _ ?_⟩ | refine ⟨by omega, by omega, hK _ ?_⟩
      clear hK K
      refine SW.ret ?_
      simp [Ex.then, Ex.inBlock]
      rw [hid]
    rotate_right
    case' _ =>
      intro hb1
      have hlt : k < l.length := by simp at hb1; omega
      obtain ⟨x, hxk⟩ : ∃ x, l[k]? = some x := ⟨_, List.getElem?_eq_getElem hlt⟩
      refine SW.skip ?_
      refine hK2 _ ?_
      refine SW.seqK fun K3 hK3 => ?_
      refine SW.block ?_
      refine SW.regionK fun K hK => ?_
      simp -implicitDefEqProofs
      first | refine hK _ ?_ | refine ⟨by omega, hK _ ?_⟩ | refine ⟨by omega, by omega, hK _ ?_⟩
      clear hK K
      refine SW.regionK fun K hK => ?_
      simp -implicitDefEqProofs [hxk]
      first | refine ⟨by omega, by omega, ?_⟩ | refine ⟨by omega, ?_⟩ | skip
      refine CallK.fz (pred_ok x) ?_
      simp -implicitDefEqProofs [hxk]
      first | refine hK _ ?_ | refine ⟨by omega, hK _ ?_⟩ | refine ⟨by omega, by omega, hK _ ?_⟩
      clear hK K
      refine SW.cond _ rfl (by simp) ?_ ?_
      case' refine_2 =>
        intro hb2
        have hsx : sh x = true := by simpa using hb2
        have hnx : (l.take (k + 1)).all sh = true := by rw [List.take_add_one, hxk, List.all_append, hx.2]; simp [hsx]
        refine SW.skip ?_
        refine hK3 _ ?_
        refine SW.regionE fun K hK => ?_
        simp -implicitDefEqProofs
        first | refine hK _ ?_ | refine ⟨by omega, hK _ ?_⟩ | refine ⟨by omega, by omega, hK _ ?_⟩
        clear hK K
        refine ⟨k + 1, ⟨by omega, hnx⟩, by omega, ?_⟩
        exact Wk.cut (by simp) (by simp [subE, wrap1 k (by omega)]) (by simp [cutH]) (by simp [lowE, lowN]) (by simp)
      rotate_right
      case' _ =>
        intro hb2
        have hsx : sh x = false := by simpa using hb2
        have h2 := idx_at hx.2 hxk hsx
        have hid : idxS l = k := by rw [idxS, if_neg (by simp [h2.1]), h2.2]
        refine SW.regionK fun K hK => ?_
        simp -implicitDefEqProofs
        first | refine hK _ ?_ | refine ⟨by omega, hK _ ?_⟩ | refine ⟨by omega, by omega, hK _ ?_⟩
        clear hK K
        refine SW.ret ?_
        simp [Ex.then, Ex.inBlock]
        rw [hid]
set_option maxHeartbeats 1000000 in
theorem delete_ok (l : List Deed) (hl : l.length ≤ 1048576) : CallS Try.prog 60 [.sl 0 0 l.length, .fn (.func 62) [] []] ([some ⟨4, DS l⟩]) (fun o h' => ∃ t, o = .sl 0 0 (evs l).length ∧ h' = [some ⟨4, DS (evs l) ++ t⟩]) := by
  refine CallS.intro Try.func60 (by decide) rfl (rs := [.tmp 4]) rfl Try.ntmps60 (by simp) ?_
  refine SW.regionK fun K hK => ?_
  simp -implicitDefEqProofs
  first | refine hK _ ?_ | refine ⟨by omega, hK _ ?_⟩ | refine ⟨by omega, by omega, hK _ ?_⟩
  clear hK K
  obtain ⟨hall, hid⟩ | ⟨i, y0, hid, hy0, hsy0, hev0, hi0, hst0⟩ := first_cases l
  all_goals (
    refine SW.regionK fun K hK => ?_
    simp -implicitDefEqProofs [hid]
    first | refine ⟨by omega, by omega, ?_⟩ | refine ⟨by omega, ?_⟩ | skip
    refine CallK.fzE (index_ok l hl) (by simp) ?_
    simp -implicitDefEqProofs [hid]
    first | refine hK _ ?_ | refine ⟨by omega, hK _ ?_⟩ | refine ⟨by omega, by omega, hK _ ?_⟩
    clear hK K
    refine SW.seqK fun K1 hK1 => ?_
    refine SW.regionK fun K hK => ?_
    simp -implicitDefEqProofs [hid]
    first | refine hK _ ?_ | refine ⟨by omega, hK _ ?_⟩ | refine ⟨by omega, by omega, hK _ ?_⟩
    clear hK K
    refine SW.cond _ rfl (by simp) ?_ ?_
    case' refine_2 =>
      intro hb1
      first
      | (exfalso; simp at hb1; done)
      | (exfalso; simp at hb1; omega)
      | (
        refine SW.skip ?_
        refine hK1 _ ?_
        refine SW.seqK fun K2 hK2 => ?_
        refine SW.regionK fun K hK => ?_
        simp -implicitDefEqProofs
        first | refine hK _ ?_ | refine ⟨by omega, hK _ ?_⟩ | refine ⟨by omega, by omega, hK _ ?_⟩
        clear hK K
        refine SW.block ?_
        refine SW.loop (α := Nat × List Deed) (fun x => ⟨[(6, .int .i64 x.1), (5, .int .i64 (evs (l.take x.1)).length), (1, .fn (.func 62) [] []), (0, .sl 0 0 l.length)], [some ⟨4, DS (evs (l.take x.1) ++ (x.2 ++ l.drop x.1))⟩]⟩) (fun x => x.1 ≤ l.length ∧ (evs (l.take x.1)).length + x.2.length = x.1 ∧ x.2 ≠ []) (fun x => l.length - x.1) ((i + 1, [y0])) ?_ ?_ (fun x hx => ?_)
        case' refine_1 =>
          exact ⟨by simp only []; omega, by simp only [hst0]; simp; omega, by simp⟩
        case' refine_2 =>
          have hwi := wrapI ((i : Int) + 1) (by omega) (by omega)
          have hmin : (l.take i).length = i := by simp; omega
          have hdec : l.take i ++ ([y0] ++ l.drop (i + 1)) = l := by have h9 := drop_get9 hy0; rw [List.singleton_append, ← h9, List.take_append_drop]
          exact Wk.cut (by simp) (by simp [subE, hst0, hwi]; omega) (by simp only [cutH, hst0, hdec]; simp) (by simp [lowE, lowN]) (by simp)
        case' refine_3 =>
          obtain ⟨j, B⟩ := x
          simp only [] at hx
          obtain ⟨h1, h2, h3⟩ := hx
          obtain ⟨y, B, rfl⟩ := List.exists_cons_of_ne_nil h3
          simp only []
          refine SW.seqK fun K3 hK3 => ?_
          refine SW.regionK fun K hK => ?_
          simp -implicitDefEqProofs
          first | refine hK _ ?_ | refine ⟨by omega, hK _ ?_⟩ | refine ⟨by omega, by omega, hK _ ?_⟩
          clear hK K
          refine SW.cond _ rfl (by simp) ?_ ?_
          case' refine_2 =>
            intro hb2
            have hk : j = l.length := by simp at hb2; omega
            subst hk
            rw [List.take_length] at h2
            simp only [List.length_cons] at h2
            first
            | (exfalso; simp at hb2; done)
            | (exfalso; simp at hb2; omega)
            | (
              refine SW.exit ?_
              simp only [Ex.then, Ex.inBlock]
              try simp only [if_true, if_false, reduceIte]
              refine hK2 _ ?_
              refine SW.regionK fun K hK => ?_
              simp -implicitDefEqProofs
              first | refine hK _ ?_ | refine ⟨by omega, hK _ ?_⟩ | refine ⟨by omega, by omega, hK _ ?_⟩
              clear hK K
              refine SW.regionK fun K hK => ?_
              simp -implicitDefEqProofs
              first | refine hK _ ?_ | refine ⟨by omega, hK _ ?_⟩ | refine ⟨by omega, by omega, hK _ ?_⟩
              clear hK K
              refine SW.ret ?_
              simp [Ex.then, Ex.inBlock]
              first
                | (rw [evs_all hall]; exact ⟨rfl, [], by simp⟩)
                | (rw [DS_app, take_evs]; exact ⟨_, rfl⟩)
                | fail)
          rotate_right
          case' _ =>
            intro hb2
            have hjl : j < l.length := by simp at hb2; omega
            obtain ⟨x, hxk⟩ : ∃ x, l[j]? = some x := ⟨_, List.getElem?_eq_getElem hjl⟩
            have hst := evs_step hxk
            generalize hA : evs (l.take j) = A at hst h2 ⊢
            have h2b : A.length + (B.length + 1) = j := by simpa using h2
            have hget : (A ++ y :: (B ++ l.drop j))[j]? = some x := by have := mid_get (A := A) (B := y :: B) hxk h2; simpa using this
            have hgi : (A ++ y :: (B ++ l.drop j))[A.length]? = some y := by simp
            have hge : ∀ (h : A.length < (DS (A ++ y :: (B ++ l.drop j))).length), (DS (A ++ y :: (B ++ l.drop j)))[A.length] = [.int .i64 y.g, .int .i64 y.op, .int .i64 y.obj, .int .i64 y.cas] := fun h => by have h9 := List.getElem?_eq_getElem h; rw [DS_get, hgi] at h9; simpa using h9.symm
            have hil : A.length < l.length := by simp at h2; omega
            have hsetD : (DS (A ++ y :: (B ++ l.drop j))).set A.length [.int .i64 x.g, .int .i64 x.op, .int .i64 x.obj, .int .i64 x.cas] = DS (A ++ x :: (B ++ l.drop j)) := by rw [DS_set']; simp
            have hdr := drop_get9 hxk
            have hwi1 := wrapI ((A.length : Int) + 1) (by omega) (by omega)
            first
            | (exfalso; simp at hb2; done)
            | (exfalso; simp at hb2; omega)
            | (
              refine SW.skip ?_
              refine hK3 _ ?_
              refine SW.seqK fun K4 hK4 => ?_
              refine SW.block ?_
              refine SW.regionK fun K hK => ?_
              simp -implicitDefEqProofs [hget, Nat.min_eq_left, hjl]
              first | refine hK _ ?_ | refine ⟨by omega, hK _ ?_⟩ | refine ⟨by omega, by omega, hK _ ?_⟩
              clear hK K
              refine SW.regionK fun K hK => ?_
              simp -implicitDefEqProofs
              first | refine ⟨by omega, by omega, ?_⟩ | refine ⟨by omega, ?_⟩ | skip
              refine CallK.fz (pred_ok x) ?_
              simp -implicitDefEqProofs
              first | refine hK _ ?_ | refine ⟨by omega, hK _ ?_⟩ | refine ⟨by omega, by omega, hK _ ?_⟩
              clear hK K
              refine SW.cond _ rfl (by simp) ?_ ?_
              case' refine_2 =>
                intro hb3
                have hsx : sh x = false := by simpa using hb3
                rw [hsx] at hst
                simp at hst
                first
                | (exfalso; simp at hb3; done)
                | (exfalso; simp at hb3; omega)
                | (
                  refine SW.skip ?_)
              rotate_right
              case' _ =>
                intro hb3
                have hsx : sh x = true := by simpa using hb3
                rw [hsx] at hst
                simp at hst
                first
                | (exfalso; simp at hb3; done)
                | (exfalso; simp at hb3; omega)
                | (
                  refine SW.regionK fun K hK => ?_
                  simp -implicitDefEqProofs [hgi, hge, hsetD, splice, hil]
                  first | refine hK _ ?_ | refine ⟨by omega, hK _ ?_⟩ | refine ⟨by omega, by omega, hK _ ?_⟩
                  clear hK K
                  refine SW.regionE fun K hK => ?_
                  simp -implicitDefEqProofs [hwi1]
                  first | refine hK _ ?_ | refine ⟨by omega, hK _ ?_⟩ | refine ⟨by omega, by omega, hK _ ?_⟩
                  clear hK K)
              all_goals (
                refine hK4 _ ?_
                refine SW.regionE fun K hK => ?_
                simp -implicitDefEqProofs
                first | refine hK _ ?_ | refine ⟨by omega, hK _ ?_⟩ | refine ⟨by omega, by omega, hK _ ?_⟩
                clear hK K
                first
                  | (refine ⟨(j + 1, B ++ [x]), ⟨by simp only []; omega, by simp only [hst]; simp at h2 ⊢; omega, by simp⟩, by simp only []; omega, ?_⟩
                     exact Wk.cut (by simp) (by simp [subE, wrap1 j (by omega), hst]) (by simp only [cutH, hst, hdr]; simp) (by simp [lowE, lowN]) (by simp))
                  | (refine ⟨(j + 1, y :: B ++ [x]), ⟨by simp only []; omega, by simp only [hst]; simp at h2 ⊢; omega, by simp⟩, by simp only []; omega, ?_⟩
                     exact Wk.cut (by simp) (by simp [subE, wrap1 j (by omega), hst]) (by simp only [cutH, hst, hdr]; simp) (by simp [lowE, lowN]) (by simp)))))
    rotate_right
    case' _ =>
      intro hb1
      first
      | (exfalso; simp at hb1; done)
      | (exfalso; simp at hb1; omega)
      | (
        refine SW.regionK fun K hK => ?_
        simp -implicitDefEqProofs
        first | refine hK _ ?_ | refine ⟨by omega, hK _ ?_⟩ | refine ⟨by omega, by omega, hK _ ?_⟩
        clear hK K
        refine SW.ret ?_
        simp [Ex.then, Ex.inBlock]
        first
          | (rw [evs_all hall]; exact ⟨rfl, [], by simp⟩)
          | (rw [DS_app, take_evs]; exact ⟨_, rfl⟩)
          | fail))
set_option maxHeartbeats 1000000 in
theorem events_impl (l : List Deed) (hl : l.length ≤ 1048576) : Fn Try.prog 24 [.fz (DS l)] (.own 4 (DS (evs l))) := by
  refine Fn.intro Try.func24 (by decide) rfl (rs := [.tmp 2]) rfl Try.ntmps24 (by simp) ?_
  refine SW.regionK fun K hK => ?_
  simp -implicitDefEqProofs
  first | refine hK _ ?_ | refine ⟨by omega, hK _ ?_⟩ | refine ⟨by omega, by omega, hK _ ?_⟩
  clear hK K
  refine SW.regionK fun K hK => ?_
  simp -implicitDefEqProofs
  first | refine ⟨by omega, by omega, ?_⟩ | refine ⟨by omega, ?_⟩ | skip
  refine CallK.im (cloneD_ok l (by omega)) (DS_okI l) ?_
  simp -implicitDefEqProofs
  first | refine ⟨by omega, by omega, ?_⟩ | refine ⟨by omega, ?_⟩ | skip
  refine CallS.mono (delete_ok l hl) ?_
  rintro o h' ⟨t, rfl, rfl⟩
  simp -implicitDefEqProofs
  first | refine hK _ ?_ | refine ⟨by omega, hK _ ?_⟩ | refine ⟨by omega, by omega, hK _ ?_⟩
  clear hK K
  refine SW.ret ?_
  simp [Ex.then, Ex.inBlock]
  first
    | (intro x hx y hy; obtain ⟨n, rfl⟩ := DS_int hx hy; rfl)
    | fail
end HS
