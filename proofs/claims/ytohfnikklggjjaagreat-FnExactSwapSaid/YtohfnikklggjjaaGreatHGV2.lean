import Derived.Test.YtohfnikklggjjaaGreatHGV1
import Derived.Test.YtohfnikklggjjaaGreatG13
import Derived.Test.YtohfnikklggjjaaGreatHK35
/-
  My own texts (road H): HGV2.
-/
set_option linter.unusedSimpArgs false
set_option linter.unusedVariables false
namespace HT
open Go Go.Proofs HK
def cf (y : Int) : List Int → List Int
  | [] => []
  | x :: r => if x = y then cf y r else x :: cf x r
theorem cmpt_cf : ∀ (y : Int) (r : List Int), cmpt (y :: r) = y :: cf y r
  | y, [] => rfl
  | y, x :: r => by
    have h := cmpt_cf x r
    unfold cmpt cf; by_cases e : y = x
    · subst e; simp [h]
    · rw [if_neg e, if_neg (fun h => e h.symm), h]
theorem cf_eq {l : List Int} {k : Nat} {x y : Int} (h : l[k]? = some x) : cf y (l.drop k) = if x = y then cf y (l.drop (k + 1)) else x :: cf x (l.drop (k + 1)) := by
  obtain ⟨hlt, rfl⟩ := List.getElem?_eq_some_iff.1 h; rw [List.drop_eq_getElem_cons hlt, cf]
def Cm (l : List Int) (k : Nat) : Prop := ∃ y, l[k - 1]? = some y ∧ l.take k ++ cf y (l.drop k) = cmpt l
theorem Cm.start {l : List Int} (h : 2 ≤ l.length) : Cm l 1 := by
  match l, h with
  | y :: r, _ => exact ⟨y, rfl, by rw [cmpt_cf]; rfl⟩
theorem Cm.next {l : List Int} {k : Nat} {x y : Int} (h : Cm l k) (hx : l[k]? = some x) (hy : l[k - 1]? = some y) (hne : ¬ x = y) : Cm l (k + 1) := by
  obtain ⟨y', h1, h2⟩ := h; rw [hy] at h1; cases h1; refine ⟨x, hx, ?_⟩; rw [← h2, cf_eq hx, if_neg hne, List.take_add_one, hx]; simp
theorem Cm.done {l : List Int} (h : Cm l l.length) : cmpt l = l := by
  obtain ⟨y, _, h2⟩ := h; rw [← h2]; simp [cf]
structure Cs (l : List Int) (k j w : Nat) (b : List Int) : Prop where
  j1 : 1 ≤ j
  jn : k + j ≤ l.length
  kw : k ≤ w
  wj : w + 1 ≤ k + j
  len : b.length = l.length
  rest : ∀ i, k + j ≤ i + 1 → b[i]? = l[i]?
  val : ∃ y, l[k + j - 1]? = some y ∧ b.take w ++ cf y (l.drop (k + j)) = cmpt l
theorem Cs.start {l : List Int} {k : Nat} {x : Int} (h : Cm l k) (hk : 1 ≤ k) (hx : l[k]? = some x) (hy : l[k - 1]? = some x) : Cs l k 1 k l := by
  have hlt := (List.getElem?_eq_some_iff.1 hx).1
  refine ⟨Nat.le_refl _, by omega, Nat.le_refl _, by omega, rfl, fun _ _ => rfl, x, by simpa using hx, ?_⟩; obtain ⟨y, h1, h2⟩ := h; rw [hy] at h1; cases h1; rw [← h2, cf_eq hx, if_pos rfl]
theorem Cs.same {l b : List Int} {k j w : Nat} {y : Int} (h : Cs l k j w b) (hx : l[k + j]? = some y) (hy : l[k + j - 1]? = some y) : Cs l k (j + 1) w b := by
  have hlt := (List.getElem?_eq_some_iff.1 hx).1
  obtain ⟨z, h1, h2⟩ := h.val; rw [hy] at h1; cases h1; refine ⟨by omega, by omega, h.kw, by have := h.wj; omega, h.len, fun i hi => h.rest i (by omega), y, by simpa [← Nat.add_assoc] using hx, ?_⟩
  rw [← h2, cf_eq hx, if_pos rfl, Nat.add_assoc]
theorem Cs.put {l b : List Int} {k j w : Nat} {x y : Int} (h : Cs l k j w b) (hx : l[k + j]? = some x) (hy : l[k + j - 1]? = some y) (hne : ¬ x = y) : Cs l k (j + 1) (w + 1) (b.set w x) := by
  have hlt := (List.getElem?_eq_some_iff.1 hx).1
  have hw : w < b.length := by have := h.wj; have := h.len; omega
  obtain ⟨z, h1, h2⟩ := h.val; rw [hy] at h1; cases h1; refine ⟨by omega, by omega, by have := h.kw; omega, by have := h.wj; omega, by rw [List.length_set]; exact h.len, fun i hi => ?_, x, by simpa [← Nat.add_assoc] using hx, ?_⟩
  · have := h.wj
    rw [List.getElem?_set_ne (by omega)]; exact h.rest i (by omega)
  · rw [← h2, cf_eq hx, if_neg hne, Nat.add_assoc, List.take_add_one, List.getElem?_set_self hw, List.take_set_of_le (by omega)]
    simp
theorem Cs.done {l b : List Int} {k j w : Nat} (h : Cs l k j w b) (hj : k + j = l.length) : b.take w = cmpt l := by
  obtain ⟨y, _, h2⟩ := h.val; rw [← h2, hj]; simp [cf]
theorem cmpt_short : ∀ {l : List Int}, l.length < 2 → cmpt l = l
  | [], _ => rfl
  | [x], _ => rfl
  | _ :: _ :: r, h => by simp only [List.length_cons] at h; omega
set_option maxHeartbeats 1000000 in
theorem compact_ok (l : List Int) (hl : l.length ≤ 2 ^ 30) : CallS Tryz.prog 79 [.sl 0 0 l.length] ([some ⟨1, IntS l⟩]) (fun o h' => ∃ t, o = .sl 0 0 (cmpt l).length ∧ h' = [some ⟨1, IntS (cmpt l ++ t)⟩]) := by
  refine CallS.intro Tryz.func79 (by decide) rfl (rs := [.tmp 2]) rfl Tryz.ntmps79 (by simp) ?_; refine SW.rg fun K hK => ?_; simp -implicitDefEqProofs; repeat refine ⟨by omega, ?_⟩
  refine hK _ ?_; clear hK K; refine SW.seqK fun K1 hK1 => ?_; refine SW.rg fun K hK => ?_; simp -implicitDefEqProofs; repeat refine ⟨by omega, ?_⟩
  refine hK _ ?_; clear hK K; refine SW.cond _ rfl (by simp) ?_ ?_
  case' refine_2 =>
   intro hb1
   first
   | (exfalso; simp at hb1; done)
   | (exfalso; simp at hb1; omega)
   | (
    have h2 : 2 ≤ l.length := by simp at hb1; omega
    refine SW.skip ?_; refine hK1 _ ?_; refine SW.seqK fun K2 hK2 => ?_; refine SW.rg fun K hK => ?_; simp -implicitDefEqProofs; repeat refine ⟨by omega, ?_⟩
    refine hK _ ?_; clear hK K; refine SW.block ?_
    refine SW.loop (α := Nat) (fun k => ⟨[(3, .int .i64 k), (0, .sl 0 0 l.length)], [some ⟨1, IntS l⟩]⟩) (fun k => 1 ≤ k ∧ k ≤ l.length ∧ Cm l k) (fun k => l.length - k) (1) ?_ ?_ (fun k hx => ?_)
    case' refine_1 =>
     exact ⟨by omega, by omega, Cm.start h2⟩
    case' refine_2 =>
     refine Wk.softH (by simp [softE, softV]) (by simp)
    case' refine_3 =>
     have hx0 := hx
     clear hx; refine SW.seqK fun K3 hK3 => ?_; refine SW.rg fun K hK => ?_; simp -implicitDefEqProofs; repeat refine ⟨by omega, ?_⟩
     refine hK _ ?_; clear hK K; refine SW.cond _ rfl (by simp) ?_ ?_
     case' refine_2 =>
      intro hb2
      first
      | (exfalso; simp at hb2; done)
      | (exfalso; simp at hb2; omega)
      | (
       have hk9 : k = l.length := by simp at hb2; omega
       have hsh : cmpt l = l := by have h8 := hx0.2.2; rw [hk9] at h8; exact h8.done
       refine SW.exit ?_; simp only [Ex.then, Ex.ib]; try simp only [if_true, if_false, reduceIte]
       refine hK2 _ ?_; refine SW.rg fun K hK => ?_; simp -implicitDefEqProofs; repeat refine ⟨by omega, ?_⟩
       refine hK _ ?_; clear hK K; refine SW.ret ?_; simp [Ex.then, Ex.ib]
       all_goals first
         | (rw [hsh]; exact ⟨rfl, [], by simp⟩)
         | (refine ⟨by rw [← hd]; simp; omega, List.replicate (l.length - w) 0, ?_⟩; rw [IntS_app, ← hd, ← IntS_takeN, List.drop_of_length_le (by simp; omega)]; simp [IntS]; done)
         | fail)
     rotate_right
     case' _ =>
      intro hb2
      first
      | (exfalso; simp at hb2; done)
      | (exfalso; simp at hb2; omega)
      | (
       have hlt : k < l.length := by simp at hb2; omega
       obtain ⟨x, hx⟩ : ∃ q, l[k]? = some q := ⟨_, List.getElem?_eq_getElem (by omega)⟩
       obtain ⟨y, hy⟩ : ∃ q, l[k - 1]? = some q := ⟨_, List.getElem?_eq_getElem (by omega)⟩
       have hxE : ∀ h, l[k]'h = x := fun h => (List.getElem?_eq_some_iff.1 hx).2
       have hyE : ∀ h, l[k - 1]'h = y := fun h => (List.getElem?_eq_some_iff.1 hy).2
       have hw := wrapI ((k : Int) - 1) (by omega) (by omega)
       have hN : ((k : Int) - 1).toNat = k - 1 := by omega
       have hp0 : 0 ≤ (k : Int) - 1 := by omega
       have hp1 : (k : Int) - 1 < l.length := by omega
       refine SW.skip ?_; refine hK3 _ ?_; refine SW.seqK fun K4 hK4 => ?_; refine SW.block ?_
       refine SW.drawK mixed [.q [(0, false), (1, false), (2, false), (3, false), (4, false), (5, false), (6, false), (7, false), (8, false), (9, false)]] (by kernel_rfl) rfl fun K hK => ?_
       simp -implicitDefEqProofs [hx, hy, hxE, hyE, hw, hN, hp0, hp1, hlt]; repeat refine ⟨by omega, ?_⟩
       refine hK _ ?_; clear hK K; refine SW.cond _ rfl (by simp) ?_ ?_
       case' refine_2 =>
        intro hb3
        first
        | (exfalso; simp at hb3; done)
        | (exfalso; simp at hb3; omega)
        | (
         have hxy : ¬ x = y := by simpa using hb3
         have hnx := hx0.2.2.next hx hy hxy
         refine SW.skip ?_; refine hK4 _ ?_; refine SW.regionE fun K hK => ?_; simp -implicitDefEqProofs; repeat refine ⟨by omega, ?_⟩
         refine hK _ ?_; clear hK K; refine ⟨k + 1, ⟨by omega, by omega, hnx⟩, by omega, ?_⟩
         refine Wk.softH (by simp [softE, softV, wrap1 k (by omega)]) (by simp))
       rotate_right
       case' _ =>
        intro hb3
        first
        | (exfalso; simp at hb3; done)
        | (exfalso; simp at hb3; omega)
        | (
         have hxy : x = y := by simpa using hb3
         refine SW.rg fun K hK => ?_; simp -implicitDefEqProofs; repeat refine ⟨by omega, ?_⟩
         refine hK _ ?_; clear hK K; refine SW.seqK fun K5 hK5 => ?_; refine SW.rg fun K hK => ?_; simp -implicitDefEqProofs; repeat refine ⟨by omega, ?_⟩
         refine hK _ ?_; clear hK K; refine SW.block ?_
         refine SW.loop (α := Nat × Nat × List Int) (fun z => ⟨[(5, .int .i64 (z.1 : Nat)), (4, .sl 0 k (l.length - k)), (3, .int .i64 (z.2.1 : Nat)), (0, .sl 0 0 l.length)], [some ⟨1, IntS z.2.2⟩]⟩) (fun z => Cs l k z.1 z.2.1 z.2.2) (fun z => l.length - z.1) ((1, k, l)) ?_ ?_ (fun z hx => ?_)
         case' refine_1 =>
          exact Cs.start hx0.2.2 hx0.1 hx (hxy ▸ hy)
         case' refine_2 =>
          refine Wk.softH (by simp [softE, softV]) (by simp)
         case' refine_3 =>
          obtain ⟨j, w, b⟩ := z; have hc := hx
          simp only [] at hc ⊢; have c1 := hc.j1; have c2 := hc.jn; have c3 := hc.kw; have c4 := hc.wj; have c5 := hc.len
          refine SW.seqK fun K6 hK6 => ?_; refine SW.rg fun K hK => ?_; simp -implicitDefEqProofs; repeat refine ⟨by omega, ?_⟩
          refine hK _ ?_; clear hK K; refine SW.cond _ rfl (by simp) ?_ ?_
          case' refine_2 =>
           intro hb4
           first
           | (exfalso; simp at hb4; done)
           | (exfalso; simp at hb4; omega)
           | (
            have hd : b.take w = cmpt l := hc.done (by simp at hb4; omega)
            refine SW.exit ?_; simp only [Ex.then, Ex.ib]; try simp only [if_true, if_false, reduceIte]
            refine hK5 _ ?_; refine SW.rg fun K hK => ?_; simp -implicitDefEqProofs; repeat refine ⟨by omega, ?_⟩
            refine hK _ ?_; clear hK K; refine SW.rg fun K hK => ?_; simp -implicitDefEqProofs; repeat refine ⟨by omega, ?_⟩
            refine hK _ ?_; clear hK K; refine SW.ret ?_; simp [Ex.then, Ex.ib]
            all_goals first
              | (rw [hsh]; exact ⟨rfl, [], by simp⟩)
              | (refine ⟨by rw [← hd]; simp; omega, List.replicate (l.length - w) 0, ?_⟩; rw [IntS_app, ← hd, ← IntS_takeN, List.drop_of_length_le (by simp; omega)]; simp [IntS]; done)
              | fail)
          rotate_right
          case' _ =>
           intro hb4
           first
           | (exfalso; simp at hb4; done)
           | (exfalso; simp at hb4; omega)
           | (
            have jlt : j < l.length - k := by simp at hb4; omega
            obtain ⟨u, hu⟩ : ∃ q, l[k + j]? = some q := ⟨_, List.getElem?_eq_getElem (by omega)⟩
            obtain ⟨v, hv⟩ : ∃ q, l[k + j - 1]? = some q := ⟨_, List.getElem?_eq_getElem (by omega)⟩
            have hbu : b[k + j]? = some u := by rw [hc.rest _ (by omega)]; exact hu
            have hbv : b[k + (j - 1)]? = some v := by rw [hc.rest _ (by omega), show k + (j - 1) = k + j - 1 by omega]; exact hv
            have hbuE : ∀ h, b[k + j]'h = u := fun h => (List.getElem?_eq_some_iff.1 hbu).2
            have hbvE : ∀ h, b[k + (j - 1)]'h = v := fun h => (List.getElem?_eq_some_iff.1 hbv).2
            have hw2 := wrapI ((j : Int) - 1) (by omega) (by omega)
            have hN2 : ((j : Int) - 1).toNat = j - 1 := by omega
            have q0 : 0 ≤ (j : Int) - 1 := by omega
            have q1 : (j : Int) - 1 < (l.length : Int) - k := by omega
            have q2 : (j : Int) - 1 < ((l.length - k : Nat) : Int) := by omega
            have q3 : k + j < b.length := by omega
            have q4 : k + (j - 1) < b.length := by omega
            have q5 : w < l.length := by omega
            have q6 : w < b.length := by omega
            obtain ⟨u0, hu0⟩ : ∃ q, b[w]? = some q := ⟨_, List.getElem?_eq_getElem q6⟩
            refine SW.skip ?_; refine hK6 _ ?_; refine SW.seqK fun K7 hK7 => ?_; refine SW.block ?_
            refine SW.drawK mixed [.q [(0, false), (1, false), (2, false), (3, false), (4, false), (5, false), (6, false), (7, false), (8, false), (9, false)]] (by kernel_rfl) rfl fun K hK => ?_
            simp -implicitDefEqProofs [hbu, hbv, hbuE, hbvE, hw2, hN2, q0, q1, q2, q3, q4, jlt]; repeat refine ⟨by omega, ?_⟩
            refine hK _ ?_; clear hK K; refine SW.cond _ rfl (by simp) ?_ ?_
            case' refine_2 =>
             intro hb5
             first
             | (exfalso; simp at hb5; done)
             | (exfalso; simp at hb5; omega)
             | (
              have huv : u = v := by simpa using hb5
              have hsame := hc.same (huv ▸ hu) hv
              refine SW.skip ?_)
            rotate_right
            case' _ =>
             intro hb5
             first
             | (exfalso; simp at hb5; done)
             | (exfalso; simp at hb5; omega)
             | (
              have huv : ¬ u = v := by simpa using hb5
              have hput := hc.put hu hv huv
              refine SW.rg fun K hK => ?_; simp -implicitDefEqProofs [hbu, hbuE, q3, jlt, q5, q6, hu0, splice]; repeat refine ⟨by omega, ?_⟩
              refine hK _ ?_; clear hK K; refine SW.regionE fun K hK => ?_; simp -implicitDefEqProofs; repeat refine ⟨by omega, ?_⟩
              refine hK _ ?_
              clear hK K)
            all_goals (
             refine hK7 _ ?_; refine SW.regionE fun K hK => ?_; simp -implicitDefEqProofs; repeat refine ⟨by omega, ?_⟩
             refine hK _ ?_; clear hK K
             first
               | (have q := hput; refine ⟨(j + 1, w + 1, b.set w u), hput, by simp only []; omega, ?_⟩; refine Wk.softH (by simp [softE, softV, wrap1 j (by omega), wrap1 w (by omega)]) (by simp [IntS_setL]))
               | (refine ⟨(j + 1, w, b), hsame, by simp only []; omega, ?_⟩; refine Wk.softH (by simp [softE, softV, wrap1 j (by omega)]) (by simp)))))))
  rotate_right
  case' _ =>
   intro hb1
   first
   | (exfalso; simp at hb1; done)
   | (exfalso; simp at hb1; omega)
   | (
    have hsh : cmpt l = l := cmpt_short (by simp at hb1; omega)
    refine SW.rg fun K hK => ?_; simp -implicitDefEqProofs; repeat refine ⟨by omega, ?_⟩
    refine hK _ ?_; clear hK K; refine SW.ret ?_; simp [Ex.then, Ex.ib]
    all_goals first
      | (rw [hsh]; exact ⟨rfl, [], by simp⟩)
      | (refine ⟨by rw [← hd]; simp; omega, List.replicate (l.length - w) 0, ?_⟩; rw [IntS_app, ← hd, ← IntS_takeN, List.drop_of_length_le (by simp; omega)]; simp [IntS]; done)
      | fail)
end HT
