import Derived.Test.YtdhoappjadnhcaaGreatHCA2
import Derived.Test.YtdhoappjadnhcaaGreatHCTQE
/-
  My own texts (road H): HCA3.
-/
set_option maxHeartbeats 8000000
set_option linter.unusedSimpArgs false
set_option linter.unusedVariables false
namespace HT
open Go Go.Proofs HK
def dropW (l : List Waiter) (n : Int) : List Waiter := l.filter fun w => !decide (w.g = n)
theorem dropW_len (l : List Waiter) (n : Int) : (dropW l n).length ≤ l.length := List.length_filter_le _ _
theorem dropW_go {l : List Waiter} {n : Int} {k : Nat} {x : Waiter} (h : l[k]? = some x) (hx : ¬ x.g = n) : dropW (l.take (k + 1)) n = dropW (l.take k) n ++ [x] := by rw [tkS h]; simp [dropW, hx]
theorem dropW_out {l : List Waiter} {n : Int} {k : Nat} {x : Waiter} (h : l[k]? = some x) (hx : x.g = n) : dropW (l.take (k + 1)) n = dropW (l.take k) n := by rw [tkS h]; simp [dropW, hx]
theorem dropW_all {l : List Waiter} {n : Int} (h : (l.any fun w => decide (w.g = n)) = false) : dropW l n = l := by
  refine List.filter_eq_self.2 fun w hw => ?_; have := List.any_eq_false.1 h w hw
  simpa using this
theorem anyW_go {l : List Waiter} {n : Int} {k : Nat} {x : Waiter} (h : l[k]? = some x) (h0 : ((l.take k).any fun w => decide (w.g = n)) = false) (hx : ¬ x.g = n) : ((l.take (k + 1)).any fun w => decide (w.g = n)) = false := by rw [tkS h, List.any_append, h0]; simp [hx]
def idxW (l : List Waiter) (n : Int) : Int := if (l.any fun w => decide (w.g = n)) = true then ((l.takeWhile fun w => !decide (w.g = n)).length : Int) else -1
theorem idxW_no {l : List Waiter} {n : Int} (h : (l.any fun w => decide (w.g = n)) = false) : idxW l n = -1 := by rw [idxW, h, if_neg (by simp)]
theorem idxW_at {l : List Waiter} {n : Int} {k : Nat} {x : Waiter} (h0 : ((l.take k).any fun w => decide (w.g = n)) = false) (h : l[k]? = some x) (hx : x.g = n) : idxW l n = k := by
  obtain ⟨hk, hE⟩ := List.getElem?_eq_some_iff.1 h; have e : l = l.take k ++ x :: l.drop (k + 1) := by rw [← hE, List.getElem_cons_drop, List.take_append_drop]
  have ha : (l.any fun w => decide (w.g = n)) = true := List.any_eq_true.2 ⟨x, List.mem_of_getElem? h, by simpa using hx⟩
  rw [idxW, if_pos ha]
  have : (l.takeWhile fun w => !decide (w.g = n)) = l.take k := by
    conv => lhs; rw [e]
    rw [List.takeWhile_append_of_pos (fun a ha' => by simpa using List.any_eq_false.1 h0 a ha')]; simp [hx]
  rw [this, List.length_take]; omega
theorem idxW_spec {l : List Waiter} {n : Int} (h : ¬ idxW l n = -1) : ∃ (k : Nat) (x : Waiter), idxW l n = k ∧ l[k]? = some x ∧ x.g = n ∧ ((l.take k).any fun w => decide (w.g = n)) = false := by
  cases ha : l.any fun w => decide (w.g = n) with
  | false => exact absurd (idxW_no ha) h
  | true =>
    obtain ⟨y, hy, hyn⟩ := List.any_eq_true.1 ha; have hf : (l.findIdx? fun w => decide (w.g = n)).isSome = true := by rw [List.findIdx?_isSome]; exact ha
    obtain ⟨k, hk⟩ := Option.isSome_iff_exists.1 hf; rw [List.findIdx?_eq_some_iff_getElem] at hk; obtain ⟨hlt, h1, h2⟩ := hk
    have h0 : ((l.take k).any fun w => decide (w.g = n)) = false := List.any_eq_false.2 fun w hw => by
      obtain ⟨i, hi, rfl⟩ := List.mem_take_iff_getElem.1 hw; exact h2 i (by omega)
    exact ⟨k, l[k], idxW_at h0 (List.getElem?_eq_getElem hlt) (by simpa using h1), List.getElem?_eq_getElem hlt, by simpa using h1, h0⟩
structure Dl (l : List Waiter) (n : Int) (j w : Nat) (b : List Waiter) : Prop where
  jn : j ≤ l.length
  wj : w < j
  len : b.length = l.length
  rest : ∀ i, j ≤ i → b[i]? = l[i]?
  val : b.take w = dropW (l.take j) n
theorem Dl.start {l : List Waiter} {n : Int} {k : Nat} {x : Waiter} (h : l[k]? = some x) (hx : x.g = n) (h0 : ((l.take k).any fun w => decide (w.g = n)) = false) : Dl l n (k + 1) k l :=
  ⟨by have := (List.getElem?_eq_some_iff.1 h).1; omega, by omega, rfl, fun _ _ => rfl, by rw [dropW_out h hx, dropW_all h0]⟩
theorem Dl.put {l b : List Waiter} {n : Int} {j w : Nat} {x : Waiter} (H : Dl l n j w b) (h : l[j]? = some x) (hx : ¬ x.g = n) : Dl l n (j + 1) (w + 1) (b.set w x) := by
  have hlt := (List.getElem?_eq_some_iff.1 h).1
  have h1 := H.wj; have h2 := H.len
  refine ⟨by omega, by omega, by simp [h2], fun i hi => ?_, ?_⟩
  · rw [List.getElem?_set_ne (by omega)]; exact H.rest i (by omega)
  · rw [dropW_go h hx, ← H.val, List.take_add_one, List.take_set_of_le (by omega), List.getElem?_set_self (by omega)]
    rfl
theorem Dl.skip {l b : List Waiter} {n : Int} {j w : Nat} {x : Waiter} (H : Dl l n j w b) (h : l[j]? = some x) (hx : x.g = n) : Dl l n (j + 1) w b :=
  ⟨by have := (List.getElem?_eq_some_iff.1 h).1; omega, by have := H.wj; omega, H.len, fun i hi => H.rest i (by omega), by rw [dropW_out h hx, H.val]⟩
theorem pred0 (w : Waiter) (n : Int) : CallS Tryz.prog 245 [.agg w.cl, .ptr 0 0 0] ([some ⟨1, [[.int .i64 n]]⟩]) (fun o h' => o = .bool (decide (w.g = n)) ∧ h' = [some ⟨1, [[.int .i64 n]]⟩]) := by
  refine CallS.intro Tryz.func245 (by decide) rfl (rs := [.tmp 3]) rfl Tryz.ntmps245 (by simp) ?_; refine SW.ra ?_; refine SW.ra ?_
  refine SW.wk (st' := ⟨[(3, .bool (decide (w.g = n)))], [some ⟨1, [[.int .i64 n]]⟩]⟩) (Wk.cut (by simp) (by simp [subE]; rw [Bool.eq_iff_iff]; simp) (by simp [cutH]) (by simp [lowE, lowN]) (by simp)) ?_; refine SW.ret ?_
  simp [Ex.then, Ex.ib]
  all_goals first
    | done
    | (simp; done)
    | fail
theorem pred_d (w : Waiter) (n : Int) (H : Heap) (hh : H[0]? = some (some ⟨1, [[.int .i64 n]]⟩)) : CallS Tryz.prog 245 [.agg w.cl, .ptr 0 0 0] H (fun o h' => o = .bool (decide (w.g = n)) ∧ h' = H) := by
  have hi : 0 < H.length := (List.getElem?_eq_some_iff.1 hh).1
  refine CallS.mono (CallS.frame [0] (pred0 w n) (by simp [renN]) (by simp [lowN]) (by simp) (by simpa using hi) (by simp [renH, hh]) (by simp) (by simp) ?_) ?_
  · rintro o h' ⟨rfl, rfl⟩
    refine ⟨by simp, ?_, by simp, rfl⟩; intro x hx; simp only [List.mem_singleton] at hx; subst hx; rfl
  · rintro o h' ⟨o0, h0, ⟨rfl, rfl⟩, rfl, rfl⟩
    exact ⟨by simp, by rw [frame1]; exact set_self hh⟩
theorem idx_d (l : List Waiter) (n : Int) (hl : l.length ≤ 2 ^ 40) : CallS Tryz.prog 256 [.sl 1 0 l.length, .fn (.func 245) [] [.ptr 0 0 0]] ([some ⟨1, [[.int .i64 n]]⟩, some ⟨3, WaiterS l⟩]) (fun o h' => o = .int .i64 (idxW l n) ∧ h' = [some ⟨1, [[.int .i64 n]]⟩, some ⟨3, WaiterS l⟩]) := by
  refine CallS.intro Tryz.func256 (by decide) rfl (rs := [.tmp 4]) rfl Tryz.ntmps256 (by simp) ?_; refine SW.ra ?_; refine SW.seqK fun K1 hK1 => ?_; refine SW.ra ?_; refine SW.block ?_
  refine SW.loop (α := Nat) (fun k => ⟨[(8, .int .i64 k), (7, .int .i64 l.length), (0, .sl 1 0 l.length), (1, .fn (.func 245) [] [.ptr 0 0 0])], [some ⟨1, [[.int .i64 n]]⟩, some ⟨3, WaiterS l⟩]⟩) (fun k => k ≤ l.length ∧ ((l.take k).any fun w => decide (w.g = n)) = false) (fun k => l.length - k) (0) ?_ ?_ (fun k hx => ?_)
  case' refine_1 =>
   exact ⟨by simp, by simp⟩
  case' refine_2 =>
   exact Wk.cut (by simp) (by simp [subE]) (by simp [cutH]) (by simp [lowE, lowN]) (by simp)
  case' refine_3 =>
   skip
   refine SW.ra ?_; refine SW.seqK fun K2 hK2 => ?_; refine SW.cond _ rfl (by simp) ?_ ?_
   case' refine_1 =>
    intro hb1; have hlt : k < l.length := by first | omega | (simp at hb1; omega)
    obtain ⟨x, hxk⟩ : ∃ q, l[k]? = some q := ⟨_, List.getElem?_eq_getElem hlt⟩
    have hxE : ∀ h, l[k]'h = x := fun h => (List.getElem?_eq_some_iff.1 hxk).2
    refine SW.skip ?_; refine hK2 _ ?_; refine SW.seqK fun K3 hK3 => ?_; refine SW.block ?_; refine SW.ra ?_; refine SW.rg fun K hK => ?_; simp -implicitDefEqProofs [hxk, hlt, hxE]; iterate 2 (try refine ⟨by omega, ?_⟩)
    refine CallS.mono (pred_d x n _ rfl) ?_
    rintro o h' ⟨rfl, rfl⟩
    simp -implicitDefEqProofs [hxk, hlt, hxE]; repeat refine ⟨by omega, ?_⟩
    refine hK _ ?_; clear hK K; refine SW.cond _ rfl (by simp) ?_ ?_
    case' refine_1 =>
     intro hb2; have hr := idxW_at hx.2 hxk (by simpa using hb2)
     refine SW.ra ?_; refine SW.ret ?_; simp [Ex.then, Ex.ib]
     all_goals first
       | (simp [hr]; done)
       | fail
    intro hb2; have hn := anyW_go hxk hx.2 (by simpa using hb2)
    refine SW.skip ?_; refine hK3 _ ?_; refine SW.ea ?_; refine ⟨k + 1, ⟨by omega, hn⟩, by omega, ?_⟩; exact Wk.cut (by simp) (by simp [subE, wrap1 k (by omega)]) (by simp [cutH]) (by simp [lowE, lowN]) (by simp)
   intro hb1; have hk1 : k = l.length := by simp at hb1; omega
   have hr := idxW_no (l := l) (n := n) (by have h9 := hx.2; rwa [hk1, List.take_length] at h9)
   refine SW.exit ?_; simp only [Ex.then, Ex.ib]; try simp only [if_true, if_false, reduceIte]
   refine hK1 _ ?_; refine SW.ra ?_; refine SW.ret ?_; simp [Ex.then, Ex.ib]
   all_goals first
     | (simp [hr]; done)
     | fail
theorem delete_d (l : List Waiter) (n : Int) (hl : l.length ≤ 2 ^ 30) : CallS Tryz.prog 244 [.sl 1 0 l.length, .fn (.func 245) [] [.ptr 0 0 0]] ([some ⟨1, [[.int .i64 n]]⟩, some ⟨3, WaiterS l⟩]) (fun o h' => ∃ t, o = .sl 1 0 (dropW l n).length ∧ h' = [some ⟨1, [[.int .i64 n]]⟩, some ⟨3, WaiterS (dropW l n ++ t)⟩]) := by
  refine CallS.intro Tryz.func244 (by decide) rfl (rs := [.tmp 4]) rfl Tryz.ntmps244 (by simp) ?_; refine SW.ra ?_; refine SW.rg fun K hK => ?_; simp -implicitDefEqProofs; iterate 2 (try refine ⟨by omega, ?_⟩)
  refine CallS.mono (idx_d l n (by omega)) ?_
  rintro o h' ⟨rfl, rfl⟩
  simp -implicitDefEqProofs; repeat refine ⟨by omega, ?_⟩
  refine hK _ ?_; clear hK K; refine SW.seqK fun K1 hK1 => ?_; refine SW.ra ?_; refine SW.cond _ rfl (by simp) ?_ ?_
  case' refine_1 =>
   intro hb1; have hi : idxW l n = -1 := by simpa using hb1
   have hall : dropW l n = l := by
     cases ha : l.any fun w => decide (w.g = n) with
     | false => exact dropW_all ha
     | true =>
       obtain ⟨y, hy, hyn⟩ := List.any_eq_true.1 ha; rw [idxW, if_pos ha] at hi; omega
   refine SW.ra ?_; refine SW.ret ?_; simp [Ex.then, Ex.ib]
   all_goals first
     | (rw [hall]; exact ⟨[], by simp⟩)
     | (rw [hall]; exact ⟨rfl, [], by simp⟩)
     | (refine ⟨by rw [← hd]; simp; omega, List.replicate (l.length - w) ⟨0, 0, 0⟩, ?_⟩; rw [WaiterS_app, ← hd, ← WaiterS_takeN, List.drop_of_length_le (by simp; omega)]; simp [WaiterS]; done)
     | fail
  intro hb1; have hi : ¬ idxW l n = -1 := by simpa using hb1
  obtain ⟨k, x0, hik, hk, hxn, hk0⟩ := idxW_spec hi; rw [hik]; have hkl := (List.getElem?_eq_some_iff.1 hk).1
  have hw1 := wrapI ((k : Int) + 1) (by omega) (by omega)
  refine SW.skip ?_; refine hK1 _ ?_; refine SW.seqK fun K2 hK2 => ?_; refine SW.rg fun K hK => ?_; simp -implicitDefEqProofs [hw1]; repeat refine ⟨by omega, ?_⟩
  refine hK _ ?_; clear hK K; refine SW.block ?_
  refine SW.loop (α := Nat × Nat × List Waiter) (fun z => ⟨[(6, .int .i64 (z.1 : Nat)), (5, .int .i64 (z.2.1 : Nat)), (0, .sl 1 0 l.length), (1, .fn (.func 245) [] [.ptr 0 0 0])], [some ⟨1, [[.int .i64 n]]⟩, some ⟨3, WaiterS z.2.2⟩]⟩) (fun z => Dl l n z.1 z.2.1 z.2.2) (fun z => l.length - z.1) ((k + 1, k, l)) ?_ ?_ (fun z hx => ?_)
  case' refine_1 =>
   exact Dl.start hk hxn hk0
  case' refine_2 =>
   exact Wk.cut (by simp) (by simp [subE]) (by simp [cutH]) (by simp [lowE, lowN]) (by simp)
  case' refine_3 =>
   obtain ⟨j, w, b⟩ := z; have hc := hx
   simp only [] at hc ⊢; have c1 := hc.jn; have c2 := hc.wj; have c3 := hc.len
   refine SW.seqK fun K3 hK3 => ?_; refine SW.ra ?_; refine SW.cond _ rfl (by simp) ?_ ?_
   case' refine_1 =>
    intro hb2; have hlt : j < l.length := by simp at hb2; omega
    obtain ⟨x, hxk⟩ : ∃ q, l[j]? = some q := ⟨_, List.getElem?_eq_getElem hlt⟩
    have hbx : b[j]? = some x := by rw [hc.rest j (Nat.le_refl _)]; exact hxk
    have hlb : j < b.length := by omega
    have hbE : ∀ h, b[j]'h = x := fun h => (List.getElem?_eq_some_iff.1 hbx).2
    have hln : (j : Int) < (l.length : Int) := by omega
    have hjl : j < l.length := hlt
    refine SW.skip ?_; refine hK3 _ ?_; refine SW.seqK fun K4 hK4 => ?_; refine SW.block ?_; refine SW.rg fun K hK => ?_; simp -implicitDefEqProofs [hbx, hlb, hln, hjl, hlt, hbE]; repeat refine ⟨by omega, ?_⟩
    refine hK _ ?_; clear hK K; refine SW.rg fun K hK => ?_; simp -implicitDefEqProofs; iterate 2 (try refine ⟨by omega, ?_⟩)
    refine CallS.mono (pred_d x n _ rfl) ?_
    rintro o h' ⟨rfl, rfl⟩
    simp -implicitDefEqProofs; repeat refine ⟨by omega, ?_⟩
    refine hK _ ?_; clear hK K; refine SW.cond _ rfl (by simp) ?_ ?_
    case' refine_2 =>
     intro hb3; have hxg : x.g = n := by simpa using hb3
     have hskip := hc.skip hxk hxg
     refine SW.skip ?_
    rotate_right
    case' _ =>
     intro hb3; have hxg : ¬ x.g = n := by simpa using hb3
     have hput := hc.put hxk hxg
     have hwl : w < l.length := by omega
     have hwb : w < b.length := by omega
     obtain ⟨u0, hw0⟩ : ∃ q, b[w]? = some q := ⟨_, List.getElem?_eq_getElem hwb⟩
     refine SW.rg fun K hK => ?_; simp -implicitDefEqProofs [hwl, hwb, splice, hw0]; repeat refine ⟨by omega, ?_⟩
     refine hK _ ?_; clear hK K; refine SW.ea ?_
    all_goals (
     refine hK4 _ ?_; refine SW.ea ?_
     first
       | (have q := hput; refine ⟨(j + 1, w + 1, b.set w x), hput, by simp only []; omega, ?_⟩; exact Wk.cut (by simp) (by simp [subE, wrap1 j (by omega), wrap1 w (by omega)]) (by simp [cutH, ← WaiterS_setL]) (by simp [lowE, lowN]) (by simp))
       | (refine ⟨(j + 1, w, b), hskip, by simp only []; omega, ?_⟩; exact Wk.cut (by simp) (by simp [subE, wrap1 j (by omega)]) (by simp [cutH]) (by simp [lowE, lowN]) (by simp))
       | fail)
   intro hb2; have hj9 : j = l.length := by simp at hb2; omega
   have hd : b.take w = dropW l n := by rw [hc.val, hj9, List.take_length]
   refine SW.exit ?_; simp only [Ex.then, Ex.ib]; try simp only [if_true, if_false, reduceIte]
   refine hK2 _ ?_; refine SW.ra ?_; refine SW.ra ?_; refine SW.ret ?_; simp [Ex.then, Ex.ib]
   all_goals first
     | (rw [hall]; exact ⟨[], by simp⟩)
     | (rw [hall]; exact ⟨rfl, [], by simp⟩)
     | (refine ⟨by rw [← hd]; simp; omega, List.replicate (l.length - w) ⟨0, 0, 0⟩, ?_⟩; rw [WaiterS_app, ← hd, ← WaiterS_takeN, List.drop_of_length_le (by simp; omega)]; simp [WaiterS]; done)
     | fail
end HT
