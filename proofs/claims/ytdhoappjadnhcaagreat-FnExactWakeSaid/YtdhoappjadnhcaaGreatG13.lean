import Derived.Test.YtdhoappjadnhcaaGreatG6
import Derived.Test.YtdhoappjadnhcaaGreatG2b
/-
  My own texts (road H): HCTP HCTQ HCTV.
-/
set_option maxHeartbeats 8000000
set_option linter.unusedSimpArgs false
set_option linter.unusedVariables false
namespace HT
open Go Go.Proofs HK
def mkL {α : Type} (f : Int → α) (F s : Int) (k : Nat) : List α := (List.range k).map fun (i : Nat) => f (s + F * (i : Int))
section
variable {α : Type} {f : Int → α} {F s : Int} {l : List α} {k n : Nat} {x : α}
@[simp] theorem mkL_length : (mkL f F s k).length = k := by simp [mkL]
@[simp] theorem mkL_zero : mkL f F s 0 = [] := rfl
theorem mkL_get (h : k < n) : (mkL f F s n)[k]? = some (f (s + F * (k : Int))) := by simp [mkL, h]
theorem mkL_mid (h : l[k]? = some x) : (mkL f F s k ++ l.drop k)[k]? = some x := by
  rw [List.getElem?_append_right (by simp)]; simp [h]
theorem mkL_set (h : k < l.length) : (mkL f F s k ++ l.drop k).set k (f (s + F * (k : Int))) = mkL f F s (k + 1) ++ l.drop (k + 1) := by
  rw [List.set_append_right _ _ (by simp), List.drop_eq_getElem_cons h]; have e4 : k - (mkL f F s k).length = 0 := by simp
  rw [e4, List.set_cons_zero]; simp [mkL, List.range_succ]
end
theorem nfz_int (d : Nat) (k : IntKind) (n : Int) : nfz (d + 1) (.int k n) = true := rfl
theorem nfz_bool (d : Nat) (b : Bool) : nfz (d + 1) (.bool b) = true := rfl
theorem nfz_own (d sz : Nat) (es : List (List AV)) : nfz (d + 1) (.own sz es) = es.all fun e => e.all (strN 3) := rfl
theorem frame1 (H : Heap) (id : Nat) (b : Option Blk) : frameH H [id] [b] = H.set id (renB (fids [id] H.length 0) b) := by simp [frameH, merge]
def mkInt1 (s : Int) : Int := s
abbrev mkInt (s : Int) (k : Nat) : List Int := mkL mkInt1 1 s k
theorem IntS_setL (l : List Int) (k : Nat) (x : Int) : (IntS l).set k ((fun b => [AV.int .i64 b]) x) = IntS (l.set k x) := by
  simp [IntS, List.map_set]
theorem IntS_nfz (n : Nat) (l : List Int) : nfzB n (some ⟨1, IntS l⟩) = true := by
  simp [nfzB, IntS, nfz_int, nfz_bool]
@[simp] theorem IntS_renB (ids : List Nat) (l : List Int) : renB ids (some ⟨1, IntS l⟩) = some ⟨1, IntS l⟩ := by
  simp [renB]
@[simp] theorem mkInt_take (s : Int) (k : Nat) : List.take k (IntS (mkInt s k)) = IntS (mkInt s k) := List.take_of_length_le (by simp)
theorem mark_IntS0 (l : List Int) (s : Int) (hl : l.length ≤ 2 ^ 40) (hs : 0 ≤ s) (hs2 : s ≤ 2 ^ 50) : CallS Tryz.prog 68 [.sl 0 0 l.length, .int .i64 s] ([some ⟨1, IntS l⟩]) (fun o h' => o = .int .i64 (s + 1 * (l.length : Int)) ∧ h' = [some ⟨1, IntS (mkInt s l.length)⟩]) := by
  refine CallS.intro Tryz.func68 (by decide) rfl (rs := [.tmp 4]) rfl Tryz.ntmps68 (by simp) ?_; refine SW.ra ?_; refine SW.seqK fun K1 hK1 => ?_; refine SW.ra ?_; refine SW.block ?_
  refine SW.loop (α := Nat) (fun k => ⟨[(5, .int .i64 k), (1, .int .i64 (s + (k : Int))), (0, .sl 0 0 l.length)], [some ⟨1, (IntS (mkInt s k ++ l.drop k))⟩]⟩) (fun k => k ≤ l.length) (fun k => l.length - k) (0) ?_ ?_ (fun k hx => ?_)
  case' refine_1 =>
   simp
  case' refine_2 =>
   refine Wk.softH (by simp [softE, softV]) (by simp)
  case' refine_3 =>
   skip
   refine SW.seqK fun K2 hK2 => ?_; refine SW.ra ?_; refine SW.cond _ rfl (by simp) ?_ ?_
   case' refine_2 =>
    intro hb1; have hk : k = l.length := by simp at hb1; omega
    refine SW.exit ?_; simp only [Ex.then, Ex.ib]; try simp only [if_true, if_false, reduceIte]
    refine hK1 _ ?_; refine SW.ra ?_; refine SW.ret ?_; simp [Ex.then, Ex.ib]; subst hk; simp
   rotate_right
   case' _ =>
    intro hb1; have hlt : k < l.length := by simp at hb1; omega
    obtain ⟨x, hxk⟩ : ∃ x, l[k]? = some x := ⟨_, List.getElem?_eq_getElem hlt⟩
    have hxm := List.mem_of_getElem? hxk
    have hmid : (IntS (mkInt s k ++ l.drop k))[k]? = some [.int .i64 x] := by rw [IntS_get, mkL_mid hxk]; rfl
    have hset : (IntS (mkInt s k ++ l.drop k)).set k [.int .i64 (s + (k : Int))] = IntS (mkInt s (k + 1) ++ l.drop (k + 1)) := by rw [← mkL_set hlt, ← IntS_setL]; first | rfl | simp [mkInt1]
    have hss : ∀ v, ((IntS (mkInt s k ++ l.drop k)).set k v)[k]? = some v := fun v => by rw [List.getElem?_set_self (by simp; omega)]
    have hw1 := wrapI (s + (k : Int) + 1) (by omega) (by omega)
    refine SW.skip ?_; refine hK2 _ ?_; refine SW.seqK fun K3 hK3 => ?_; refine SW.block ?_; refine SW.rg fun K hK => ?_; simp -implicitDefEqProofs [hmid, hlt, hss, splice]; repeat refine ⟨by omega, ?_⟩
    refine hK _ ?_; clear hK K; refine SW.regionE fun K hK => ?_; simp -implicitDefEqProofs [hw1]; repeat refine ⟨by omega, ?_⟩
    refine hK _ ?_; clear hK K; refine hK3 _ ?_; refine SW.ea ?_; refine ⟨k + 1, by omega, by omega, ?_⟩; refine Wk.softH (by simp [softE, softV, wrap1 k (by omega)]; try omega) (by simp [hset])
theorem mark_IntS (l : List Int) (s : Int) (H : Heap) (id n : Nat) (hn : l.length = n) (hh : H[id]? = some (some ⟨1, IntS l⟩)) (hl : n ≤ 2 ^ 40) (hs : 0 ≤ s) (hs2 : s ≤ 2 ^ 50) :
    CallS Tryz.prog 68 [.sl id 0 n, .int .i64 s] H (fun o h' => o = .int .i64 (s + 1 * (n : Int)) ∧ h' = H.set id (some ⟨1, IntS (mkInt s n)⟩)) := by
  subst hn; have hi : id < H.length := (List.getElem?_eq_some_iff.1 hh).1
  refine CallS.mono (CallS.frame [id] (mark_IntS0 l s hl hs hs2) (by simp) (by simp) (by simp) (by simpa using hi) (by simp [renH, hh]) (by simp) (by simp) ?_) ?_
  · rintro o h' ⟨rfl, rfl⟩
    refine ⟨by simp, ?_, by simp, rfl⟩; intro x hx; simp only [List.mem_singleton] at hx; subst hx; exact IntS_nfz _ _
  · rintro o h' ⟨o0, h0, ⟨rfl, rfl⟩, rfl, rfl⟩
    exact ⟨by simp, by rw [frame1, IntS_renB]⟩
theorem held_IntS (n : Nat) (s : Int) (hn : n ≤ 2 ^ 40) (hs : 0 ≤ s) (hs2 : s ≤ 2 ^ 50) : Fn Tryz.prog 145 [.fz (IntS (mkInt s n)), .int .i64 s] (.int .i64 (s + 1 * (n : Int))) := by
  refine Fn.intro Tryz.func145 (by decide) rfl (rs := [.tmp 4]) rfl Tryz.ntmps145 (by simp) ?_; refine SW.ra ?_; refine SW.seqK fun K1 hK1 => ?_; refine SW.ra ?_; refine SW.block ?_
  refine SW.loop (α := Nat) (fun k => ⟨[(5, .int .i64 k), (1, .int .i64 (s + (k : Int))), (0, .fz (IntS (mkInt s n)))], []⟩) (fun k => k ≤ n) (fun k => n - k) (0) ?_ ?_ (fun k hx => ?_)
  case' refine_1 =>
   simp
  case' refine_2 =>
   exact Wk.cut (by simp) (by simp [subE]) (by simp [cutH]) (by simp [lowE, lowN]) (by simp)
  case' refine_3 =>
   skip
   refine SW.seqK fun K2 hK2 => ?_; refine SW.ra ?_; refine SW.cond _ rfl (by simp) ?_ ?_
   case' refine_1 =>
    intro hb1; have hlt : k < n := by simpa using hb1
    have hxk : (mkInt s n)[k]? = some (mkInt1 (s + (k : Int))) := by have h9 := mkL_get (f := mkInt1) (F := 1) (s := s) hlt; simpa using h9
    have hw1 := wrapI (s + (k : Int) + 1) (by omega) (by omega)
    refine SW.skip ?_; refine hK2 _ ?_; refine SW.seqK fun K3 hK3 => ?_; refine SW.block ?_; refine SW.seqK fun K4 hK4 => ?_; refine SW.rg fun K hK => ?_; simp -implicitDefEqProofs [hxk, mkInt1]; repeat refine ⟨by omega, ?_⟩
    refine hK _ ?_; clear hK K; refine SW.cond _ rfl (by simp) ?_ ?_
    case' refine_1 =>
     intro hb2; exfalso; simp at hb2
    intro hb2; refine SW.skip ?_; refine hK4 _ ?_; refine SW.regionE fun K hK => ?_; simp -implicitDefEqProofs [hw1]; repeat refine ⟨by omega, ?_⟩
    refine hK _ ?_; clear hK K; refine hK3 _ ?_; refine SW.ea ?_; refine ⟨k + 1, by omega, by omega, ?_⟩; exact Wk.cut (by simp) (by simp [subE, wrap1 k (by omega)]; try omega) (by simp [cutH]) (by simp [lowE, lowN]) (by simp)
   intro hb1; have hk : k = n := by simp at hb1; omega
   refine SW.exit ?_; simp only [Ex.then, Ex.ib]; try simp only [if_true, if_false, reduceIte]
   refine hK1 _ ?_; refine SW.ra ?_; refine SW.ret ?_; simp [Ex.then, Ex.ib]
   all_goals (try (subst hk; simp))
def mkItem1 (s : Int) : Item := ⟨s, s + 1, s + 1 + 1, (s + 1 + 1 + 1).tmod 3 == 0⟩
abbrev mkItem (s : Int) (k : Nat) : List Item := mkL mkItem1 4 s k
theorem ItemS_setL (l : List Item) (k : Nat) (x : Item) : (ItemS l).set k (Item.cl x) = ItemS (l.set k x) := by
  simp [ItemS, List.map_set]
theorem ItemS_nfz (n : Nat) (l : List Item) : nfzB n (some ⟨4, ItemS l⟩) = true := by
  simp [nfzB, ItemS, nfz_int, nfz_bool]
@[simp] theorem ItemS_renB (ids : List Nat) (l : List Item) : renB ids (some ⟨4, ItemS l⟩) = some ⟨4, ItemS l⟩ := by
  simp [renB]
@[simp] theorem mkItem_take (s : Int) (k : Nat) : List.take k (ItemS (mkItem s k)) = ItemS (mkItem s k) := List.take_of_length_le (by simp)
theorem mark_ItemS0 (l : List Item) (s : Int) (hl : l.length ≤ 2 ^ 40) (hs : 0 ≤ s) (hs2 : s ≤ 2 ^ 50) : CallS Tryz.prog 143 [.sl 0 0 l.length, .int .i64 s] ([some ⟨4, ItemS l⟩]) (fun o h' => o = .int .i64 (s + 4 * (l.length : Int)) ∧ h' = [some ⟨4, ItemS (mkItem s l.length)⟩]) := by
  refine CallS.intro Tryz.func143 (by decide) rfl (rs := [.tmp 4]) rfl Tryz.ntmps143 (by simp) ?_; refine SW.ra ?_; refine SW.seqK fun K1 hK1 => ?_; refine SW.ra ?_; refine SW.block ?_
  refine SW.loop (α := Nat) (fun k => ⟨[(5, .int .i64 k), (1, .int .i64 (s + 4 * (k : Int))), (0, .sl 0 0 l.length)], [some ⟨4, (ItemS (mkItem s k ++ l.drop k))⟩]⟩) (fun k => k ≤ l.length) (fun k => l.length - k) (0) ?_ ?_ (fun k hx => ?_)
  case' refine_1 =>
   simp
  case' refine_2 =>
   refine Wk.softH (by simp [softE, softV]) (by simp)
  case' refine_3 =>
   skip
   refine SW.seqK fun K2 hK2 => ?_; refine SW.ra ?_; refine SW.cond _ rfl (by simp) ?_ ?_
   case' refine_2 =>
    intro hb1; have hk : k = l.length := by simp at hb1; omega
    refine SW.exit ?_; simp only [Ex.then, Ex.ib]; try simp only [if_true, if_false, reduceIte]
    refine hK1 _ ?_; refine SW.ra ?_; refine SW.ret ?_; simp [Ex.then, Ex.ib]; subst hk; simp
   rotate_right
   case' _ =>
    intro hb1; have hlt : k < l.length := by simp at hb1; omega
    obtain ⟨x, hxk⟩ : ∃ x, l[k]? = some x := ⟨_, List.getElem?_eq_getElem hlt⟩
    have hxm := List.mem_of_getElem? hxk
    have hmid : (ItemS (mkItem s k ++ l.drop k))[k]? = some [.int .i64 x.kind, .int .i64 x.obj, .int .i64 x.v, .bool x.ok] := by rw [ItemS_get, mkL_mid hxk]; rfl
    have hset : (ItemS (mkItem s k ++ l.drop k)).set k [.int .i64 (s + 4 * (k : Int)), .int .i64 (s + 4 * (k : Int) + 1), .int .i64 (s + 4 * (k : Int) + 1 + 1), .bool ((s + 4 * (k : Int) + 1 + 1 + 1).tmod 3 == 0)] = ItemS (mkItem s (k + 1) ++ l.drop (k + 1)) := by rw [← mkL_set hlt, ← ItemS_setL]; first | rfl | simp [mkInt1]
    have hss : ∀ v, ((ItemS (mkItem s k ++ l.drop k)).set k v)[k]? = some v := fun v => by rw [List.getElem?_set_self (by simp; omega)]
    have hw1 := wrapI (s + 4 * (k : Int) + 1) (by omega) (by omega)
    have hw2 := wrapI (s + 4 * (k : Int) + 1 + 1) (by omega) (by omega)
    have hw3 := wrapI (s + 4 * (k : Int) + 1 + 1 + 1) (by omega) (by omega)
    have hw4 := wrapI (s + 4 * (k : Int) + 1 + 1 + 1 + 1) (by omega) (by omega)
    refine SW.skip ?_; refine hK2 _ ?_; refine SW.seqK fun K3 hK3 => ?_; refine SW.block ?_; refine SW.rg fun K hK => ?_; simp -implicitDefEqProofs [hmid, hlt, hss, splice]; repeat refine ⟨by omega, ?_⟩
    refine hK _ ?_; clear hK K; refine SW.rg fun K hK => ?_; simp -implicitDefEqProofs [hw1]; repeat refine ⟨by omega, ?_⟩
    refine hK _ ?_; clear hK K; refine SW.rg fun K hK => ?_; simp -implicitDefEqProofs [hmid, hlt, hss, splice]; repeat refine ⟨by omega, ?_⟩
    refine hK _ ?_; clear hK K; refine SW.rg fun K hK => ?_; simp -implicitDefEqProofs [hw2]; repeat refine ⟨by omega, ?_⟩
    refine hK _ ?_; clear hK K; refine SW.rg fun K hK => ?_; simp -implicitDefEqProofs [hmid, hlt, hss, splice]; repeat refine ⟨by omega, ?_⟩
    refine hK _ ?_; clear hK K; refine SW.rg fun K hK => ?_; simp -implicitDefEqProofs [hw3]; repeat refine ⟨by omega, ?_⟩
    refine hK _ ?_; clear hK K; refine SW.rg fun K hK => ?_; simp -implicitDefEqProofs [hmid, hlt, hss, splice]; repeat refine ⟨by omega, ?_⟩
    refine hK _ ?_; clear hK K; refine SW.regionE fun K hK => ?_; simp -implicitDefEqProofs [hw4]; repeat refine ⟨by omega, ?_⟩
    refine hK _ ?_; clear hK K; refine hK3 _ ?_; refine SW.ea ?_; refine ⟨k + 1, by omega, by omega, ?_⟩; refine Wk.softH (by simp [softE, softV, wrap1 k (by omega)]; try omega) (by simp [hset])
theorem mark_ItemS (l : List Item) (s : Int) (H : Heap) (id n : Nat) (hn : l.length = n) (hh : H[id]? = some (some ⟨4, ItemS l⟩)) (hl : n ≤ 2 ^ 40) (hs : 0 ≤ s) (hs2 : s ≤ 2 ^ 50) :
    CallS Tryz.prog 143 [.sl id 0 n, .int .i64 s] H (fun o h' => o = .int .i64 (s + 4 * (n : Int)) ∧ h' = H.set id (some ⟨4, ItemS (mkItem s n)⟩)) := by
  subst hn; have hi : id < H.length := (List.getElem?_eq_some_iff.1 hh).1
  refine CallS.mono (CallS.frame [id] (mark_ItemS0 l s hl hs hs2) (by simp) (by simp) (by simp) (by simpa using hi) (by simp [renH, hh]) (by simp) (by simp) ?_) ?_
  · rintro o h' ⟨rfl, rfl⟩
    refine ⟨by simp, ?_, by simp, rfl⟩; intro x hx; simp only [List.mem_singleton] at hx; subst hx; exact ItemS_nfz _ _
  · rintro o h' ⟨o0, h0, ⟨rfl, rfl⟩, rfl, rfl⟩
    exact ⟨by simp, by rw [frame1, ItemS_renB]⟩
theorem held_ItemS (n : Nat) (s : Int) (hn : n ≤ 2 ^ 40) (hs : 0 ≤ s) (hs2 : s ≤ 2 ^ 50) : Fn Tryz.prog 146 [.fz (ItemS (mkItem s n)), .int .i64 s] (.int .i64 (s + 4 * (n : Int))) := by
  refine Fn.intro Tryz.func146 (by decide) rfl (rs := [.tmp 4]) rfl Tryz.ntmps146 (by simp) ?_; refine SW.ra ?_; refine SW.seqK fun K1 hK1 => ?_; refine SW.ra ?_; refine SW.block ?_
  refine SW.loop (α := Nat) (fun k => ⟨[(5, .int .i64 k), (1, .int .i64 (s + 4 * (k : Int))), (0, .fz (ItemS (mkItem s n)))], []⟩) (fun k => k ≤ n) (fun k => n - k) (0) ?_ ?_ (fun k hx => ?_)
  case' refine_1 =>
   simp
  case' refine_2 =>
   exact Wk.cut (by simp) (by simp [subE]) (by simp [cutH]) (by simp [lowE, lowN]) (by simp)
  case' refine_3 =>
   skip
   refine SW.seqK fun K2 hK2 => ?_; refine SW.ra ?_; refine SW.cond _ rfl (by simp) ?_ ?_
   case' refine_1 =>
    intro hb1; have hlt : k < n := by simpa using hb1
    have hxk : (mkItem s n)[k]? = some (mkItem1 (s + 4 * (k : Int))) := by have h9 := mkL_get (f := mkItem1) (F := 4) (s := s) hlt; simpa using h9
    have hw1 := wrapI (s + 4 * (k : Int) + 1) (by omega) (by omega)
    have hw2 := wrapI (s + 4 * (k : Int) + 1 + 1) (by omega) (by omega)
    have hw3 := wrapI (s + 4 * (k : Int) + 1 + 1 + 1) (by omega) (by omega)
    have hw4 := wrapI (s + 4 * (k : Int) + 1 + 1 + 1 + 1) (by omega) (by omega)
    refine SW.skip ?_; refine hK2 _ ?_; refine SW.seqK fun K3 hK3 => ?_; refine SW.block ?_; refine SW.seqK fun K4 hK4 => ?_; refine SW.rg fun K hK => ?_; simp -implicitDefEqProofs [hxk, mkItem1]; repeat refine ⟨by omega, ?_⟩
    refine hK _ ?_; clear hK K; refine SW.cond _ rfl (by simp) ?_ ?_
    case' refine_1 =>
     intro hb2; exfalso; simp at hb2
    intro hb2; refine SW.skip ?_; refine hK4 _ ?_; refine SW.rg fun K hK => ?_; simp -implicitDefEqProofs [hw1]; repeat refine ⟨by omega, ?_⟩
    refine hK _ ?_; clear hK K; refine SW.seqK fun K5 hK5 => ?_; refine SW.rg fun K hK => ?_; simp -implicitDefEqProofs [hxk, mkItem1]; repeat refine ⟨by omega, ?_⟩
    refine hK _ ?_; clear hK K; refine SW.cond _ rfl (by simp) ?_ ?_
    case' refine_1 =>
     intro hb3; exfalso; simp at hb3
    intro hb3; refine SW.skip ?_; refine hK5 _ ?_; refine SW.rg fun K hK => ?_; simp -implicitDefEqProofs [hw2]; repeat refine ⟨by omega, ?_⟩
    refine hK _ ?_; clear hK K; refine SW.seqK fun K6 hK6 => ?_; refine SW.rg fun K hK => ?_; simp -implicitDefEqProofs [hxk, mkItem1]; repeat refine ⟨by omega, ?_⟩
    refine hK _ ?_; clear hK K; refine SW.cond _ rfl (by simp) ?_ ?_
    case' refine_1 =>
     intro hb4; exfalso; simp at hb4
    intro hb4; refine SW.skip ?_; refine hK6 _ ?_; refine SW.rg fun K hK => ?_; simp -implicitDefEqProofs [hw3]; repeat refine ⟨by omega, ?_⟩
    refine hK _ ?_; clear hK K; refine SW.seqK fun K7 hK7 => ?_; refine SW.rg fun K hK => ?_; simp -implicitDefEqProofs [hxk, mkItem1]; repeat refine ⟨by omega, ?_⟩
    refine hK _ ?_; clear hK K; refine SW.cond _ rfl (by simp) ?_ ?_
    case' refine_1 =>
     intro hb5; exfalso; simp at hb5
    intro hb5; refine SW.skip ?_; refine hK7 _ ?_; refine SW.regionE fun K hK => ?_; simp -implicitDefEqProofs [hw4]; repeat refine ⟨by omega, ?_⟩
    refine hK _ ?_; clear hK K; refine hK3 _ ?_; refine SW.ea ?_; refine ⟨k + 1, by omega, by omega, ?_⟩; exact Wk.cut (by simp) (by simp [subE, wrap1 k (by omega)]; try omega) (by simp [cutH]) (by simp [lowE, lowN]) (by simp)
   intro hb1; have hk : k = n := by simp at hb1; omega
   refine SW.exit ?_; simp only [Ex.then, Ex.ib]; try simp only [if_true, if_false, reduceIte]
   refine hK1 _ ?_; refine SW.ra ?_; refine SW.ret ?_; simp [Ex.then, Ex.ib]
   all_goals (try (subst hk; simp))
def mkCase1 (s : Int) : Case := ⟨(s).tmod 3 == 0, s + 1, s + 1 + 1, s + 1 + 1 + 1, s + 1 + 1 + 1 + 1⟩
abbrev mkCase (s : Int) (k : Nat) : List Case := mkL mkCase1 5 s k
theorem CaseS_setL (l : List Case) (k : Nat) (x : Case) : (CaseS l).set k (Case.cl x) = CaseS (l.set k x) := by
  simp [CaseS, List.map_set]
theorem CaseS_nfz (n : Nat) (l : List Case) : nfzB n (some ⟨5, CaseS l⟩) = true := by
  simp [nfzB, CaseS, nfz_int, nfz_bool]
@[simp] theorem CaseS_renB (ids : List Nat) (l : List Case) : renB ids (some ⟨5, CaseS l⟩) = some ⟨5, CaseS l⟩ := by
  simp [renB]
@[simp] theorem mkCase_take (s : Int) (k : Nat) : List.take k (CaseS (mkCase s k)) = CaseS (mkCase s k) := List.take_of_length_le (by simp)
theorem mark_CaseS0 (l : List Case) (s : Int) (hl : l.length ≤ 2 ^ 40) (hs : 0 ≤ s) (hs2 : s ≤ 2 ^ 50) : CallS Tryz.prog 141 [.sl 0 0 l.length, .int .i64 s] ([some ⟨5, CaseS l⟩]) (fun o h' => o = .int .i64 (s + 5 * (l.length : Int)) ∧ h' = [some ⟨5, CaseS (mkCase s l.length)⟩]) := by
  refine CallS.intro Tryz.func141 (by decide) rfl (rs := [.tmp 4]) rfl Tryz.ntmps141 (by simp) ?_; refine SW.ra ?_; refine SW.seqK fun K1 hK1 => ?_; refine SW.ra ?_; refine SW.block ?_
  refine SW.loop (α := Nat) (fun k => ⟨[(5, .int .i64 k), (1, .int .i64 (s + 5 * (k : Int))), (0, .sl 0 0 l.length)], [some ⟨5, (CaseS (mkCase s k ++ l.drop k))⟩]⟩) (fun k => k ≤ l.length) (fun k => l.length - k) (0) ?_ ?_ (fun k hx => ?_)
  case' refine_1 =>
   simp
  case' refine_2 =>
   refine Wk.softH (by simp [softE, softV]) (by simp)
  case' refine_3 =>
   skip
   refine SW.seqK fun K2 hK2 => ?_; refine SW.ra ?_; refine SW.cond _ rfl (by simp) ?_ ?_
   case' refine_2 =>
    intro hb1; have hk : k = l.length := by simp at hb1; omega
    refine SW.exit ?_; simp only [Ex.then, Ex.ib]; try simp only [if_true, if_false, reduceIte]
    refine hK1 _ ?_; refine SW.ra ?_; refine SW.ret ?_; simp [Ex.then, Ex.ib]; subst hk; simp
   rotate_right
   case' _ =>
    intro hb1; have hlt : k < l.length := by simp at hb1; omega
    obtain ⟨x, hxk⟩ : ∃ x, l[k]? = some x := ⟨_, List.getElem?_eq_getElem hlt⟩
    have hxm := List.mem_of_getElem? hxk
    have hmid : (CaseS (mkCase s k ++ l.drop k))[k]? = some [.bool x.send, .int .i64 x.chan, .int .i64 x.reg, .int .i64 x.ok, .int .i64 x.to] := by rw [CaseS_get, mkL_mid hxk]; rfl
    have hset : (CaseS (mkCase s k ++ l.drop k)).set k [.bool ((s + 5 * (k : Int)).tmod 3 == 0), .int .i64 (s + 5 * (k : Int) + 1), .int .i64 (s + 5 * (k : Int) + 1 + 1), .int .i64 (s + 5 * (k : Int) + 1 + 1 + 1), .int .i64 (s + 5 * (k : Int) + 1 + 1 + 1 + 1)] = CaseS (mkCase s (k + 1) ++ l.drop (k + 1)) := by rw [← mkL_set hlt, ← CaseS_setL]; first | rfl | simp [mkInt1]
    have hss : ∀ v, ((CaseS (mkCase s k ++ l.drop k)).set k v)[k]? = some v := fun v => by rw [List.getElem?_set_self (by simp; omega)]
    have hw1 := wrapI (s + 5 * (k : Int) + 1) (by omega) (by omega)
    have hw2 := wrapI (s + 5 * (k : Int) + 1 + 1) (by omega) (by omega)
    have hw3 := wrapI (s + 5 * (k : Int) + 1 + 1 + 1) (by omega) (by omega)
    have hw4 := wrapI (s + 5 * (k : Int) + 1 + 1 + 1 + 1) (by omega) (by omega)
    have hw5 := wrapI (s + 5 * (k : Int) + 1 + 1 + 1 + 1 + 1) (by omega) (by omega)
    refine SW.skip ?_; refine hK2 _ ?_; refine SW.seqK fun K3 hK3 => ?_; refine SW.block ?_; refine SW.rg fun K hK => ?_; simp -implicitDefEqProofs [hmid, hlt, hss, splice]; repeat refine ⟨by omega, ?_⟩
    refine hK _ ?_; clear hK K; refine SW.rg fun K hK => ?_; simp -implicitDefEqProofs [hw1]; repeat refine ⟨by omega, ?_⟩
    refine hK _ ?_; clear hK K; refine SW.rg fun K hK => ?_; simp -implicitDefEqProofs [hmid, hlt, hss, splice]; repeat refine ⟨by omega, ?_⟩
    refine hK _ ?_; clear hK K; refine SW.rg fun K hK => ?_; simp -implicitDefEqProofs [hw2]; repeat refine ⟨by omega, ?_⟩
    refine hK _ ?_; clear hK K; refine SW.rg fun K hK => ?_; simp -implicitDefEqProofs [hmid, hlt, hss, splice]; repeat refine ⟨by omega, ?_⟩
    refine hK _ ?_; clear hK K; refine SW.rg fun K hK => ?_; simp -implicitDefEqProofs [hw3]; repeat refine ⟨by omega, ?_⟩
    refine hK _ ?_; clear hK K; refine SW.rg fun K hK => ?_; simp -implicitDefEqProofs [hmid, hlt, hss, splice]; repeat refine ⟨by omega, ?_⟩
    refine hK _ ?_; clear hK K; refine SW.rg fun K hK => ?_; simp -implicitDefEqProofs [hw4]; repeat refine ⟨by omega, ?_⟩
    refine hK _ ?_; clear hK K; refine SW.rg fun K hK => ?_; simp -implicitDefEqProofs [hmid, hlt, hss, splice]; repeat refine ⟨by omega, ?_⟩
    refine hK _ ?_; clear hK K; refine SW.regionE fun K hK => ?_; simp -implicitDefEqProofs [hw5]; repeat refine ⟨by omega, ?_⟩
    refine hK _ ?_; clear hK K; refine hK3 _ ?_; refine SW.ea ?_; refine ⟨k + 1, by omega, by omega, ?_⟩; refine Wk.softH (by simp [softE, softV, wrap1 k (by omega)]; try omega) (by simp [hset])
theorem mark_CaseS (l : List Case) (s : Int) (H : Heap) (id n : Nat) (hn : l.length = n) (hh : H[id]? = some (some ⟨5, CaseS l⟩)) (hl : n ≤ 2 ^ 40) (hs : 0 ≤ s) (hs2 : s ≤ 2 ^ 50) :
    CallS Tryz.prog 141 [.sl id 0 n, .int .i64 s] H (fun o h' => o = .int .i64 (s + 5 * (n : Int)) ∧ h' = H.set id (some ⟨5, CaseS (mkCase s n)⟩)) := by
  subst hn; have hi : id < H.length := (List.getElem?_eq_some_iff.1 hh).1
  refine CallS.mono (CallS.frame [id] (mark_CaseS0 l s hl hs hs2) (by simp) (by simp) (by simp) (by simpa using hi) (by simp [renH, hh]) (by simp) (by simp) ?_) ?_
  · rintro o h' ⟨rfl, rfl⟩
    refine ⟨by simp, ?_, by simp, rfl⟩; intro x hx; simp only [List.mem_singleton] at hx; subst hx; exact CaseS_nfz _ _
  · rintro o h' ⟨o0, h0, ⟨rfl, rfl⟩, rfl, rfl⟩
    exact ⟨by simp, by rw [frame1, CaseS_renB]⟩
def mkInstr1 (s : Int) : Instr := ⟨s, s + 1, s + 1 + 1, s + 1 + 1 + 1⟩
abbrev mkInstr (s : Int) (k : Nat) : List Instr := mkL mkInstr1 4 s k
theorem InstrS_setL (l : List Instr) (k : Nat) (x : Instr) : (InstrS l).set k (Instr.cl x) = InstrS (l.set k x) := by
  simp [InstrS, List.map_set]
theorem InstrS_nfz (n : Nat) (l : List Instr) : nfzB n (some ⟨4, InstrS l⟩) = true := by
  simp [nfzB, InstrS, nfz_int, nfz_bool]
@[simp] theorem InstrS_renB (ids : List Nat) (l : List Instr) : renB ids (some ⟨4, InstrS l⟩) = some ⟨4, InstrS l⟩ := by
  simp [renB]
@[simp] theorem mkInstr_take (s : Int) (k : Nat) : List.take k (InstrS (mkInstr s k)) = InstrS (mkInstr s k) := List.take_of_length_le (by simp)
theorem mark_InstrS0 (l : List Instr) (s : Int) (hl : l.length ≤ 2 ^ 40) (hs : 0 ≤ s) (hs2 : s ≤ 2 ^ 50) : CallS Tryz.prog 142 [.sl 0 0 l.length, .int .i64 s] ([some ⟨4, InstrS l⟩]) (fun o h' => o = .int .i64 (s + 4 * (l.length : Int)) ∧ h' = [some ⟨4, InstrS (mkInstr s l.length)⟩]) := by
  refine CallS.intro Tryz.func142 (by decide) rfl (rs := [.tmp 4]) rfl Tryz.ntmps142 (by simp) ?_; refine SW.ra ?_; refine SW.seqK fun K1 hK1 => ?_; refine SW.ra ?_; refine SW.block ?_
  refine SW.loop (α := Nat) (fun k => ⟨[(5, .int .i64 k), (1, .int .i64 (s + 4 * (k : Int))), (0, .sl 0 0 l.length)], [some ⟨4, (InstrS (mkInstr s k ++ l.drop k))⟩]⟩) (fun k => k ≤ l.length) (fun k => l.length - k) (0) ?_ ?_ (fun k hx => ?_)
  case' refine_1 =>
   simp
  case' refine_2 =>
   refine Wk.softH (by simp [softE, softV]) (by simp)
  case' refine_3 =>
   skip
   refine SW.seqK fun K2 hK2 => ?_; refine SW.ra ?_; refine SW.cond _ rfl (by simp) ?_ ?_
   case' refine_2 =>
    intro hb1; have hk : k = l.length := by simp at hb1; omega
    refine SW.exit ?_; simp only [Ex.then, Ex.ib]; try simp only [if_true, if_false, reduceIte]
    refine hK1 _ ?_; refine SW.ra ?_; refine SW.ret ?_; simp [Ex.then, Ex.ib]; subst hk; simp
   rotate_right
   case' _ =>
    intro hb1; have hlt : k < l.length := by simp at hb1; omega
    obtain ⟨x, hxk⟩ : ∃ x, l[k]? = some x := ⟨_, List.getElem?_eq_getElem hlt⟩
    have hxm := List.mem_of_getElem? hxk
    have hmid : (InstrS (mkInstr s k ++ l.drop k))[k]? = some [.int .i64 x.op, .int .i64 x.a, .int .i64 x.b, .int .i64 x.c] := by rw [InstrS_get, mkL_mid hxk]; rfl
    have hset : (InstrS (mkInstr s k ++ l.drop k)).set k [.int .i64 (s + 4 * (k : Int)), .int .i64 (s + 4 * (k : Int) + 1), .int .i64 (s + 4 * (k : Int) + 1 + 1), .int .i64 (s + 4 * (k : Int) + 1 + 1 + 1)] = InstrS (mkInstr s (k + 1) ++ l.drop (k + 1)) := by rw [← mkL_set hlt, ← InstrS_setL]; first | rfl | simp [mkInt1]
    have hss : ∀ v, ((InstrS (mkInstr s k ++ l.drop k)).set k v)[k]? = some v := fun v => by rw [List.getElem?_set_self (by simp; omega)]
    have hw1 := wrapI (s + 4 * (k : Int) + 1) (by omega) (by omega)
    have hw2 := wrapI (s + 4 * (k : Int) + 1 + 1) (by omega) (by omega)
    have hw3 := wrapI (s + 4 * (k : Int) + 1 + 1 + 1) (by omega) (by omega)
    have hw4 := wrapI (s + 4 * (k : Int) + 1 + 1 + 1 + 1) (by omega) (by omega)
    refine SW.skip ?_; refine hK2 _ ?_; refine SW.seqK fun K3 hK3 => ?_; refine SW.block ?_; refine SW.rg fun K hK => ?_; simp -implicitDefEqProofs [hmid, hlt, hss, splice]; repeat refine ⟨by omega, ?_⟩
    refine hK _ ?_; clear hK K; refine SW.rg fun K hK => ?_; simp -implicitDefEqProofs [hw1]; repeat refine ⟨by omega, ?_⟩
    refine hK _ ?_; clear hK K; refine SW.rg fun K hK => ?_; simp -implicitDefEqProofs [hmid, hlt, hss, splice]; repeat refine ⟨by omega, ?_⟩
    refine hK _ ?_; clear hK K; refine SW.rg fun K hK => ?_; simp -implicitDefEqProofs [hw2]; repeat refine ⟨by omega, ?_⟩
    refine hK _ ?_; clear hK K; refine SW.rg fun K hK => ?_; simp -implicitDefEqProofs [hmid, hlt, hss, splice]; repeat refine ⟨by omega, ?_⟩
    refine hK _ ?_; clear hK K; refine SW.rg fun K hK => ?_; simp -implicitDefEqProofs [hw3]; repeat refine ⟨by omega, ?_⟩
    refine hK _ ?_; clear hK K; refine SW.rg fun K hK => ?_; simp -implicitDefEqProofs [hmid, hlt, hss, splice]; repeat refine ⟨by omega, ?_⟩
    refine hK _ ?_; clear hK K; refine SW.regionE fun K hK => ?_; simp -implicitDefEqProofs [hw4]; repeat refine ⟨by omega, ?_⟩
    refine hK _ ?_; clear hK K; refine hK3 _ ?_; refine SW.ea ?_; refine ⟨k + 1, by omega, by omega, ?_⟩; refine Wk.softH (by simp [softE, softV, wrap1 k (by omega)]; try omega) (by simp [hset])
theorem mark_InstrS (l : List Instr) (s : Int) (H : Heap) (id n : Nat) (hn : l.length = n) (hh : H[id]? = some (some ⟨4, InstrS l⟩)) (hl : n ≤ 2 ^ 40) (hs : 0 ≤ s) (hs2 : s ≤ 2 ^ 50) :
    CallS Tryz.prog 142 [.sl id 0 n, .int .i64 s] H (fun o h' => o = .int .i64 (s + 4 * (n : Int)) ∧ h' = H.set id (some ⟨4, InstrS (mkInstr s n)⟩)) := by
  subst hn; have hi : id < H.length := (List.getElem?_eq_some_iff.1 hh).1
  refine CallS.mono (CallS.frame [id] (mark_InstrS0 l s hl hs hs2) (by simp) (by simp) (by simp) (by simpa using hi) (by simp [renH, hh]) (by simp) (by simp) ?_) ?_
  · rintro o h' ⟨rfl, rfl⟩
    refine ⟨by simp, ?_, by simp, rfl⟩; intro x hx; simp only [List.mem_singleton] at hx; subst hx; exact InstrS_nfz _ _
  · rintro o h' ⟨o0, h0, ⟨rfl, rfl⟩, rfl, rfl⟩
    exact ⟨by simp, by rw [frame1, InstrS_renB]⟩
end HT
namespace HT
open Go Go.Proofs HK
theorem map_set_same {α β : Type} {f : α → β} {l : List α} {k : Nat} {x y : α} (h : l[k]? = some x) (e : f y = f x) : (l.set k y).map f = l.map f := by
  rw [List.map_set, e]; refine List.ext_getElem? fun i => ?_; rw [List.getElem?_set]; split
  · rename_i hi
    subst hi; split
    · rw [List.getElem?_map, h]; rfl
    · rename_i hlt
      rw [List.getElem?_eq_none (by omega)]
  · rfl
def Select.wt (d : Select) : Nat := 5 * d.cases.length + 1
def Select.ln (d : Select) : List Nat := [d.cases.length]
theorem SelectSo_nfz (n : Nat) (l : List Select) : nfzB n (some ⟨2, SelectSo l⟩) = true := by
  simp [nfzB, SelectSo, nfz_int, nfz_bool, nfz_own, -strN]
@[simp] theorem SelectSo_renB (ids : List Nat) (l : List Select) : renB ids (some ⟨2, SelectSo l⟩) = some ⟨2, SelectSo l⟩ := by
  simp [renB]
theorem mark_SelectS0 (l : List Select) (s : Int) (hl : l.length ≤ 2 ^ 30) (hW : (l.map Select.wt).sum ≤ 2 ^ 30) (hs : 0 ≤ s) (hs2 : s ≤ 2 ^ 40) : CallS Tryz.prog 69 [.sl 0 0 l.length, .int .i64 s] ([some ⟨2, SelectSo l⟩]) (fun o h' => o = .int .i64 (s + (((l.map Select.wt).sum : Nat) : Int)) ∧ ∃ l', l'.map Select.ln = l.map Select.ln ∧ h' = [some ⟨2, SelectSo l'⟩]) := by
  refine CallS.intro Tryz.func69 (by decide) rfl (rs := [.tmp 4]) rfl Tryz.ntmps69 (by simp) ?_; refine SW.ra ?_; refine SW.seqK fun K1 hK1 => ?_; refine SW.ra ?_; refine SW.block ?_
  refine SW.loop (α := Nat × List Select) (fun x => ⟨[(5, .int .i64 (x.1 : Nat)), (1, .int .i64 (s + ((((l.take x.1).map Select.wt).sum : Nat) : Int))), (0, .sl 0 0 l.length)], [some ⟨2, SelectSo x.2⟩]⟩) (fun x => x.1 ≤ l.length ∧ x.2.map Select.ln = l.map Select.ln) (fun x => l.length - x.1) ((0, l)) ?_ ?_ (fun x hx => ?_)
  case' refine_1 =>
   simp
  case' refine_2 =>
   refine Wk.softH (by simp [softE, softV]) (by simp)
  case' refine_3 =>
   obtain ⟨k, l'⟩ := x; simp only [] at hx; obtain ⟨hk, hln⟩ := hx; simp only []; have hll : l'.length = l.length := by have h9 := congrArg List.length hln; simpa using h9
   have hst := sum_take Select.wt l k
   obtain ⟨KK, hKK⟩ : ∃ KK : Int, KK = s + ((((l.take k).map Select.wt).sum : Nat) : Int) := ⟨_, rfl⟩
   rw [← hKK]; refine SW.seqK fun K2 hK2 => ?_; refine SW.ra ?_; refine SW.cond _ rfl (by simp) ?_ ?_
   case' refine_1 =>
    intro hb1; have hlt : k < l.length := by simp at hb1; omega
    obtain ⟨x, hxk⟩ : ∃ x, l'[k]? = some x := ⟨_, List.getElem?_eq_getElem (by omega)⟩
    obtain ⟨x0, hx0⟩ : ∃ x, l[k]? = some x := ⟨_, List.getElem?_eq_getElem hlt⟩
    have hlx : x.ln = x0.ln := by have h9 := congrArg (·[k]?) hln; simpa [hxk, hx0] using h9
    have hxl := hlx
    simp only [Select.ln, List.cons.injEq, and_true] at hlx; have hst1 := szL_take (f := Select.wt) hx0
    have htot := sum_take Select.wt l (k + 1)
    simp only [Select.wt] at hst1; have hss : ∀ v, ((SelectSo l').set k v)[k]? = some v := fun v => by rw [List.getElem?_set_self (by simp; omega)]
    have hw1 := wrapI (KK + 5 * (x.cases.length : Int) + 1) (by omega) (by omega)
    have hnx : s + ((((l.take (k + 1)).map Select.wt).sum : Nat) : Int) = KK + 5 * (x.cases.length : Int) + 1 := by omega
    rw [List.map_take] at hnx
    refine SW.wk (Wk.unfoldE (env' := [(5, .int .i64 (k : Nat)), (1, .int .i64 KK), (0, .sl 0 0 l.length)]) (h' := [some ⟨2, (SelectSo l').set k [.sl 1 0 x.cases.length, .int .i64 x.els]⟩, some ⟨5, CaseS x.cases⟩]) (p := 0) (i := k) (c := 0) (szB := 2) (sz := 5) (es := (SelectSo l')) (esj := CaseS x.cases) [.own 5 (CaseS x.cases), .int .i64 x.els] (by simp) (by simp [hxk, hss]) (by simp) (by simp [subE]) (by simp [List.set_set])) ?_
    refine SW.skip ?_; refine hK2 _ ?_; refine SW.seqK fun K3 hK3 => ?_; refine SW.block ?_; refine SW.rg fun K hK => ?_; simp -implicitDefEqProofs [hss, hlt, hll]; iterate 2 (try refine ⟨by omega, ?_⟩)
    refine CallS.mono (mark_CaseS x.cases (KK) _ 1 _ rfl (by simp) (by omega) (by omega) (by omega)) ?_
    rintro o h' ⟨rfl, rfl⟩
    simp -implicitDefEqProofs [hss, hlt, hll]; repeat refine ⟨by omega, ?_⟩
    refine hK _ ?_; clear hK K; refine SW.rg fun K hK => ?_; simp -implicitDefEqProofs [hss, hlt, hll, splice]; repeat refine ⟨by omega, ?_⟩
    refine hK _ ?_; clear hK K; refine SW.regionE fun K hK => ?_; simp -implicitDefEqProofs [hw1]; repeat refine ⟨by omega, ?_⟩
    refine hK _ ?_; clear hK K; refine hK3 _ ?_; refine SW.ea ?_
    refine ⟨(k + 1, l'.set k (⟨(mkCase (KK) x.cases.length), (KK + 5 * (x.cases.length : Int))⟩ : Select)), ⟨by simp only []; omega, by simp only []; rw [map_set_same (f := Select.ln) hxk (by simp [Select.ln])]; exact hln⟩, by simp only []; omega, ?_⟩
    have hset : (SelectSo l').set k (Select.ow (⟨(mkCase (KK) x.cases.length), (KK + 5 * (x.cases.length : Int))⟩ : Select)) = SelectSo (l'.set k (⟨(mkCase (KK) x.cases.length), (KK + 5 * (x.cases.length : Int))⟩ : Select)) := by simp [SelectSo, List.map_set]
    simp only [Select.ow] at hset
    exact Wk.foldE (env' := [(5, .int .i64 (k + 1 : Nat)), (1, .int .i64 (s + ((((l.take (k + 1)).map Select.wt).sum : Nat) : Int))), (0, .sl 0 0 l.length)]) (h := [some ⟨2, (SelectSo l').set k [.sl 1 0 x.cases.length, .int .i64 (KK + 5 * (x.cases.length : Int))]⟩]) (p := 0) (i := k) (c := 0) (szB := 2) (sz := 5) (es := (SelectSo l').set k [.sl 1 0 x.cases.length, .int .i64 (KK + 5 * (x.cases.length : Int))]) (esj := CaseS (mkCase (KK) x.cases.length)) [.sl 1 0 x.cases.length, .int .i64 (KK + 5 * (x.cases.length : Int))] (by simp) (by simp) (by rw [List.getElem?_set_self (by simp; omega)]) (by simp) (by simp) (by simp) (by simp [subE, wrap1 k (by omega), hnx]) (by simp [lowE, lowN]) (by simp [List.set_set, ← hset]) (by simp [lowEs_set, lowEs_rep])
   intro hb1; have hk1 : k = l.length := by simp at hb1; omega
   refine SW.exit ?_; simp only [Ex.then, Ex.ib]; try simp only [if_true, if_false, reduceIte]
   refine hK1 _ ?_; refine SW.ra ?_; refine SW.ret ?_; simp [Ex.then, Ex.ib]; subst hk1; rw [List.take_length] at hKK; simp [hKK]; exact ⟨l', hln, rfl⟩
theorem mark_SelectS (l : List Select) (s : Int) (H : Heap) (id n : Nat) (hn : l.length = n) (hh : H[id]? = some (some ⟨2, SelectSo l⟩)) (hl : n ≤ 2 ^ 30) (hW : (l.map Select.wt).sum ≤ 2 ^ 30) (hs : 0 ≤ s) (hs2 : s ≤ 2 ^ 40) :
    CallS Tryz.prog 69 [.sl id 0 n, .int .i64 s] H (fun o h' => o = .int .i64 (s + (((l.map Select.wt).sum : Nat) : Int)) ∧ ∃ l', l'.map Select.ln = l.map Select.ln ∧ h' = H.set id (some ⟨2, SelectSo l'⟩)) := by
  subst hn; have hi : id < H.length := (List.getElem?_eq_some_iff.1 hh).1
  refine CallS.mono (CallS.frame [id] (mark_SelectS0 l s hl hW hs hs2) (by simp) (by simp) (by simp) (by simpa using hi) (by simp [renH, hh]) (by simp) (by simp) ?_) ?_
  · rintro o h' ⟨rfl, l', _, rfl⟩
    refine ⟨by simp, ?_, by simp, rfl⟩; intro x hx; simp only [List.mem_singleton] at hx; subst hx; exact SelectSo_nfz _ _
  · rintro o h' ⟨o0, h0, ⟨rfl, l', hln, rfl⟩, rfl, rfl⟩
    exact ⟨by simp, l', hln, by rw [frame1, SelectSo_renB]⟩
def Proc.wt (d : Proc) : Nat := 4 * d.code.length
def Proc.ln (d : Proc) : List Nat := [d.code.length]
theorem ProcSo_nfz (n : Nat) (l : List Proc) : nfzB n (some ⟨1, ProcSo l⟩) = true := by
  simp [nfzB, ProcSo, nfz_int, nfz_bool, nfz_own, -strN]
@[simp] theorem ProcSo_renB (ids : List Nat) (l : List Proc) : renB ids (some ⟨1, ProcSo l⟩) = some ⟨1, ProcSo l⟩ := by
  simp [renB]
theorem mark_ProcS0 (l : List Proc) (s : Int) (hl : l.length ≤ 2 ^ 30) (hW : (l.map Proc.wt).sum ≤ 2 ^ 30) (hs : 0 ≤ s) (hs2 : s ≤ 2 ^ 40) : CallS Tryz.prog 70 [.sl 0 0 l.length, .int .i64 s] ([some ⟨1, ProcSo l⟩]) (fun o h' => o = .int .i64 (s + (((l.map Proc.wt).sum : Nat) : Int)) ∧ ∃ l', l'.map Proc.ln = l.map Proc.ln ∧ h' = [some ⟨1, ProcSo l'⟩]) := by
  refine CallS.intro Tryz.func70 (by decide) rfl (rs := [.tmp 4]) rfl Tryz.ntmps70 (by simp) ?_; refine SW.ra ?_; refine SW.seqK fun K1 hK1 => ?_; refine SW.ra ?_; refine SW.block ?_
  refine SW.loop (α := Nat × List Proc) (fun x => ⟨[(5, .int .i64 (x.1 : Nat)), (1, .int .i64 (s + ((((l.take x.1).map Proc.wt).sum : Nat) : Int))), (0, .sl 0 0 l.length)], [some ⟨1, ProcSo x.2⟩]⟩) (fun x => x.1 ≤ l.length ∧ x.2.map Proc.ln = l.map Proc.ln) (fun x => l.length - x.1) ((0, l)) ?_ ?_ (fun x hx => ?_)
  case' refine_1 =>
   simp
  case' refine_2 =>
   refine Wk.softH (by simp [softE, softV]) (by simp)
  case' refine_3 =>
   obtain ⟨k, l'⟩ := x; simp only [] at hx; obtain ⟨hk, hln⟩ := hx; simp only []; have hll : l'.length = l.length := by have h9 := congrArg List.length hln; simpa using h9
   have hst := sum_take Proc.wt l k
   obtain ⟨KK, hKK⟩ : ∃ KK : Int, KK = s + ((((l.take k).map Proc.wt).sum : Nat) : Int) := ⟨_, rfl⟩
   rw [← hKK]; refine SW.seqK fun K2 hK2 => ?_; refine SW.ra ?_; refine SW.cond _ rfl (by simp) ?_ ?_
   case' refine_1 =>
    intro hb1; have hlt : k < l.length := by simp at hb1; omega
    obtain ⟨x, hxk⟩ : ∃ x, l'[k]? = some x := ⟨_, List.getElem?_eq_getElem (by omega)⟩
    obtain ⟨x0, hx0⟩ : ∃ x, l[k]? = some x := ⟨_, List.getElem?_eq_getElem hlt⟩
    have hlx : x.ln = x0.ln := by have h9 := congrArg (·[k]?) hln; simpa [hxk, hx0] using h9
    have hxl := hlx
    simp only [Proc.ln, List.cons.injEq, and_true] at hlx; have hst1 := szL_take (f := Proc.wt) hx0
    have htot := sum_take Proc.wt l (k + 1)
    simp only [Proc.wt] at hst1; have hss : ∀ v, ((ProcSo l').set k v)[k]? = some v := fun v => by rw [List.getElem?_set_self (by simp; omega)]
    have hnx : s + ((((l.take (k + 1)).map Proc.wt).sum : Nat) : Int) = KK + 4 * (x.code.length : Int) := by omega
    rw [List.map_take] at hnx
    refine SW.wk (Wk.unfoldE (env' := [(5, .int .i64 (k : Nat)), (1, .int .i64 KK), (0, .sl 0 0 l.length)]) (h' := [some ⟨1, (ProcSo l').set k [.sl 1 0 x.code.length]⟩, some ⟨4, InstrS x.code⟩]) (p := 0) (i := k) (c := 0) (szB := 1) (sz := 4) (es := (ProcSo l')) (esj := InstrS x.code) [.own 4 (InstrS x.code)] (by simp) (by simp [hxk, hss]) (by simp) (by simp [subE]) (by simp [List.set_set])) ?_
    refine SW.skip ?_; refine hK2 _ ?_; refine SW.seqK fun K3 hK3 => ?_; refine SW.block ?_; refine SW.regionE fun K hK => ?_; simp -implicitDefEqProofs [hss, hlt, hll]; iterate 2 (try refine ⟨by omega, ?_⟩)
    refine CallS.mono (mark_InstrS x.code (KK) _ 1 _ rfl (by simp) (by omega) (by omega) (by omega)) ?_
    rintro o h' ⟨rfl, rfl⟩
    simp -implicitDefEqProofs [hss, hlt, hll]; repeat refine ⟨by omega, ?_⟩
    refine hK _ ?_; clear hK K; refine hK3 _ ?_; refine SW.ea ?_
    refine ⟨(k + 1, l'.set k (⟨(mkInstr (KK) x.code.length)⟩ : Proc)), ⟨by simp only []; omega, by simp only []; rw [map_set_same (f := Proc.ln) hxk (by simp [Proc.ln])]; exact hln⟩, by simp only []; omega, ?_⟩
    have hset : (ProcSo l').set k (Proc.ow (⟨(mkInstr (KK) x.code.length)⟩ : Proc)) = ProcSo (l'.set k (⟨(mkInstr (KK) x.code.length)⟩ : Proc)) := by simp [ProcSo, List.map_set]
    simp only [Proc.ow] at hset
    exact Wk.foldE (env' := [(5, .int .i64 (k + 1 : Nat)), (1, .int .i64 (s + ((((l.take (k + 1)).map Proc.wt).sum : Nat) : Int))), (0, .sl 0 0 l.length)]) (h := [some ⟨1, (ProcSo l').set k [.sl 1 0 x.code.length]⟩]) (p := 0) (i := k) (c := 0) (szB := 1) (sz := 4) (es := (ProcSo l').set k [.sl 1 0 x.code.length]) (esj := InstrS (mkInstr (KK) x.code.length)) [.sl 1 0 x.code.length] (by simp) (by simp) (by rw [List.getElem?_set_self (by simp; omega)]) (by simp) (by simp) (by simp) (by simp [subE, wrap1 k (by omega), hnx]) (by simp [lowE, lowN]) (by simp [List.set_set, ← hset]) (by simp [lowEs_set, lowEs_rep])
   intro hb1; have hk1 : k = l.length := by simp at hb1; omega
   refine SW.exit ?_; simp only [Ex.then, Ex.ib]; try simp only [if_true, if_false, reduceIte]
   refine hK1 _ ?_; refine SW.ra ?_; refine SW.ret ?_; simp [Ex.then, Ex.ib]; subst hk1; rw [List.take_length] at hKK; simp [hKK]; exact ⟨l', hln, rfl⟩
theorem mark_ProcS (l : List Proc) (s : Int) (H : Heap) (id n : Nat) (hn : l.length = n) (hh : H[id]? = some (some ⟨1, ProcSo l⟩)) (hl : n ≤ 2 ^ 30) (hW : (l.map Proc.wt).sum ≤ 2 ^ 30) (hs : 0 ≤ s) (hs2 : s ≤ 2 ^ 40) :
    CallS Tryz.prog 70 [.sl id 0 n, .int .i64 s] H (fun o h' => o = .int .i64 (s + (((l.map Proc.wt).sum : Nat) : Int)) ∧ ∃ l', l'.map Proc.ln = l.map Proc.ln ∧ h' = H.set id (some ⟨1, ProcSo l'⟩)) := by
  subst hn; have hi : id < H.length := (List.getElem?_eq_some_iff.1 hh).1
  refine CallS.mono (CallS.frame [id] (mark_ProcS0 l s hl hW hs hs2) (by simp) (by simp) (by simp) (by simpa using hi) (by simp [renH, hh]) (by simp) (by simp) ?_) ?_
  · rintro o h' ⟨rfl, l', _, rfl⟩
    refine ⟨by simp, ?_, by simp, rfl⟩; intro x hx; simp only [List.mem_singleton] at hx; subst hx; exact ProcSo_nfz _ _
  · rintro o h' ⟨o0, h0, ⟨rfl, l', hln, rfl⟩, rfl, rfl⟩
    exact ⟨by simp, l', hln, by rw [frame1, ProcSo_renB]⟩
end HT
namespace HT
open Go Go.Proofs HK
structure Place where
  mutex : Bool
  obj : Int
  send : Bool
  g : Int
  cas : Int
  v : Int
deriving DecidableEq
@[simp] def Place.cl (d : Place) : List AV := [.bool d.mutex, .int .i64 d.obj, .bool d.send, .int .i64 d.g, .int .i64 d.cas, .int .i64 d.v]
def PlaceS (l : List Place) : List (List AV) := l.map Place.cl
@[simp] theorem PlaceS_length (l : List Place) : (PlaceS l).length = l.length := by simp [PlaceS]
@[simp] theorem PlaceS_get (l : List Place) (k : Nat) : (PlaceS l)[k]? = (l[k]?).map Place.cl := by simp [PlaceS]
@[simp] theorem PlaceS_getE (l : List Place) (k : Nat) (h : k < (PlaceS l).length) : (PlaceS l)[k] = Place.cl (l[k]'(by simpa using h)) := by simp [PlaceS]
@[simp] theorem PlaceS_take (l : List Place) : List.take l.length (PlaceS l) = PlaceS l := by
  have := List.take_length (l := PlaceS l)
  rwa [PlaceS_length] at this
@[simp] theorem PlaceS_nil : PlaceS [] = [] := rfl
theorem PlaceS_app (a b : List Place) : PlaceS (a ++ b) = PlaceS a ++ PlaceS b := by simp [PlaceS]
theorem PlaceS_len {l : List Place} {e : List AV} (h : e ∈ PlaceS l) : e.length = 6 := by
  obtain ⟨d, _, rfl⟩ := List.mem_map.1 h; rfl
@[simp] theorem PlaceS_ren (l : List Place) (ids : List Nat) (d : Nat) : (PlaceS l).map (List.map (renN ids (d + 1))) = PlaceS l := by
  simp [PlaceS, Function.comp_def]
@[simp] theorem PlaceS_low (n : Nat) (l : List Place) : lowEs n (PlaceS l) = true := by
  simp [lowEs, PlaceS]
@[simp] theorem PlaceS_lowT (n : Nat) (l : List Place) (k : Nat) : lowEs n ((PlaceS l).take k) = true := lowEs_take (PlaceS_low n l) k
@[simp] theorem PlaceS_str (d : Nat) (l : List Place) : ((PlaceS l).all fun e => e.all (strN (d + 1))) = true := by
  simp [PlaceS, -strN, strS_int, strS_bool]
theorem PlaceS_okI (l : List Place) : okI (.own 6 (PlaceS l)) = true := by
  simp [okI]
@[simp] theorem PlaceS_view (l : List Place) (h : Heap) (d : Nat) : (PlaceS l).map (List.map (viewN h (d + 1))) = PlaceS l := by
  simp [PlaceS, PlaceS, Function.comp_def]
def mkPlace1 (s : Int) : Place := ⟨(s).tmod 3 == 0, s + 1, (s + 1 + 1).tmod 3 == 0, s + 1 + 1 + 1, s + 1 + 1 + 1 + 1, s + 1 + 1 + 1 + 1 + 1⟩
abbrev mkPlace (s : Int) (k : Nat) : List Place := mkL mkPlace1 6 s k
@[simp] theorem PlaceS_renB (ids : List Nat) (l : List Place) : renB ids (some ⟨6, PlaceS l⟩) = some ⟨6, PlaceS l⟩ := by
  simp [renB]
@[simp] theorem mkPlace_take (s : Int) (k : Nat) : List.take k (PlaceS (mkPlace s k)) = PlaceS (mkPlace s k) := List.take_of_length_le (by simp)
theorem wt_le {α : Type} {f g : α → Nat} (h : ∀ x, f x ≤ 8 + 8 * g x) : ∀ (l : List α), (l.map f).sum ≤ 8 * szL g l
  | [] => by simp
  | x :: l => by
    have h1 := wt_le h l
    have h2 := h x
    simp only [List.map_cons, List.sum_cons, szL, List.length_cons] at *; omega
def Prog.tw (d : Prog) : Nat := d.caps.length + (d.sels.map Select.wt).sum + (d.procs.map Proc.wt).sum
theorem mark_Prog0 (d : Prog) (s : Int) (hW : d.tw ≤ 2 ^ 30) (l0 : d.caps.length ≤ 2 ^ 30) (l1 : d.sels.length ≤ 2 ^ 30) (l2 : d.procs.length ≤ 2 ^ 30) (hs : 0 ≤ s) (hs2 : s ≤ 2 ^ 30) : CallS Tryz.prog 17 [.agg [.sl 0 0 d.caps.length, .int .i64 d.mus, .sl 1 0 d.sels.length, .sl 2 0 d.procs.length], .int .i64 s] ([some ⟨1, IntS d.caps⟩, some ⟨2, SelectSo d.sels⟩, some ⟨1, ProcSo d.procs⟩]) (fun o h' => o = .int .i64 (s + (d.tw : Int)) ∧ ∃ (m1 : List Select) (m2 : List Proc), h' = [some ⟨1, IntS (mkInt (s) d.caps.length)⟩, some ⟨2, SelectSo m1⟩, some ⟨1, ProcSo m2⟩]) := by
  refine CallS.intro Tryz.func17 (by decide) rfl (rs := [.tmp 4]) rfl Tryz.ntmps17 (by simp) ?_
  have hT : (d.tw : Int) = (d.caps.length : Int) + (((d.sels.map Select.wt).sum : Nat) : Int) + (((d.procs.map Proc.wt).sum : Nat) : Int) := by unfold Prog.tw; omega
  unfold Prog.tw at hW; refine SW.ra ?_; refine SW.rg fun K hK => ?_; simp -implicitDefEqProofs; iterate 2 (try refine ⟨by omega, ?_⟩)
  refine CallS.mono (mark_IntS d.caps (s) _ 0 _ rfl (by simp) (by omega) (by omega) (by omega)) ?_
  rintro o h' ⟨rfl, rfl⟩
  simp -implicitDefEqProofs; repeat refine ⟨by omega, ?_⟩
  refine hK _ ?_; clear hK K; refine SW.rg fun K hK => ?_; simp -implicitDefEqProofs; iterate 2 (try refine ⟨by omega, ?_⟩)
  refine CallS.mono (mark_SelectS d.sels (s + (d.caps.length : Int)) _ 1 _ rfl (by simp) (by omega) (by omega) (by omega) (by omega)) ?_
  rintro o h' ⟨rfl, m1, hm1, rfl⟩
  simp -implicitDefEqProofs; repeat refine ⟨by omega, ?_⟩
  refine hK _ ?_; clear hK K; refine SW.rg fun K hK => ?_; simp -implicitDefEqProofs; iterate 2 (try refine ⟨by omega, ?_⟩)
  refine CallS.mono (mark_ProcS d.procs (s + (d.caps.length : Int) + (((d.sels.map Select.wt).sum : Nat) : Int)) _ 2 _ rfl (by simp) (by omega) (by omega) (by omega) (by omega)) ?_
  rintro o h' ⟨rfl, m2, hm2, rfl⟩
  simp -implicitDefEqProofs; repeat refine ⟨by omega, ?_⟩
  refine hK _ ?_; clear hK K; refine SW.ra ?_
  refine SW.wk (Wk.cut (env' := [(4, .int .i64 (s + (d.caps.length : Int) + (((d.sels.map Select.wt).sum : Nat) : Int) + (((d.procs.map Proc.wt).sum : Nat) : Int)))]) (h' := [some ⟨1, IntS (mkInt (s) d.caps.length)⟩, some ⟨2, SelectSo m1⟩, some ⟨1, ProcSo m2⟩]) (by simp) (by simp [subE]) (by simp [cutH]) (by simp [lowE, lowN]) (by simp)) ?_
  refine SW.ret ?_; simp [Ex.then, Ex.ib]; try simp
  exact ⟨by omega, ⟨_, rfl⟩, ⟨_, rfl⟩⟩
theorem mark_Prog (d : Prog) (s : Int) (H : Heap) (i0 i1 i2 : Nat) (n0 : Nat) (e0 : d.caps.length = n0) (h0 : H[i0]? = some (some ⟨1, IntS d.caps⟩)) (n1 : Nat) (e1 : d.sels.length = n1) (h1 : H[i1]? = some (some ⟨2, SelectSo d.sels⟩)) (n2 : Nat) (e2 : d.procs.length = n2) (h2 : H[i2]? = some (some ⟨1, ProcSo d.procs⟩)) (hnd : [i0, i1, i2].Nodup) (hW : d.tw ≤ 2 ^ 30) (l0 : d.caps.length ≤ 2 ^ 30) (l1 : d.sels.length ≤ 2 ^ 30) (l2 : d.procs.length ≤ 2 ^ 30) (hs : 0 ≤ s) (hs2 : s ≤ 2 ^ 30) :
    CallS Tryz.prog 17 [.agg [.sl i0 0 n0, .int .i64 d.mus, .sl i1 0 n1, .sl i2 0 n2], .int .i64 s] H (fun o h' => o = .int .i64 (s + (d.tw : Int)) ∧ ∃ (m1 : List Select) (m2 : List Proc), h' = (((H.set i0 (some ⟨1, IntS (mkInt (s) d.caps.length)⟩)).set i1 (some ⟨2, SelectSo m1⟩)).set i2 (some ⟨1, ProcSo m2⟩))) := by
  subst e0; subst e1; subst e2
  refine CallS.mono (CallS.frame [i0, i1, i2] (mark_Prog0 d s hW l0 l1 l2 hs hs2) (by simp) (by simp [lowN]) hnd (by simp; exact ⟨(List.getElem?_eq_some_iff.1 h0).1, (List.getElem?_eq_some_iff.1 h1).1, (List.getElem?_eq_some_iff.1 h2).1⟩) (by simp [renH, h0, h1, h2]) (by simp) (by simp) ?_) ?_
  · rintro o h' ⟨rfl, m1, m2, rfl⟩
    refine ⟨by simp, ?_, by simp, rfl⟩; intro x hx; simp only [List.mem_cons, List.not_mem_nil, or_false] at hx; rcases hx with rfl | rfl | rfl
    all_goals first | exact IntS_nfz _ _ | exact ItemS_nfz _ _ | exact SelectSo_nfz _ _ | exact ProcSo_nfz _ _ 
  · rintro o h' ⟨o0, h0, ⟨rfl, m1, m2, rfl⟩, rfl, rfl⟩
    exact ⟨by simp, m1, m2, by simp [frameH, merge]⟩
def Gor.tw (d : Gor) : Nat := d.regs.length + 4 * d.trace.length
theorem Prog.tw_le (d : Prog) : d.tw ≤ 8 * d.sz := by
  have h1 := wt_le (f := Select.wt) (g := Select.sz) (fun x => by simp only [Select.wt, Select.sz]; omega) d.sels
  have h2 := wt_le (f := Proc.wt) (g := Proc.sz) (fun x => by simp only [Proc.wt, Proc.sz]; omega) d.procs
  simp only [Prog.tw, Prog.sz]; omega
theorem Gor.tw_le (d : Gor) : d.tw ≤ 8 * d.sz := by
  simp only [Gor.tw, Gor.sz]; omega
end HT
