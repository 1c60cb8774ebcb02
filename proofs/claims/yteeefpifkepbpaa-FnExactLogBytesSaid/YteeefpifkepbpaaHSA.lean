import Derived.Test.YteeefpifkepbpaaHS3
/-
  My own texts (road H): HSA.
-/
set_option linter.unusedSimpArgs false
namespace HS
open Go Go.Proofs HK
def mkDd (s : Int) (i : Nat) : Deed := ⟨s + 4 * (i : Int), s + 4 * (i : Int) + 1, s + 4 * (i : Int) + 1 + 1, s + 4 * (i : Int) + 1 + 1 + 1⟩
def mkD (s : Int) (k : Nat) : List Deed := (List.range k).map (mkDd s)
@[simp] theorem mkD_length (s : Int) (k : Nat) : (mkD s k).length = k := by simp [mkD]
@[simp] theorem mkD_zero (s : Int) : mkD s 0 = [] := rfl
@[simp] theorem mkD_take (s : Int) (k : Nat) : List.take k (DS (mkD s k)) = DS (mkD s k) := by
  have := List.take_length (l := DS (mkD s k))
  rwa [DS_length, mkD_length] at this
theorem mkD_mid {s : Int} {l : List Deed} {k : Nat} {x : Deed} (h : l[k]? = some x) : (DS (mkD s k ++ l.drop k))[k]? = some [.int .i64 x.g, .int .i64 x.op, .int .i64 x.obj, .int .i64 x.cas] := by
  rw [DS_get, List.getElem?_append_right (by simp)]; simp [h]
theorem mkD_set {s : Int} {l : List Deed} {k : Nat} (h : k < l.length) : (DS (mkD s k ++ l.drop k)).set k [.int .i64 (s + 4 * (k : Int)), .int .i64 (s + 4 * (k : Int) + 1), .int .i64 (s + 4 * (k : Int) + 1 + 1), .int .i64 (s + 4 * (k : Int) + 1 + 1 + 1)] = DS (mkD s (k + 1) ++ l.drop (k + 1)) := by
  rw [DS_app, DS_app, List.set_append_right _ _ (by simp)]; have e : DS (mkD s (k + 1)) = DS (mkD s k) ++ [(mkDd s k).c] := by simp [mkD, DS, List.range_succ]
  have e3 : DS (l[k] :: l.drop (k + 1)) = (l[k]).c :: DS (l.drop (k + 1)) := rfl
  have e4 : k - (DS (mkD s k)).length = 0 := by simp
  rw [e, List.drop_eq_getElem_cons h, e3, e4, List.set_cons_zero]; simp [mkDd]
set_option maxHeartbeats 1000000 in
theorem mark_deedS0 (l : List Deed) (s : Int) (h : Heap) (id : Nat) (hid : id < h.length) (hh : hb h id = some ⟨4, DS l⟩) (hl : l.length ≤ 2 ^ 40) (hs : 0 ≤ s) (hs2 : s ≤ 2 ^ 50) : CallS Try.prog 26 [.sl id 0 l.length, .int .i64 s] (h) (fun o h' => o = .int .i64 (s + 4 * (l.length : Int)) ∧ h' = h.set id (some ⟨4, DS (mkD s l.length)⟩)) := by
  refine CallS.intro Try.func26 (by decide) rfl (rs := [.tmp 4]) rfl Try.ntmps26 (by simp) ?_; refine SW.rg fun K hK => ?_; simp -implicitDefEqProofs; repeat refine ⟨by omega, ?_⟩
  refine hK _ ?_; clear hK K; refine SW.seqK fun K1 hK1 => ?_; refine SW.rg fun K hK => ?_; simp -implicitDefEqProofs; repeat refine ⟨by omega, ?_⟩
  refine hK _ ?_; clear hK K; refine SW.block ?_
  refine SW.loop (α := Nat) (fun k => ⟨[(5, .int .i64 k), (1, .int .i64 (s + 4 * (k : Int))), (0, .sl id 0 l.length)], h.set id (some ⟨4, DS (mkD s k ++ l.drop k)⟩)⟩) (fun k => k ≤ l.length) (fun k => l.length - k) (0) ?_ ?_ (fun k hx => ?_)
  case' refine_1 =>
   simp
  case' refine_2 =>
   refine Wk.softH (by simp [softE, softV]) ?_; simp; exact set_hb hh
  case' refine_3 =>
   skip
   refine SW.seqK fun K2 hK2 => ?_; refine SW.rg fun K hK => ?_; simp -implicitDefEqProofs; repeat refine ⟨by omega, ?_⟩
   refine hK _ ?_; clear hK K; refine SW.cond _ rfl (by simp) ?_ ?_
   case' refine_2 =>
    intro hb1; have hk : k = l.length := by simp at hb1; omega
    refine SW.exit ?_; simp only [Ex.then, Ex.ib]; try simp only [if_true, if_false, reduceIte]
    refine hK1 _ ?_; refine SW.rg fun K hK => ?_; simp -implicitDefEqProofs; repeat refine ⟨by omega, ?_⟩
    refine hK _ ?_; clear hK K; refine SW.ret ?_; simp [Ex.then, Ex.ib]; subst hk; simp
   rotate_right
   case' _ =>
    intro hb1; have hlt : k < l.length := by simpa using hb1
    obtain ⟨x, hxk⟩ : ∃ x, l[k]? = some x := ⟨_, List.getElem?_eq_getElem hlt⟩
    have hmid := mkD_mid (s := s) hxk
    have hset := mkD_set (s := s) hlt
    have hss : ∀ v, ((DS (mkD s k ++ l.drop k)).set k v)[k]? = some v := fun v => by rw [List.getElem?_set_self (by simp; omega)]
    have hw1 := wrapI (s + 4 * (k : Int) + 1) (by omega) (by omega)
    have hw2 := wrapI (s + 4 * (k : Int) + 1 + 1) (by omega) (by omega)
    have hw3 := wrapI (s + 4 * (k : Int) + 1 + 1 + 1) (by omega) (by omega)
    have hw4 := wrapI (s + 4 * (k : Int) + 1 + 1 + 1 + 1) (by omega) (by omega)
    refine SW.skip ?_; refine hK2 _ ?_; refine SW.seqK fun K3 hK3 => ?_; refine SW.block ?_; refine SW.rg fun K hK => ?_; simp -implicitDefEqProofs [hmid, hlt, hid, hss, splice]; repeat refine ⟨by omega, ?_⟩
    refine hK _ ?_; clear hK K; refine SW.rg fun K hK => ?_; simp -implicitDefEqProofs [hw1]; repeat refine ⟨by omega, ?_⟩
    refine hK _ ?_; clear hK K; refine SW.rg fun K hK => ?_; simp -implicitDefEqProofs [hmid, hlt, hid, hss, splice]; repeat refine ⟨by omega, ?_⟩
    refine hK _ ?_; clear hK K; refine SW.rg fun K hK => ?_; simp -implicitDefEqProofs [hw2]; repeat refine ⟨by omega, ?_⟩
    refine hK _ ?_; clear hK K; refine SW.rg fun K hK => ?_; simp -implicitDefEqProofs [hmid, hlt, hid, hss, splice]; repeat refine ⟨by omega, ?_⟩
    refine hK _ ?_; clear hK K; refine SW.rg fun K hK => ?_; simp -implicitDefEqProofs [hw3]; repeat refine ⟨by omega, ?_⟩
    refine hK _ ?_; clear hK K; refine SW.rg fun K hK => ?_; simp -implicitDefEqProofs [hmid, hlt, hid, hss, splice]; repeat refine ⟨by omega, ?_⟩
    refine hK _ ?_; clear hK K; refine SW.regionE fun K hK => ?_; simp -implicitDefEqProofs [hw4]; repeat refine ⟨by omega, ?_⟩
    refine hK _ ?_; clear hK K; refine hK3 _ ?_; refine SW.regionE fun K hK => ?_; simp -implicitDefEqProofs; repeat refine ⟨by omega, ?_⟩
    refine hK _ ?_; clear hK K; refine ⟨k + 1, by omega, by omega, ?_⟩; refine Wk.softH (by simp [softE, softV, wrap1 k (by omega)]; try omega) (by simp [hset])
theorem mark_deedS (l : List Deed) (s : Int) (h : Heap) (id n : Nat) (hn : l.length = n) (hid : id < h.length) (hh : hb h id = some ⟨4, DS l⟩) (hl : n ≤ 2 ^ 40) (hs : 0 ≤ s) (hs2 : s ≤ 2 ^ 50) :
    CallS Try.prog 26 [.sl id 0 n, .int .i64 s] h (fun o h' => o = .int .i64 (s + 4 * (n : Int)) ∧ h' = h.set id (some ⟨4, DS (mkD s n)⟩)) := by
  subst hn; exact mark_deedS0 l s h id hid hh hl hs hs2
theorem hb_app {h h2 : Heap} {id : Nat} (hid : id < h.length) : hb (h ++ h2) id = hb h id := by
  unfold hb; rw [List.getElem?_append_left hid]
set_option maxHeartbeats 1000000 in
theorem mark_log (p : Int) (l : List Deed) (s : Int) (h : Heap) (id n : Nat) (hn : l.length = n) (hid : id < h.length) (hh : hb h id = some ⟨4, DS l⟩) (hl : n ≤ 2 ^ 40) (hs : 0 ≤ s) (hs2 : s ≤ 2 ^ 50) : CallS Try.prog 33 [.agg [.int .i64 p, .sl id 0 n], .int .i64 s] (h) (fun o h' => o = .int .i64 (s + 4 * (n : Int)) ∧ h' = h.set id (some ⟨4, DS (mkD s n)⟩) ++ [some ⟨2, [[.int .i64 p, .sl id 0 n]]⟩]) := by
  refine CallS.intro Try.func33 (by decide) rfl (rs := [.tmp 4]) rfl Try.ntmps33 (by simp) ?_; refine SW.rg fun K hK => ?_; simp -implicitDefEqProofs; repeat refine ⟨by omega, ?_⟩
  refine hK _ ?_; clear hK K; refine SW.rg fun K hK => ?_; simp -implicitDefEqProofs; iterate 2 (try refine ⟨by omega, ?_⟩)
  refine CallS.mono (mark_deedS l s _ id n hn (by simp; omega) (by rw [hb_app hid]; exact hh) hl hs hs2) ?_
  rintro o h' ⟨rfl, rfl⟩
  simp -implicitDefEqProofs; repeat refine ⟨by omega, ?_⟩
  refine hK _ ?_; clear hK K; refine SW.rg fun K hK => ?_; simp -implicitDefEqProofs; repeat refine ⟨by omega, ?_⟩
  refine hK _ ?_; clear hK K; refine SW.ret ?_; simp [Ex.then, Ex.ib]; simp [List.set_append_left _ _ hid]
end HS
