import Derived.Test.YteeefpifkepbpaaHS2
/-
  My own texts (road H): HS3.
-/
set_option linter.unusedSimpArgs false
namespace HS
open Go Go.Proofs HK
def mkY (s : Int) (k : Nat) : List Int := (List.range k).map fun i : Nat => IntKind.u8.wrap (s + (i : Int))
@[simp] theorem mkY_length (s : Int) (k : Nat) : (mkY s k).length = k := by simp [mkY]
theorem mkY_get {s : Int} {n k : Nat} (h : k < n) : (mkY s n)[k]? = some (IntKind.u8.wrap (s + (k : Int))) := by simp [mkY, h]
@[simp] theorem mkY_zero (s : Int) : mkY s 0 = [] := rfl
@[simp] theorem mkY_take (s : Int) (k : Nat) : List.take k (YS (mkY s k)) = YS (mkY s k) := by
  have := List.take_length (l := YS (mkY s k))
  rwa [YS_length, mkY_length] at this
theorem mkY_mid {s : Int} {l : List Int} {k : Nat} {x : Int} (h : l[k]? = some x) : (YS (mkY s k ++ l.drop k))[k]? = some [.int .u8 x] := by
  rw [YS_get, List.getElem?_append_right (by simp)]; simp [h]
theorem mkY_set {s : Int} {l : List Int} {k : Nat} (h : k < l.length) : (YS (mkY s k ++ l.drop k)).set k [.int .u8 (IntKind.u8.wrap (s + (k : Int)))] = YS (mkY s (k + 1) ++ l.drop (k + 1)) := by
  rw [YS_app, YS_app, List.set_append_right _ _ (by simp)]; have e : YS (mkY s (k + 1)) = YS (mkY s k) ++ [[.int .u8 (IntKind.u8.wrap (s + (k : Int)))]] := by simp [mkY, YS, List.range_succ]
  have e3 : YS (l[k] :: l.drop (k + 1)) = [.int .u8 l[k]] :: YS (l.drop (k + 1)) := rfl
  have e4 : k - (YS (mkY s k)).length = 0 := by simp
  rw [e, List.drop_eq_getElem_cons h, e3, e4, List.set_cons_zero]; simp
set_option maxHeartbeats 1000000 in
theorem mark_byteS (l : List Int) (s : Int) (h : Heap) (id : Nat) (hid : id < h.length) (hh : hb h id = some ⟨1, YS l⟩) (hl : l.length ≤ 2 ^ 40) (hs : 0 ≤ s) (hs2 : s ≤ 2 ^ 50) : CallS Try.prog 19 [.sl id 0 l.length, .int .i64 s] (h) (fun o h' => o = .int .i64 (s + (l.length : Int)) ∧ h' = h.set id (some ⟨1, YS (mkY s l.length)⟩)) := by
  refine CallS.intro Try.func19 (by decide) rfl (rs := [.tmp 4]) rfl Try.ntmps19 (by simp) ?_; refine SW.rg fun K hK => ?_; simp -implicitDefEqProofs; repeat refine ⟨by omega, ?_⟩
  refine hK _ ?_; clear hK K; refine SW.seqK fun K1 hK1 => ?_; refine SW.rg fun K hK => ?_; simp -implicitDefEqProofs; repeat refine ⟨by omega, ?_⟩
  refine hK _ ?_; clear hK K; refine SW.block ?_
  refine SW.loop (α := Nat) (fun k => ⟨[(5, .int .i64 k), (1, .int .i64 (s + (k : Int))), (0, .sl id 0 l.length)], h.set id (some ⟨1, YS (mkY s k ++ l.drop k)⟩)⟩) (fun k => k ≤ l.length) (fun k => l.length - k) (0) ?_ ?_ (fun k hx => ?_)
  case' refine_1 =>
   simp
  case' refine_2 =>
   refine Wk.softH (by simp [softE, softV]) ?_; simp; exact set_hb hh
  case' refine_3 =>
   skip
   refine SW.seqK fun K2 hK2 => ?_; refine SW.rg fun K hK => ?_; simp -implicitDefEqProofs; repeat refine ⟨by omega, ?_⟩
   refine hK _ ?_; clear hK K; refine SW.cond _ rfl (by simp) ?_ ?_
   case' refine_2 =>
    intro hb1; have hk : k = l.length := by simp at hb1; omega
    refine SW.exit ?_; simp only [Ex.then, Ex.ib]; try simp only [if_true, if_false, reduceIte]
    refine hK1 _ ?_; refine SW.rg fun K hK => ?_; simp -implicitDefEqProofs; repeat refine ⟨by omega, ?_⟩
    refine hK _ ?_; clear hK K; refine SW.ret ?_; simp [Ex.then, Ex.ib]; subst hk; simp
   rotate_right
   case' _ =>
    intro hb1; have hlt : k < l.length := by simpa using hb1
    obtain ⟨x, hxk⟩ : ∃ x, l[k]? = some x := ⟨_, List.getElem?_eq_getElem hlt⟩
    have hmid := mkY_mid (s := s) hxk
    have hset := mkY_set (s := s) hlt
    have hw1 := wrapI (s + (k : Int) + 1) (by omega) (by omega)
    refine SW.skip ?_; refine hK2 _ ?_; refine SW.seqK fun K3 hK3 => ?_; refine SW.block ?_; refine SW.rg fun K hK => ?_; simp -implicitDefEqProofs [hmid, hlt, hid]; repeat refine ⟨by omega, ?_⟩
    refine hK _ ?_; clear hK K; refine SW.regionE fun K hK => ?_; simp -implicitDefEqProofs [hw1]; repeat refine ⟨by omega, ?_⟩
    refine hK _ ?_; clear hK K; refine hK3 _ ?_; refine SW.regionE fun K hK => ?_; simp -implicitDefEqProofs; repeat refine ⟨by omega, ?_⟩
    refine hK _ ?_; clear hK K; refine ⟨k + 1, by omega, by omega, ?_⟩; refine Wk.softH (by simp [softE, softV, wrap1 k (by omega), hw1]; try omega) (by simp [hset])
set_option maxHeartbeats 1000000 in
theorem held_byteS (n : Nat) (s : Int) (hn : n ≤ 2 ^ 40) (hs : 0 ≤ s) (hs2 : s ≤ 2 ^ 50) : Fn Try.prog 20 [.fz (YS (mkY s n)), .int .i64 s] (.int .i64 (s + (n : Int))) := by
  refine Fn.intro Try.func20 (by decide) rfl (rs := [.tmp 4]) rfl Try.ntmps20 (by simp) ?_; refine SW.rg fun K hK => ?_; simp -implicitDefEqProofs; repeat refine ⟨by omega, ?_⟩
  refine hK _ ?_; clear hK K; refine SW.seqK fun K1 hK1 => ?_; refine SW.rg fun K hK => ?_; simp -implicitDefEqProofs; repeat refine ⟨by omega, ?_⟩
  refine hK _ ?_; clear hK K; refine SW.block ?_; refine SW.loop (α := Nat) (fun k => ⟨[(5, .int .i64 k), (1, .int .i64 (s + (k : Int))), (0, .fz (YS (mkY s n)))], []⟩) (fun k => k ≤ n) (fun k => n - k) (0) ?_ ?_ (fun k hx => ?_)
  case' refine_1 =>
   simp
  case' refine_2 =>
   exact Wk.cut (by simp) (by simp [subE]) (by simp [cutH]) (by simp [lowE, lowN]) (by simp)
  case' refine_3 =>
   skip
   refine SW.seqK fun K2 hK2 => ?_; refine SW.rg fun K hK => ?_; simp -implicitDefEqProofs; repeat refine ⟨by omega, ?_⟩
   refine hK _ ?_; clear hK K; refine SW.cond _ rfl (by simp) ?_ ?_
   case' refine_2 =>
    intro hb1; have hk : k = n := by simp at hb1; omega
    first
    | (exfalso; simp at hb1; done)
    | (exfalso; simp at hb1; omega)
    | (
     refine SW.exit ?_; simp only [Ex.then, Ex.ib]; try simp only [if_true, if_false, reduceIte]
     refine hK1 _ ?_; refine SW.rg fun K hK => ?_; simp -implicitDefEqProofs; repeat refine ⟨by omega, ?_⟩
     refine hK _ ?_; clear hK K; refine SW.ret ?_; simp [Ex.then, Ex.ib]
     all_goals (try (subst hk; simp)))
   rotate_right
   case' _ =>
    intro hb1; have hlt : k < n := by simpa using hb1
    have hxk := mkY_get (s := s) hlt
    have hw1 := wrapI (s + (k : Int) + 1) (by omega) (by omega)
    first
    | (exfalso; simp at hb1; done)
    | (exfalso; simp at hb1; omega)
    | (
     refine SW.skip ?_; refine hK2 _ ?_; refine SW.seqK fun K3 hK3 => ?_; refine SW.block ?_; refine SW.seqK fun K4 hK4 => ?_; refine SW.rg fun K hK => ?_; simp -implicitDefEqProofs [hxk]; repeat refine ⟨by omega, ?_⟩
     refine hK _ ?_; clear hK K; refine SW.cond _ rfl (by simp) ?_ ?_
     case' refine_2 =>
      intro hb2
      first
      | (exfalso; simp at hb2; done)
      | (exfalso; simp at hb2; omega)
      | (
       refine SW.skip ?_; refine hK4 _ ?_; refine SW.regionE fun K hK => ?_; simp -implicitDefEqProofs [hw1]; repeat refine ⟨by omega, ?_⟩
       refine hK _ ?_; clear hK K; refine hK3 _ ?_; refine SW.regionE fun K hK => ?_; simp -implicitDefEqProofs; repeat refine ⟨by omega, ?_⟩
       refine hK _ ?_; clear hK K; refine ⟨k + 1, by omega, by omega, ?_⟩
       exact Wk.cut (by simp) (by simp [subE, wrap1 k (by omega)]; try omega) (by simp [cutH]) (by simp [lowE, lowN]) (by simp))
     rotate_right
     case' _ =>
      intro hb2
      first
      | (exfalso; simp at hb2; done)
      | (exfalso; simp at hb2; omega)
      | (
       refine SW.rg fun K hK => ?_; simp -implicitDefEqProofs; repeat refine ⟨by omega, ?_⟩
       refine hK _ ?_; clear hK K; refine SW.ret ?_; simp [Ex.then, Ex.ib]
       all_goals (try (subst hk; simp))))
theorem held_byteS_nil : Fn Try.prog 20 [.nil, .int .i64 1] (.int .i64 1) := by
  have h5 := held_byteS 0 1 (by omega) (by omega) (by omega)
  exact Fn.nil1 h5
set_option maxHeartbeats 1000000 in
theorem mark_byteS_nil (h : Heap) (s : Int) : CallS Try.prog 19 [.nil, .int .i64 s] (h) (fun o h' => o = .int .i64 s ∧ h' = h) := by
  refine CallS.intro Try.func19 (by decide) rfl (rs := [.tmp 4]) rfl Try.ntmps19 (by simp) ?_; refine SW.rg fun K hK => ?_; simp -implicitDefEqProofs; repeat refine ⟨by omega, ?_⟩
  refine hK _ ?_; clear hK K; refine SW.seqK fun K1 hK1 => ?_; refine SW.rg fun K hK => ?_; simp -implicitDefEqProofs; repeat refine ⟨by omega, ?_⟩
  refine hK _ ?_; clear hK K; refine SW.block ?_; refine SW.loop (α := Unit) (fun x => ⟨[(5, .int .i64 0), (1, .int .i64 s), (0, .nil)], h⟩) (fun x => True) (fun x => 0) (()) ?_ ?_ (fun x hx => ?_)
  case' refine_1 =>
   simp
  case' refine_2 =>
   refine Wk.softH (by simp [softE, softV]) rfl
  case' refine_3 =>
   skip
   refine SW.seqK fun K2 hK2 => ?_; refine SW.rg fun K hK => ?_; simp -implicitDefEqProofs; repeat refine ⟨by omega, ?_⟩
   refine hK _ ?_; clear hK K; refine SW.cond _ rfl (by simp) ?_ ?_
   case' refine_2 =>
    intro hb1
    first
    | (exfalso; simp at hb1; done)
    | (exfalso; simp at hb1; omega)
    | (
     refine SW.exit ?_; simp only [Ex.then, Ex.ib]; try simp only [if_true, if_false, reduceIte]
     refine hK1 _ ?_; refine SW.rg fun K hK => ?_; simp -implicitDefEqProofs; repeat refine ⟨by omega, ?_⟩
     refine hK _ ?_; clear hK K; refine SW.ret ?_; simp [Ex.then, Ex.ib]
     all_goals simp)
   rotate_right
   case' _ =>
    intro hb1
    first
    | (exfalso; simp at hb1; done)
    | (exfalso; simp at hb1; omega)
    | (
     refine SW.skip ?_; refine hK2 _ ?_; refine SW.seqK fun K3 hK3 => ?_; refine SW.block ?_; refine SW.rg fun K hK => ?_; simp -implicitDefEqProofs; repeat refine ⟨by omega, ?_⟩
     refine hK _ ?_; clear hK K; refine SW.regionE fun K hK => ?_; simp -implicitDefEqProofs; repeat refine ⟨by omega, ?_⟩
     refine hK _ ?_; clear hK K; refine hK3 _ ?_; refine SW.regionE fun K hK => ?_; simp -implicitDefEqProofs; repeat refine ⟨by omega, ?_⟩
     refine hK _ ?_; clear hK K
     trivial)
end HS
