import Derived.Test.YteeefpifkepbpaaHS0
import Derived.Test.YteeefpifkepbpaaG2b
/-
  My own texts (road H): HS1.
-/
set_option linter.unusedSimpArgs false
namespace HS
open Go Go.Proofs HK
theorem mixed : Try.prog.follows .mixedOrders = true := by kernel_rfl
structure Deed where
  g : Int
  op : Int
  obj : Int
  cas : Int
@[simp] def Deed.c (d : Deed) : List AV := [.int .i64 d.g, .int .i64 d.op, .int .i64 d.obj, .int .i64 d.cas]
def DS (l : List Deed) : List (List AV) := l.map Deed.c
@[simp] theorem DS_length (l : List Deed) : (DS l).length = l.length := by simp [DS]
theorem DS_int {l : List Deed} {x : List AV} {y : AV} (hx : x ∈ DS l) (hy : y ∈ x) : ∃ n, y = .int .i64 n := by
  obtain ⟨d, _, rfl⟩ := List.mem_map.1 hx; simp at hy; rcases hy with rfl | rfl | rfl | rfl <;> exact ⟨_, rfl⟩
@[simp] theorem DS_get (l : List Deed) (k : Nat) : (DS l)[k]? = (l[k]?).map Deed.c := by simp [DS]
@[simp] theorem DS_take (l : List Deed) : (DS l).take l.length = DS l := by rw [← DS_length l, List.take_length]
@[simp] theorem DS_view (l : List Deed) (h : Heap) (d : Nat) : (DS l).map (List.map (viewN h (d + 1))) = DS l := by
  simp [DS, Function.comp_def]
@[simp] theorem DS_ren (l : List Deed) (ids : List Nat) (d : Nat) : (DS l).map (List.map (renN ids (d + 1))) = DS l := by
  simp [DS, Function.comp_def, renN]
@[simp] theorem DS_empty : DS [] = [] := rfl
theorem DS_app (a b : List Deed) : DS (a ++ b) = DS a ++ DS b := by simp [DS]
theorem DS_len {l : List Deed} {e : List AV} (h : e ∈ DS l) : e.length = 4 := by
  obtain ⟨d, _, rfl⟩ := List.mem_map.1 h; rfl
@[simp] theorem DS_low (n : Nat) (l : List Deed) : lowEs n (DS l) = true := lowEs_of fun x hx y hy => by obtain ⟨m, rfl⟩ := DS_int hx hy; rfl
@[simp] theorem DS_lowT (n : Nat) (l : List Deed) (k : Nat) : lowEs n ((DS l).take k) = true := lowEs_take (DS_low n l) k
theorem DS_okI (l : List Deed) : okI (.own 4 (DS l)) = true := by
  simp
theorem DS_takeN (l : List Deed) (k : Nat) : (DS l).take k = DS (l.take k) := by simp [DS, List.map_take]
theorem DS_dropN (l : List Deed) (k : Nat) : (DS l).drop k = DS (l.drop k) := by simp [DS, List.map_drop]
theorem getS {β : Type} (z : β) (l : List β) (k : Nat) (hk : k < l.length) : (l.take k ++ List.replicate (l.length - k) z)[k]? = some z := by
  rw [List.getElem?_append_right (by simp; omega), List.getElem?_replicate, if_pos (by simp; omega)]
theorem wrapI (n : Int) (h : -2 ^ 63 ≤ n) (h' : n < 2 ^ 63) : IntKind.i64.wrap n = n := by
  have e : IntKind.i64.wrap n = if n % 2 ^ 64 ≥ 2 ^ 63 then n % 2 ^ 64 - 2 ^ 64 else n % 2 ^ 64 := by
    simp [IntKind.wrap, IntKind.bits, IntKind.signed]
  rw [e]; split <;> omega
theorem wrap1 (k : Nat) (h : k + 1 < 2 ^ 63) : IntKind.i64.wrap ((k : Int) + 1) = (k : Int) + 1 := wrapI _ (by omega) (by omega)
abbrev zD : List AV := [.int .i64 0, .int .i64 0, .int .i64 0, .int .i64 0]
theorem fillS {β : Type} (z : β) (l : List β) (k : Nat) (x : β) (hk : l[k]? = some x) : (l.take k ++ List.replicate (l.length - k) z).set k x = l.take (k + 1) ++ List.replicate (l.length - (k + 1)) z := by
  have hlt := (List.getElem?_eq_some_iff.1 hk).1
  rw [List.set_append_right _ _ (by simp; omega)]; have e : l.length - k = (l.length - (k + 1)) + 1 := by omega
  rw [e, List.replicate_succ]; have e2 : k - (l.take k).length = 0 := by simp; omega
  rw [e2, List.set_cons_zero, List.take_add_one, hk]; simp
set_option maxHeartbeats 1000000 in
theorem sz_deedS (l : List Deed) (m : Int) : Fn Try.prog 21 [.fz (DS l), .int .i64 m] (.int .i64 (if IntKind.wrap .i64 (m - l.length) < 0 then -1 else IntKind.wrap .i64 (m - l.length))) := by
  refine Fn.intro Try.func21 (by decide) rfl (rs := [.tmp 4]) rfl Try.ntmps21 (by simp) ?_; refine SW.rg fun K hK => ?_; simp -implicitDefEqProofs; repeat refine ⟨by omega, ?_⟩
  refine hK _ ?_; clear hK K; refine SW.rg fun K hK => ?_; simp -implicitDefEqProofs; repeat refine ⟨by omega, ?_⟩
  refine hK _ ?_; clear hK K; refine SW.seqK fun K1 hK1 => ?_; refine SW.rg fun K hK => ?_; simp -implicitDefEqProofs; repeat refine ⟨by omega, ?_⟩
  refine hK _ ?_; clear hK K; refine SW.cond _ rfl (by simp) ?_ ?_
  case' refine_2 =>
   intro hb1; refine SW.skip ?_; refine hK1 _ ?_; refine SW.rg fun K hK => ?_; simp -implicitDefEqProofs; repeat refine ⟨by omega, ?_⟩
   refine hK _ ?_; clear hK K; refine SW.ret ?_; simp [Ex.then, Ex.ib]
   all_goals simp at *
   all_goals omega
  rotate_right
  case' _ =>
   intro hb1; refine SW.rg fun K hK => ?_; simp -implicitDefEqProofs; repeat refine ⟨by omega, ?_⟩
   refine hK _ ?_; clear hK K; refine SW.ret ?_; simp [Ex.then, Ex.ib]
   all_goals simp at *
   all_goals omega
set_option maxHeartbeats 1000000 in
theorem toDeed_ok (d : Deed) : Fn Try.prog 16 [.agg d.c] (.agg d.c) := by
  refine Fn.intro Try.func16 (by decide) rfl (rs := [.cell 2 28]) rfl Try.ntmps16 (by simp) ?_; refine SW.rg fun K hK => ?_; simp -implicitDefEqProofs; repeat refine ⟨by omega, ?_⟩
  refine hK _ ?_; clear hK K; refine SW.rg fun K hK => ?_; simp -implicitDefEqProofs; repeat refine ⟨by omega, ?_⟩
  refine hK _ ?_; clear hK K; refine SW.rg fun K hK => ?_; simp -implicitDefEqProofs; repeat refine ⟨by omega, ?_⟩
  refine hK _ ?_; clear hK K; refine SW.rg fun K hK => ?_; simp -implicitDefEqProofs; repeat refine ⟨by omega, ?_⟩
  refine hK _ ?_; clear hK K; refine SW.rg fun K hK => ?_; simp -implicitDefEqProofs; repeat refine ⟨by omega, ?_⟩
  refine hK _ ?_; clear hK K; refine SW.rg fun K hK => ?_; simp -implicitDefEqProofs; repeat refine ⟨by omega, ?_⟩
  refine hK _ ?_; clear hK K; refine SW.rg fun K hK => ?_; simp -implicitDefEqProofs; repeat refine ⟨by omega, ?_⟩
  refine hK _ ?_; clear hK K; refine SW.ret ?_; simp [Ex.then, Ex.ib]
set_option maxHeartbeats 1000000 in
theorem toDeedS_ok (l : List Deed) (hl : l.length ≤ 1048576) : Fn Try.prog 23 [.fz (DS l)] (.own 4 (DS l)) := by
  refine Fn.intro Try.func23 (by decide) rfl (rs := [.tmp 2]) rfl Try.ntmps23 (by simp) ?_; refine SW.rg fun K hK => ?_; simp -implicitDefEqProofs; repeat refine ⟨by omega, ?_⟩
  refine hK _ ?_; clear hK K; refine SW.rg fun K hK => ?_; simp -implicitDefEqProofs; repeat refine ⟨by omega, ?_⟩
  refine hK _ ?_; clear hK K; refine SW.seqK fun K1 hK1 => ?_; refine SW.rg fun K hK => ?_; simp -implicitDefEqProofs; repeat refine ⟨by omega, ?_⟩
  refine hK _ ?_; clear hK K; refine SW.block ?_
  refine SW.loop (α := Nat) (fun k => ⟨[(4, .int .i64 k), (3, .sl 0 0 l.length), (0, .fz (DS l))], [some ⟨4, (DS l).take k ++ List.replicate (l.length - k) zD⟩]⟩) (fun k => k ≤ l.length) (fun k => l.length - k) (0) ?_ ?_ (fun k hx => ?_)
  case' refine_1 =>
   simp
  case' refine_2 =>
   exact Wk.cut (by simp) (by simp [subE]) (by simp [cutH]) (by simp [lowE, lowN]) (by simp [lowEs_rep])
  case' refine_3 =>
   skip
   refine SW.seqK fun K2 hK2 => ?_; refine SW.rg fun K hK => ?_; simp -implicitDefEqProofs; repeat refine ⟨by omega, ?_⟩
   refine hK _ ?_; clear hK K; refine SW.cond _ rfl (by simp) ?_ ?_
   case' refine_2 =>
    intro hb1; have hk : k = l.length := by simp at hb1; omega
    subst hk; refine SW.exit ?_; simp only [Ex.then, Ex.ib]; try simp only [if_true, if_false, reduceIte]
    refine hK1 _ ?_; refine SW.rg fun K hK => ?_; simp -implicitDefEqProofs; repeat refine ⟨by omega, ?_⟩
    refine hK _ ?_; clear hK K; refine SW.ret ?_; simp [Ex.then, Ex.ib]; intro x hx y hy; obtain ⟨n, rfl⟩ := DS_int hx hy; rfl
   rotate_right
   case' _ =>
    intro hb1; have hlt : k < l.length := by simpa using hb1
    obtain ⟨x, hxk⟩ : ∃ x, l[k]? = some x := ⟨_, List.getElem?_eq_getElem hlt⟩
    have hz := getS zD (DS l) k (by simpa using hlt)
    have hset := fillS zD (DS l) k x.c (by simp [hxk])
    simp only [DS_length, Deed.c] at hz hset; refine SW.skip ?_; refine hK2 _ ?_; refine SW.seqK fun K3 hK3 => ?_; refine SW.block ?_; refine SW.regionE fun K hK => ?_; simp -implicitDefEqProofs [hxk, hz]
    iterate 2 (try refine ⟨by omega, ?_⟩)
    refine CallK.fz (toDeed_ok _) ?_; simp -implicitDefEqProofs [hxk, hz]; repeat refine ⟨by omega, ?_⟩
    refine hK _ ?_; clear hK K; refine hK3 _ ?_; refine SW.regionE fun K hK => ?_; simp -implicitDefEqProofs; repeat refine ⟨by omega, ?_⟩
    refine hK _ ?_; clear hK K; refine ⟨k + 1, by omega, by omega, ?_⟩; exact Wk.cut (by simp) (by simp [subE, wrap1 k (by omega)]) (by simp [cutH, hset]) (by simp [lowE, lowN]) (by simp [lowEs_rep])
set_option maxHeartbeats 1000000 in
theorem eqDeed_ok (a : Deed) : Fn Try.prog 41 [.agg a.c, .agg a.c] (.bool true) := by
  refine Fn.intro Try.func41 (by decide) rfl (rs := [.tmp 4]) rfl Try.ntmps41 (by simp) ?_; refine SW.rg fun K hK => ?_; simp -implicitDefEqProofs; repeat refine ⟨by omega, ?_⟩
  refine hK _ ?_; clear hK K; refine SW.seqK fun K1 hK1 => ?_; refine SW.rg fun K hK => ?_; simp -implicitDefEqProofs; repeat refine ⟨by omega, ?_⟩
  refine hK _ ?_; clear hK K; refine SW.cond _ rfl (by simp) ?_ ?_
  case' refine_2 =>
   intro hb1
   first
   | (exfalso; simp at hb1; done)
   | (exfalso; simp at hb1; omega)
   | (
    refine SW.skip ?_; refine hK1 _ ?_; refine SW.seqK fun K2 hK2 => ?_; refine SW.rg fun K hK => ?_; simp -implicitDefEqProofs; repeat refine ⟨by omega, ?_⟩
    refine hK _ ?_; clear hK K; refine SW.cond _ rfl (by simp) ?_ ?_
    case' refine_2 =>
     intro hb2
     first
     | (exfalso; simp at hb2; done)
     | (exfalso; simp at hb2; omega)
     | (
      refine SW.skip ?_; refine hK2 _ ?_; refine SW.seqK fun K3 hK3 => ?_; refine SW.rg fun K hK => ?_; simp -implicitDefEqProofs; repeat refine ⟨by omega, ?_⟩
      refine hK _ ?_; clear hK K; refine SW.cond _ rfl (by simp) ?_ ?_
      case' refine_2 =>
       intro hb3
       first
       | (exfalso; simp at hb3; done)
       | (exfalso; simp at hb3; omega)
       | (
        refine SW.skip ?_; refine hK3 _ ?_; refine SW.seqK fun K4 hK4 => ?_; refine SW.rg fun K hK => ?_; simp -implicitDefEqProofs; repeat refine ⟨by omega, ?_⟩
        refine hK _ ?_; clear hK K; refine SW.cond _ rfl (by simp) ?_ ?_
        case' refine_2 =>
         intro hb4
         first
         | (exfalso; simp at hb4; done)
         | (exfalso; simp at hb4; omega)
         | (
          refine SW.skip ?_; refine hK4 _ ?_; refine SW.rg fun K hK => ?_; simp -implicitDefEqProofs; repeat refine ⟨by omega, ?_⟩
          refine hK _ ?_; clear hK K; refine SW.ret ?_; simp [Ex.then, Ex.ib]
          all_goals simp_all)
        rotate_right
        case' _ =>
         intro hb4
         first
         | (exfalso; simp at hb4; done)
         | (exfalso; simp at hb4; omega)
         | (
          refine SW.rg fun K hK => ?_; simp -implicitDefEqProofs; repeat refine ⟨by omega, ?_⟩
          refine hK _ ?_; clear hK K; refine SW.ret ?_; simp [Ex.then, Ex.ib]
          all_goals simp_all))
      rotate_right
      case' _ =>
       intro hb3
       first
       | (exfalso; simp at hb3; done)
       | (exfalso; simp at hb3; omega)
       | (
        refine SW.rg fun K hK => ?_; simp -implicitDefEqProofs; repeat refine ⟨by omega, ?_⟩
        refine hK _ ?_; clear hK K; refine SW.ret ?_; simp [Ex.then, Ex.ib]
        all_goals simp_all))
    rotate_right
    case' _ =>
     intro hb2
     first
     | (exfalso; simp at hb2; done)
     | (exfalso; simp at hb2; omega)
     | (
      refine SW.rg fun K hK => ?_; simp -implicitDefEqProofs; repeat refine ⟨by omega, ?_⟩
      refine hK _ ?_; clear hK K; refine SW.ret ?_; simp [Ex.then, Ex.ib]
      all_goals simp_all))
  rotate_right
  case' _ =>
   intro hb1
   first
   | (exfalso; simp at hb1; done)
   | (exfalso; simp at hb1; omega)
   | (
    refine SW.rg fun K hK => ?_; simp -implicitDefEqProofs; repeat refine ⟨by omega, ?_⟩
    refine hK _ ?_; clear hK K; refine SW.ret ?_; simp [Ex.then, Ex.ib]
    all_goals simp_all)
set_option maxHeartbeats 1000000 in
theorem eqDeedS_ok (l : List Deed) (hl : l.length ≤ 2 ^ 40) : Fn Try.prog 25 [.fz (DS l), .fz (DS l)] (.bool true) := by
  refine Fn.intro Try.func25 (by decide) rfl (rs := [.tmp 4]) rfl Try.ntmps25 (by simp) ?_; refine SW.rg fun K hK => ?_; simp -implicitDefEqProofs; repeat refine ⟨by omega, ?_⟩
  refine hK _ ?_; clear hK K; refine SW.seqK fun K1 hK1 => ?_; refine SW.rg fun K hK => ?_; simp -implicitDefEqProofs; repeat refine ⟨by omega, ?_⟩
  refine hK _ ?_; clear hK K; refine SW.cond _ rfl (by simp) ?_ ?_
  case' refine_2 =>
   intro hb1
   first
   | (exfalso; simp at hb1; done)
   | (exfalso; simp at hb1; omega)
   | (
    refine SW.skip ?_; refine hK1 _ ?_; refine SW.seqK fun K2 hK2 => ?_; refine SW.rg fun K hK => ?_; simp -implicitDefEqProofs; repeat refine ⟨by omega, ?_⟩
    refine hK _ ?_; clear hK K; refine SW.block ?_; refine SW.loop (α := Nat) (fun k => ⟨[(5, .int .i64 k), (0, .fz (DS l)), (1, .fz (DS l))], []⟩) (fun k => k ≤ l.length) (fun k => l.length - k) (0) ?_ ?_ (fun k hx => ?_)
    case' refine_1 =>
     simp
    case' refine_2 =>
     exact Wk.cut (by simp) (by simp [subE]) (by simp [cutH]) (by simp [lowE, lowN]) (by simp)
    case' refine_3 =>
     skip
     refine SW.seqK fun K3 hK3 => ?_; refine SW.rg fun K hK => ?_; simp -implicitDefEqProofs; repeat refine ⟨by omega, ?_⟩
     refine hK _ ?_; clear hK K; refine SW.cond _ rfl (by simp) ?_ ?_
     case' refine_2 =>
      intro hb2
      first
      | (exfalso; simp at hb2; done)
      | (exfalso; simp at hb2; omega)
      | (
       refine SW.exit ?_; simp only [Ex.then, Ex.ib]; try simp only [if_true, if_false, reduceIte]
       refine hK2 _ ?_; refine SW.rg fun K hK => ?_; simp -implicitDefEqProofs; repeat refine ⟨by omega, ?_⟩
       refine hK _ ?_; clear hK K; refine SW.ret ?_
       simp [Ex.then, Ex.ib])
     rotate_right
     case' _ =>
      intro hb2; have hlt : k < l.length := by simpa using hb2
      obtain ⟨x, hxk⟩ : ∃ x, l[k]? = some x := ⟨_, List.getElem?_eq_getElem hlt⟩
      first
      | (exfalso; simp at hb2; done)
      | (exfalso; simp at hb2; omega)
      | (
       refine SW.skip ?_; refine hK3 _ ?_; refine SW.seqK fun K4 hK4 => ?_; refine SW.block ?_
       refine SW.drawK mixed [.q [(0, false), (1, false), (2, false), (3, false), (4, false), (5, false), (6, false), (7, false), (8, false), (9, false)]] (by kernel_rfl) rfl fun K hK => ?_; simp -implicitDefEqProofs [hxk]
       iterate 2 (try refine ⟨by omega, ?_⟩)
       refine CallQ.fz (eqDeed_ok _) ?_; simp -implicitDefEqProofs [hxk]; repeat refine ⟨by omega, ?_⟩
       refine hK _ ?_; clear hK K; refine SW.cond _ rfl (by simp) ?_ ?_
       case' refine_2 =>
        intro hb3
        first
        | (exfalso; simp at hb3; done)
        | (exfalso; simp at hb3; omega)
        | (
         refine SW.skip ?_; refine hK4 _ ?_; refine SW.regionE fun K hK => ?_; simp -implicitDefEqProofs; repeat refine ⟨by omega, ?_⟩
         refine hK _ ?_; clear hK K; refine ⟨k + 1, by omega, by omega, ?_⟩
         exact Wk.cut (by simp) (by simp [subE, wrap1 k (by omega)]) (by simp [cutH]) (by simp [lowE, lowN]) (by simp))
       rotate_right
       case' _ =>
        intro hb3
        first
        | (exfalso; simp at hb3; done)
        | (exfalso; simp at hb3; omega)
        | (
         refine SW.rg fun K hK => ?_; simp -implicitDefEqProofs; repeat refine ⟨by omega, ?_⟩
         refine hK _ ?_; clear hK K; refine SW.ret ?_
         simp [Ex.then, Ex.ib])))
  rotate_right
  case' _ =>
   intro hb1
   first
   | (exfalso; simp at hb1; done)
   | (exfalso; simp at hb1; omega)
   | (
    refine SW.rg fun K hK => ?_; simp -implicitDefEqProofs; repeat refine ⟨by omega, ?_⟩
    refine hK _ ?_; clear hK K; refine SW.ret ?_
    simp [Ex.then, Ex.ib])
abbrev LogC (p : Int) (l : List Deed) : AV := .agg [.int .i64 p, .fz (DS l)]
def numOk (n : Int) : Bool := decide (0 ≤ n) && decide (n ≤ 4294967295)
set_option maxHeartbeats 1000000 in
theorem sz_log (p : Int) (l : List Deed) (m : Int) : Fn Try.prog 28 [LogC p l, .int .i64 m] (.int .i64 (if IntKind.wrap .i64 (m - l.length) < 0 then -1 else IntKind.wrap .i64 (m - l.length))) := by
  refine Fn.intro Try.func28 (by decide) rfl (rs := [.tmp 4]) rfl Try.ntmps28 (by simp) ?_; refine SW.rg fun K hK => ?_; simp -implicitDefEqProofs; repeat refine ⟨by omega, ?_⟩
  refine hK _ ?_; clear hK K; refine SW.rg fun K hK => ?_; simp -implicitDefEqProofs; iterate 2 (try refine ⟨by omega, ?_⟩)
  refine CallK.fz (sz_deedS _ _) ?_; simp -implicitDefEqProofs; repeat refine ⟨by omega, ?_⟩
  refine hK _ ?_; clear hK K; refine SW.seqK fun K1 hK1 => ?_; refine SW.rg fun K hK => ?_; simp -implicitDefEqProofs; repeat refine ⟨by omega, ?_⟩
  refine hK _ ?_; clear hK K; refine SW.cond _ rfl (by simp) ?_ ?_
  case' refine_2 =>
   intro hb1; refine SW.skip ?_; refine hK1 _ ?_; refine SW.rg fun K hK => ?_; simp -implicitDefEqProofs; repeat refine ⟨by omega, ?_⟩
   refine hK _ ?_; clear hK K; refine SW.ret ?_; simp [Ex.then, Ex.ib]
   all_goals simp at *
   all_goals (split at hb1 <;> simp_all <;> omega)
  rotate_right
  case' _ =>
   intro hb1; refine SW.rg fun K hK => ?_; simp -implicitDefEqProofs; repeat refine ⟨by omega, ?_⟩
   refine hK _ ?_; clear hK K; refine SW.ret ?_; simp [Ex.then, Ex.ib]
   all_goals simp at *
   all_goals (split at hb1 <;> simp_all <;> omega)
set_option maxHeartbeats 1000000 in
theorem toLog_ok (p : Int) (l : List Deed) (hl : l.length ≤ 1048576) : Fn Try.prog 30 [LogC p l] (.agg [.int .i64 p, .own 4 (DS l)]) := by
  refine Fn.intro Try.func30 (by decide) rfl (rs := [.cell 2 45]) rfl Try.ntmps30 (by simp) ?_; refine SW.rg fun K hK => ?_; simp -implicitDefEqProofs; repeat refine ⟨by omega, ?_⟩
  refine hK _ ?_; clear hK K; refine SW.rg fun K hK => ?_; simp -implicitDefEqProofs; repeat refine ⟨by omega, ?_⟩
  refine hK _ ?_; clear hK K; refine SW.rg fun K hK => ?_; simp -implicitDefEqProofs; repeat refine ⟨by omega, ?_⟩
  refine hK _ ?_; clear hK K; refine SW.rg fun K hK => ?_; simp -implicitDefEqProofs; iterate 2 (try refine ⟨by omega, ?_⟩)
  refine CallK.im (toDeedS_ok _ hl) (DS_okI l) ?_; simp -implicitDefEqProofs; repeat refine ⟨by omega, ?_⟩
  refine hK _ ?_; clear hK K; refine SW.rg fun K hK => ?_; simp -implicitDefEqProofs; repeat refine ⟨by omega, ?_⟩
  refine hK _ ?_; clear hK K; refine SW.ret ?_; simp [Ex.then, Ex.ib]; intro x hx y hy; obtain ⟨n, rfl⟩ := DS_int hx hy; rfl
set_option maxHeartbeats 1000000 in
theorem num_s (a : Int) : Fn Try.prog 65 [.int .i64 a] (.bool (numOk a)) := by
  refine Fn.intro Try.func65 (by decide) rfl (rs := [.tmp 2]) rfl Try.ntmps65 (by simp) ?_; refine SW.rg fun K hK => ?_; simp -implicitDefEqProofs; repeat refine ⟨by omega, ?_⟩
  refine hK _ ?_; clear hK K; refine SW.rg fun K hK => ?_; simp -implicitDefEqProofs; repeat refine ⟨by omega, ?_⟩
  refine hK _ ?_; clear hK K; refine SW.ret ?_; simp [Ex.then, Ex.ib]
  all_goals simp [numOk]
set_option maxHeartbeats 1000000 in
theorem num_i (a : Int) : Fn Try.prog 56 [.int .i64 a] (.bool (numOk a)) := by
  refine Fn.intro Try.func56 (by decide) rfl (rs := [.tmp 2]) rfl Try.ntmps56 (by simp) ?_; refine SW.rg fun K hK => ?_; simp -implicitDefEqProofs; repeat refine ⟨by omega, ?_⟩
  refine hK _ ?_; clear hK K; refine SW.rg fun K hK => ?_; simp -implicitDefEqProofs; repeat refine ⟨by omega, ?_⟩
  refine hK _ ?_; clear hK K; refine SW.ret ?_; simp [Ex.then, Ex.ib]
  all_goals simp [numOk]
set_option maxHeartbeats 1000000 in
theorem eqLog_ok (p : Int) (l : List Deed) (hl : l.length ≤ 1048576) : Fn Try.prog 32 [LogC p l, LogC p l] (.bool true) := by
  refine Fn.intro Try.func32 (by decide) rfl (rs := [.tmp 4]) rfl Try.ntmps32 (by simp) ?_; refine SW.rg fun K hK => ?_; simp -implicitDefEqProofs; repeat refine ⟨by omega, ?_⟩
  refine hK _ ?_; clear hK K; refine SW.seqK fun K1 hK1 => ?_; refine SW.rg fun K hK => ?_; simp -implicitDefEqProofs; repeat refine ⟨by omega, ?_⟩
  refine hK _ ?_; clear hK K; refine SW.cond _ rfl (by simp) ?_ ?_
  case' refine_2 =>
   intro hb1
   first
   | (exfalso; simp at hb1; done)
   | (exfalso; simp at hb1; omega)
   | (
    refine SW.skip ?_; refine hK1 _ ?_; refine SW.seqK fun K2 hK2 => ?_; refine SW.rg fun K hK => ?_; simp -implicitDefEqProofs; iterate 2 (try refine ⟨by omega, ?_⟩)
    refine CallK.fz (eqDeedS_ok _ (by omega)) ?_; simp -implicitDefEqProofs; repeat refine ⟨by omega, ?_⟩
    refine hK _ ?_; clear hK K; refine SW.cond _ rfl (by simp) ?_ ?_
    case' refine_2 =>
     intro hb2
     first
     | (exfalso; simp at hb2; done)
     | (exfalso; simp at hb2; omega)
     | (
      refine SW.skip ?_; refine hK2 _ ?_; refine SW.rg fun K hK => ?_; simp -implicitDefEqProofs; repeat refine ⟨by omega, ?_⟩
      refine hK _ ?_; clear hK K; refine SW.ret ?_
      simp [Ex.then, Ex.ib])
    rotate_right
    case' _ =>
     intro hb2
     first
     | (exfalso; simp at hb2; done)
     | (exfalso; simp at hb2; omega)
     | (
      refine SW.rg fun K hK => ?_; simp -implicitDefEqProofs; repeat refine ⟨by omega, ?_⟩
      refine hK _ ?_; clear hK K; refine SW.ret ?_
      simp [Ex.then, Ex.ib]))
  rotate_right
  case' _ =>
   intro hb1
   first
   | (exfalso; simp at hb1; done)
   | (exfalso; simp at hb1; omega)
   | (
    refine SW.rg fun K hK => ?_; simp -implicitDefEqProofs; repeat refine ⟨by omega, ?_⟩
    refine hK _ ?_; clear hK K; refine SW.ret ?_
    simp [Ex.then, Ex.ib])
set_option maxHeartbeats 1000000 in
theorem shared_s (a : Int) : Fn Try.prog 59 [.int .i64 a] (.bool (decide (8 ≤ a) && decide (a ≤ 15))) := by
  refine Fn.intro Try.func59 (by decide) rfl (rs := [.tmp 2]) rfl Try.ntmps59 (by simp) ?_; refine SW.rg fun K hK => ?_; simp -implicitDefEqProofs; repeat refine ⟨by omega, ?_⟩
  refine hK _ ?_; clear hK K; refine SW.rg fun K hK => ?_; simp -implicitDefEqProofs; repeat refine ⟨by omega, ?_⟩
  refine hK _ ?_; clear hK K; refine SW.ret ?_; simp [Ex.then, Ex.ib]
set_option maxHeartbeats 1000000 in
theorem shared_i (a : Int) : Fn Try.prog 63 [.int .i64 a] (.bool (decide (8 ≤ a) && decide (a ≤ 15))) := by
  refine Fn.intro Try.func63 (by decide) rfl (rs := [.tmp 2]) rfl Try.ntmps63 (by simp) ?_; refine SW.rg fun K hK => ?_; simp -implicitDefEqProofs; repeat refine ⟨by omega, ?_⟩
  refine hK _ ?_; clear hK K; refine SW.rg fun K hK => ?_; simp -implicitDefEqProofs; repeat refine ⟨by omega, ?_⟩
  refine hK _ ?_; clear hK K; refine SW.ret ?_; simp [Ex.then, Ex.ib]
end HS
