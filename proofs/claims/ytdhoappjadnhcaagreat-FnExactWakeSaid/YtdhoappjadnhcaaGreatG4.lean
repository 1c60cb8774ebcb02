import Derived.Test.YtdhoappjadnhcaaGreatG3b
/-
  My own texts (road H): HCT2 HCT3.
-/
set_option maxHeartbeats 8000000
set_option linter.unusedSimpArgs false
set_option linter.unusedVariables false
namespace HT
open Go Go.Proofs HK
theorem toIntS_ok (l : List Int) (hl : l.length ≤ 1048576) : Fn Tryz.prog 50 [.fz (IntS l)] (.own 1 (IntS l)) := by
  refine Fn.intro Tryz.func50 (by decide) rfl (rs := [.tmp 2]) rfl Tryz.ntmps50 (by simp) ?_; refine SW.ra ?_; refine SW.ra ?_; refine SW.seqK fun K1 hK1 => ?_; refine SW.ra ?_; refine SW.block ?_
  refine SW.loop (α := Nat) (fun k => ⟨[(4, .int .i64 k), (3, .sl 0 0 l.length), (0, .fz (IntS l))], [some ⟨1, (IntS l).take k ++ List.replicate (l.length - k) ([.int .i64 0] : List AV)⟩]⟩) (fun k => k ≤ l.length) (fun k => l.length - k) (0) ?_ ?_ (fun k hx => ?_)
  case' refine_1 =>
   simp
  case' refine_2 =>
   exact Wk.cut (by simp) (by simp [subE]) (by simp [cutH]) (by simp [lowE, lowN]) (by simp [lowEs_rep])
  case' refine_3 =>
   skip
   refine SW.seqK fun K2 hK2 => ?_; refine SW.ra ?_; refine SW.cond _ rfl (by simp) ?_ ?_
   case' refine_1 =>
    intro hb1; have hlt : k < l.length := by simp at hb1; omega
    obtain ⟨x, hxk⟩ : ∃ x, l[k]? = some x := ⟨_, List.getElem?_eq_getElem hlt⟩
    have hxm := List.mem_of_getElem? hxk
    have hz := getS ([.int .i64 0] : List AV) (IntS l) k (by simpa using hlt)
    have hset := fillS ([.int .i64 0] : List AV) (IntS l) k [.int .i64 x] (by simp [hxk])
    simp only [IntS_length] at hz hset; refine SW.skip ?_; refine hK2 _ ?_; refine SW.seqK fun K3 hK3 => ?_; refine SW.block ?_; refine SW.regionE fun K hK => ?_; simp -implicitDefEqProofs [hxk, hz]; repeat refine ⟨by omega, ?_⟩
    refine hK _ ?_; clear hK K; refine hK3 _ ?_; refine SW.ea ?_; refine ⟨k + 1, by omega, by omega, ?_⟩; exact Wk.cut (by simp) (by simp [subE, wrap1 k (by omega)]) (by simp [cutH, hset]) (by simp [lowE, lowN]) (by simp [lowEs_rep])
   intro hb1; have hk : k = l.length := by simp at hb1; omega
   subst hk; refine SW.exit ?_; simp only [Ex.then, Ex.ib]; try simp only [if_true, if_false, reduceIte]
   refine hK1 _ ?_; refine SW.ra ?_; refine SW.ret ?_; simp [Ex.then, Ex.ib, -strN]
   all_goals (try simp)
theorem eqIntS_ok (l : List Int) (hl : l.length ≤ 1048576) : Fn Tryz.prog 65 [.fz (IntS l), .fz (IntS l)] (.bool true) := by
  refine Fn.intro Tryz.func65 (by decide) rfl (rs := [.tmp 4]) rfl Tryz.ntmps65 (by simp) ?_; refine SW.ra ?_; refine SW.seqK fun K1 hK1 => ?_; refine SW.ra ?_; refine SW.cond _ rfl (by simp) ?_ ?_
  case' refine_1 =>
   intro hb1; exfalso; simp at hb1
  intro hb1; refine SW.skip ?_; refine hK1 _ ?_; refine SW.seqK fun K2 hK2 => ?_; refine SW.ra ?_; refine SW.block ?_
  refine SW.loop (α := Nat) (fun k => ⟨[(5, .int .i64 k), (0, .fz (IntS l)), (1, .fz (IntS l))], []⟩) (fun k => k ≤ l.length) (fun k => l.length - k) (0) ?_ ?_ (fun k hx => ?_)
  case' refine_1 =>
   simp
  case' refine_2 =>
   exact Wk.cut (by simp) (by simp [subE]) (by simp [cutH]) (by simp [lowE, lowN]) (by simp)
  case' refine_3 =>
   skip
   refine SW.seqK fun K3 hK3 => ?_; refine SW.ra ?_; refine SW.cond _ rfl (by simp) ?_ ?_
   case' refine_1 =>
    intro hb2; have hlt : k < l.length := by simp at hb2; omega
    obtain ⟨x, hxk⟩ : ∃ x, l[k]? = some x := ⟨_, List.getElem?_eq_getElem hlt⟩
    have hxm := List.mem_of_getElem? hxk
    refine SW.skip ?_; refine hK3 _ ?_; refine SW.seqK fun K4 hK4 => ?_; refine SW.block ?_
    refine SW.drawK mixed [.q [(0, false), (1, false), (2, false), (3, false), (4, false), (5, false), (6, false), (7, false), (8, false)]] (by kernel_rfl) rfl fun K hK => ?_; simp -implicitDefEqProofs [hxk]; repeat refine ⟨by omega, ?_⟩
    refine hK _ ?_; clear hK K; refine SW.cond _ rfl (by simp) ?_ ?_
    case' refine_1 =>
     intro hb3; exfalso; simp at hb3
    intro hb3; refine SW.skip ?_; refine hK4 _ ?_; refine SW.ea ?_; refine ⟨k + 1, by omega, by omega, ?_⟩; exact Wk.cut (by simp) (by simp [subE, wrap1 k (by omega)]) (by simp [cutH]) (by simp [lowE, lowN]) (by simp)
   intro hb2; refine SW.exit ?_; simp only [Ex.then, Ex.ib]; try simp only [if_true, if_false, reduceIte]
   refine hK2 _ ?_; refine SW.ra ?_; refine SW.ret ?_; simp [Ex.then, Ex.ib]
theorem toWaiter_ok (d : Waiter) : Fn Tryz.prog 13 [.agg d.cl] (.agg d.cl) := by
  refine Fn.intro Tryz.func13 (by decide) rfl (rs := [.cell 2 49]) rfl Tryz.ntmps13 (by simp) ?_; refine SW.ra ?_; refine SW.ra ?_; refine SW.ra ?_; refine SW.ra ?_; refine SW.ra ?_; refine SW.ra ?_; refine SW.ret ?_; simp [Ex.then, Ex.ib]
theorem eqWaiter_ok (a : Waiter) : Fn Tryz.prog 247 [.agg a.cl, .agg a.cl] (.bool true) := by
  refine Fn.intro Tryz.func247 (by decide) rfl (rs := [.tmp 4]) rfl Tryz.ntmps247 (by simp) ?_; refine SW.ra ?_; refine SW.seqK fun K1 hK1 => ?_; refine SW.ra ?_; refine SW.cond _ rfl (by simp) ?_ ?_
  case' refine_1 =>
   intro hb1; exfalso; simp at hb1
  intro hb1; refine SW.skip ?_; refine hK1 _ ?_; refine SW.seqK fun K2 hK2 => ?_; refine SW.ra ?_; refine SW.cond _ rfl (by simp) ?_ ?_
  case' refine_1 =>
   intro hb2; exfalso; simp at hb2
  intro hb2; refine SW.skip ?_; refine hK2 _ ?_; refine SW.seqK fun K3 hK3 => ?_; refine SW.ra ?_; refine SW.cond _ rfl (by simp) ?_ ?_
  case' refine_1 =>
   intro hb3; exfalso; simp at hb3
  intro hb3; refine SW.skip ?_; refine hK3 _ ?_; refine SW.ra ?_; refine SW.ret ?_; simp [Ex.then, Ex.ib]
  all_goals simp_all
theorem toWaiterS_ok (l : List Waiter) (hl : l.length ≤ 1048576) : Fn Tryz.prog 195 [.fz (WaiterS l)] (.own 3 (WaiterS l)) := by
  refine Fn.intro Tryz.func195 (by decide) rfl (rs := [.tmp 2]) rfl Tryz.ntmps195 (by simp) ?_; refine SW.ra ?_; refine SW.ra ?_; refine SW.seqK fun K1 hK1 => ?_; refine SW.ra ?_; refine SW.block ?_
  refine SW.loop (α := Nat) (fun k => ⟨[(4, .int .i64 k), (3, .sl 0 0 l.length), (0, .fz (WaiterS l))], [some ⟨3, (WaiterS l).take k ++ List.replicate (l.length - k) ([.int .i64 0, .int .i64 0, .int .i64 0] : List AV)⟩]⟩) (fun k => k ≤ l.length) (fun k => l.length - k) (0) ?_ ?_ (fun k hx => ?_)
  case' refine_1 =>
   simp
  case' refine_2 =>
   exact Wk.cut (by simp) (by simp [subE]) (by simp [cutH]) (by simp [lowE, lowN]) (by simp [lowEs_rep])
  case' refine_3 =>
   skip
   refine SW.seqK fun K2 hK2 => ?_; refine SW.ra ?_; refine SW.cond _ rfl (by simp) ?_ ?_
   case' refine_1 =>
    intro hb1; have hlt : k < l.length := by simp at hb1; omega
    obtain ⟨x, hxk⟩ : ∃ x, l[k]? = some x := ⟨_, List.getElem?_eq_getElem hlt⟩
    have hxm := List.mem_of_getElem? hxk
    have hz := getS ([.int .i64 0, .int .i64 0, .int .i64 0] : List AV) (WaiterS l) k (by simpa using hlt)
    have hset := fillS ([.int .i64 0, .int .i64 0, .int .i64 0] : List AV) (WaiterS l) k x.cl (by simp [hxk])
    simp only [WaiterS_length, Waiter.cl] at hz hset; refine SW.skip ?_; refine hK2 _ ?_; refine SW.seqK fun K3 hK3 => ?_; refine SW.block ?_; refine SW.regionE fun K hK => ?_; simp -implicitDefEqProofs [hxk, hz]
    iterate 2 (try refine ⟨by omega, ?_⟩)
    refine CallK.fz (toWaiter_ok _) ?_; simp -implicitDefEqProofs [hxk, hz]; repeat refine ⟨by omega, ?_⟩
    refine hK _ ?_; clear hK K; refine hK3 _ ?_; refine SW.ea ?_; refine ⟨k + 1, by omega, by omega, ?_⟩; exact Wk.cut (by simp) (by simp [subE, wrap1 k (by omega)]) (by simp [cutH, hset]) (by simp [lowE, lowN]) (by simp [lowEs_rep])
   intro hb1; have hk : k = l.length := by simp at hb1; omega
   subst hk; refine SW.exit ?_; simp only [Ex.then, Ex.ib]; try simp only [if_true, if_false, reduceIte]
   refine hK1 _ ?_; refine SW.ra ?_; refine SW.ret ?_; simp [Ex.then, Ex.ib, -strN]
   all_goals (try simp)
theorem eqWaiterS_ok (l : List Waiter) (hl : l.length ≤ 1048576) : Fn Tryz.prog 211 [.fz (WaiterS l), .fz (WaiterS l)] (.bool true) := by
  refine Fn.intro Tryz.func211 (by decide) rfl (rs := [.tmp 4]) rfl Tryz.ntmps211 (by simp) ?_; refine SW.ra ?_; refine SW.seqK fun K1 hK1 => ?_; refine SW.ra ?_; refine SW.cond _ rfl (by simp) ?_ ?_
  case' refine_1 =>
   intro hb1; exfalso; simp at hb1
  intro hb1; refine SW.skip ?_; refine hK1 _ ?_; refine SW.seqK fun K2 hK2 => ?_; refine SW.ra ?_; refine SW.block ?_
  refine SW.loop (α := Nat) (fun k => ⟨[(5, .int .i64 k), (0, .fz (WaiterS l)), (1, .fz (WaiterS l))], []⟩) (fun k => k ≤ l.length) (fun k => l.length - k) (0) ?_ ?_ (fun k hx => ?_)
  case' refine_1 =>
   simp
  case' refine_2 =>
   exact Wk.cut (by simp) (by simp [subE]) (by simp [cutH]) (by simp [lowE, lowN]) (by simp)
  case' refine_3 =>
   skip
   refine SW.seqK fun K3 hK3 => ?_; refine SW.ra ?_; refine SW.cond _ rfl (by simp) ?_ ?_
   case' refine_1 =>
    intro hb2; have hlt : k < l.length := by simp at hb2; omega
    obtain ⟨x, hxk⟩ : ∃ x, l[k]? = some x := ⟨_, List.getElem?_eq_getElem hlt⟩
    have hxm := List.mem_of_getElem? hxk
    refine SW.skip ?_; refine hK3 _ ?_; refine SW.seqK fun K4 hK4 => ?_; refine SW.block ?_
    refine SW.drawK mixed [.q [(0, false), (1, false), (2, false), (3, false), (4, false), (5, false), (6, false), (7, false), (8, false), (9, false)]] (by kernel_rfl) rfl fun K hK => ?_; simp -implicitDefEqProofs [hxk]
    iterate 2 (try refine ⟨by omega, ?_⟩)
    refine CallQ.fz (eqWaiter_ok x) ?_; simp -implicitDefEqProofs [hxk]; repeat refine ⟨by omega, ?_⟩
    refine hK _ ?_; clear hK K; refine SW.cond _ rfl (by simp) ?_ ?_
    case' refine_1 =>
     intro hb3; exfalso; simp at hb3
    intro hb3; refine SW.skip ?_; refine hK4 _ ?_; refine SW.ea ?_; refine ⟨k + 1, by omega, by omega, ?_⟩; exact Wk.cut (by simp) (by simp [subE, wrap1 k (by omega)]) (by simp [cutH]) (by simp [lowE, lowN]) (by simp)
   intro hb2; refine SW.exit ?_; simp only [Ex.then, Ex.ib]; try simp only [if_true, if_false, reduceIte]
   refine hK2 _ ?_; refine SW.ra ?_; refine SW.ret ?_; simp [Ex.then, Ex.ib]
theorem toItem_ok (d : Item) : Fn Tryz.prog 239 [.agg d.cl] (.agg d.cl) := by
  refine Fn.intro Tryz.func239 (by decide) rfl (rs := [.cell 2 169]) rfl Tryz.ntmps239 (by simp) ?_; refine SW.ra ?_; refine SW.ra ?_; refine SW.ra ?_; refine SW.ra ?_; refine SW.ra ?_; refine SW.ra ?_; refine SW.ra ?_; refine SW.ret ?_
  simp [Ex.then, Ex.ib]
theorem eqItem_ok (a : Item) : Fn Tryz.prog 246 [.agg a.cl, .agg a.cl] (.bool true) := by
  refine Fn.intro Tryz.func246 (by decide) rfl (rs := [.tmp 4]) rfl Tryz.ntmps246 (by simp) ?_; refine SW.ra ?_; refine SW.seqK fun K1 hK1 => ?_; refine SW.ra ?_; refine SW.cond _ rfl (by simp) ?_ ?_
  case' refine_1 =>
   intro hb1; exfalso; simp at hb1
  intro hb1; refine SW.skip ?_; refine hK1 _ ?_; refine SW.seqK fun K2 hK2 => ?_; refine SW.ra ?_; refine SW.cond _ rfl (by simp) ?_ ?_
  case' refine_1 =>
   intro hb2; exfalso; simp at hb2
  intro hb2; refine SW.skip ?_; refine hK2 _ ?_; refine SW.seqK fun K3 hK3 => ?_; refine SW.ra ?_; refine SW.cond _ rfl (by simp) ?_ ?_
  case' refine_1 =>
   intro hb3; exfalso; simp at hb3
  intro hb3; refine SW.skip ?_; refine hK3 _ ?_; refine SW.seqK fun K4 hK4 => ?_; refine SW.ra ?_; refine SW.cond _ rfl (by simp) ?_ ?_
  case' refine_1 =>
   intro hb4; exfalso; simp at hb4
  intro hb4; refine SW.skip ?_; refine hK4 _ ?_; refine SW.ra ?_; refine SW.ret ?_; simp [Ex.then, Ex.ib]
  all_goals simp_all
theorem toItemS_ok (l : List Item) (hl : l.length ≤ 1048576) : Fn Tryz.prog 194 [.fz (ItemS l)] (.own 4 (ItemS l)) := by
  refine Fn.intro Tryz.func194 (by decide) rfl (rs := [.tmp 2]) rfl Tryz.ntmps194 (by simp) ?_; refine SW.ra ?_; refine SW.ra ?_; refine SW.seqK fun K1 hK1 => ?_; refine SW.ra ?_; refine SW.block ?_
  refine SW.loop (α := Nat) (fun k => ⟨[(4, .int .i64 k), (3, .sl 0 0 l.length), (0, .fz (ItemS l))], [some ⟨4, (ItemS l).take k ++ List.replicate (l.length - k) ([.int .i64 0, .int .i64 0, .int .i64 0, .bool false] : List AV)⟩]⟩) (fun k => k ≤ l.length) (fun k => l.length - k) (0) ?_ ?_ (fun k hx => ?_)
  case' refine_1 =>
   simp
  case' refine_2 =>
   exact Wk.cut (by simp) (by simp [subE]) (by simp [cutH]) (by simp [lowE, lowN]) (by simp [lowEs_rep])
  case' refine_3 =>
   skip
   refine SW.seqK fun K2 hK2 => ?_; refine SW.ra ?_; refine SW.cond _ rfl (by simp) ?_ ?_
   case' refine_1 =>
    intro hb1; have hlt : k < l.length := by simp at hb1; omega
    obtain ⟨x, hxk⟩ : ∃ x, l[k]? = some x := ⟨_, List.getElem?_eq_getElem hlt⟩
    have hxm := List.mem_of_getElem? hxk
    have hz := getS ([.int .i64 0, .int .i64 0, .int .i64 0, .bool false] : List AV) (ItemS l) k (by simpa using hlt)
    have hset := fillS ([.int .i64 0, .int .i64 0, .int .i64 0, .bool false] : List AV) (ItemS l) k x.cl (by simp [hxk])
    simp only [ItemS_length, Item.cl] at hz hset; refine SW.skip ?_; refine hK2 _ ?_; refine SW.seqK fun K3 hK3 => ?_; refine SW.block ?_; refine SW.regionE fun K hK => ?_; simp -implicitDefEqProofs [hxk, hz]
    iterate 2 (try refine ⟨by omega, ?_⟩)
    refine CallK.fz (toItem_ok _) ?_; simp -implicitDefEqProofs [hxk, hz]; repeat refine ⟨by omega, ?_⟩
    refine hK _ ?_; clear hK K; refine hK3 _ ?_; refine SW.ea ?_; refine ⟨k + 1, by omega, by omega, ?_⟩; exact Wk.cut (by simp) (by simp [subE, wrap1 k (by omega)]) (by simp [cutH, hset]) (by simp [lowE, lowN]) (by simp [lowEs_rep])
   intro hb1; have hk : k = l.length := by simp at hb1; omega
   subst hk; refine SW.exit ?_; simp only [Ex.then, Ex.ib]; try simp only [if_true, if_false, reduceIte]
   refine hK1 _ ?_; refine SW.ra ?_; refine SW.ret ?_; simp [Ex.then, Ex.ib, -strN]
   all_goals (try simp)
theorem eqItemS_ok (l : List Item) (hl : l.length ≤ 1048576) : Fn Tryz.prog 210 [.fz (ItemS l), .fz (ItemS l)] (.bool true) := by
  refine Fn.intro Tryz.func210 (by decide) rfl (rs := [.tmp 4]) rfl Tryz.ntmps210 (by simp) ?_; refine SW.ra ?_; refine SW.seqK fun K1 hK1 => ?_; refine SW.ra ?_; refine SW.cond _ rfl (by simp) ?_ ?_
  case' refine_1 =>
   intro hb1; exfalso; simp at hb1
  intro hb1; refine SW.skip ?_; refine hK1 _ ?_; refine SW.seqK fun K2 hK2 => ?_; refine SW.ra ?_; refine SW.block ?_
  refine SW.loop (α := Nat) (fun k => ⟨[(5, .int .i64 k), (0, .fz (ItemS l)), (1, .fz (ItemS l))], []⟩) (fun k => k ≤ l.length) (fun k => l.length - k) (0) ?_ ?_ (fun k hx => ?_)
  case' refine_1 =>
   simp
  case' refine_2 =>
   exact Wk.cut (by simp) (by simp [subE]) (by simp [cutH]) (by simp [lowE, lowN]) (by simp)
  case' refine_3 =>
   skip
   refine SW.seqK fun K3 hK3 => ?_; refine SW.ra ?_; refine SW.cond _ rfl (by simp) ?_ ?_
   case' refine_1 =>
    intro hb2; have hlt : k < l.length := by simp at hb2; omega
    obtain ⟨x, hxk⟩ : ∃ x, l[k]? = some x := ⟨_, List.getElem?_eq_getElem hlt⟩
    have hxm := List.mem_of_getElem? hxk
    refine SW.skip ?_; refine hK3 _ ?_; refine SW.seqK fun K4 hK4 => ?_; refine SW.block ?_
    refine SW.drawK mixed [.q [(0, false), (1, false), (2, false), (3, false), (4, false), (5, false), (6, false), (7, false), (8, false), (9, false)]] (by kernel_rfl) rfl fun K hK => ?_; simp -implicitDefEqProofs [hxk]
    iterate 2 (try refine ⟨by omega, ?_⟩)
    refine CallQ.fz (eqItem_ok x) ?_; simp -implicitDefEqProofs [hxk]; repeat refine ⟨by omega, ?_⟩
    refine hK _ ?_; clear hK K; refine SW.cond _ rfl (by simp) ?_ ?_
    case' refine_1 =>
     intro hb3; exfalso; simp at hb3
    intro hb3; refine SW.skip ?_; refine hK4 _ ?_; refine SW.ea ?_; refine ⟨k + 1, by omega, by omega, ?_⟩; exact Wk.cut (by simp) (by simp [subE, wrap1 k (by omega)]) (by simp [cutH]) (by simp [lowE, lowN]) (by simp)
   intro hb2; refine SW.exit ?_; simp only [Ex.then, Ex.ib]; try simp only [if_true, if_false, reduceIte]
   refine hK2 _ ?_; refine SW.ra ?_; refine SW.ret ?_; simp [Ex.then, Ex.ib]
theorem toGor_ok (d : Gor) (h : d.ok) : Fn Tryz.prog 118 [.agg d.fr] (.agg d.ow) := by
  refine Fn.intro Tryz.func118 (by decide) rfl (rs := [.cell 2 97]) rfl Tryz.ntmps118 (by simp) ?_; unfold Gor.ok at h; obtain ⟨b2, b4⟩ := h; refine SW.ra ?_; refine SW.ra ?_; refine SW.ra ?_; refine SW.ra ?_; refine SW.rg fun K hK => ?_
  simp -implicitDefEqProofs; iterate 2 (try refine ⟨by omega, ?_⟩)
  refine CallK.imE (toIntS_ok d.regs b2) (by simp) (IntS_okI _) ?_; simp -implicitDefEqProofs; repeat refine ⟨by omega, ?_⟩
  refine hK _ ?_; clear hK K; refine SW.ra ?_; refine SW.rg fun K hK => ?_; simp -implicitDefEqProofs; iterate 2 (try refine ⟨by omega, ?_⟩)
  refine CallK.imE (toItemS_ok d.trace b4) (by simp) (ItemS_okI _) ?_; simp -implicitDefEqProofs; repeat refine ⟨by omega, ?_⟩
  refine hK _ ?_; clear hK K; refine SW.ra ?_; refine SW.ret ?_; simp [Ex.then, Ex.ib, -strN]
  all_goals (try simp)
theorem eqGor_ok (d : Gor) (h : d.ok) : Fn Tryz.prog 136 [.agg d.fr, .agg d.fr] (.bool true) := by
  refine Fn.intro Tryz.func136 (by decide) rfl (rs := [.tmp 4]) rfl Tryz.ntmps136 (by simp) ?_; unfold Gor.ok at h; obtain ⟨b2, b4⟩ := h; refine SW.ra ?_; refine SW.seqK fun K1 hK1 => ?_; refine SW.ra ?_; refine SW.cond _ rfl (by simp) ?_ ?_
  case' refine_1 =>
   intro hb1; exfalso; simp at hb1
  intro hb1; refine SW.skip ?_; refine hK1 _ ?_; refine SW.seqK fun K2 hK2 => ?_; refine SW.ra ?_; refine SW.cond _ rfl (by simp) ?_ ?_
  case' refine_1 =>
   intro hb2; exfalso; simp at hb2
  intro hb2; refine SW.skip ?_; refine hK2 _ ?_; refine SW.seqK fun K3 hK3 => ?_; refine SW.rg fun K hK => ?_; simp -implicitDefEqProofs; iterate 2 (try refine ⟨by omega, ?_⟩)
  refine CallK.fz (eqIntS_ok d.regs b2) ?_; simp -implicitDefEqProofs; repeat refine ⟨by omega, ?_⟩
  refine hK _ ?_; clear hK K; refine SW.cond _ rfl (by simp) ?_ ?_
  case' refine_1 =>
   intro hb3; exfalso; simp at hb3
  intro hb3; refine SW.skip ?_; refine hK3 _ ?_; refine SW.seqK fun K4 hK4 => ?_; refine SW.ra ?_; refine SW.cond _ rfl (by simp) ?_ ?_
  case' refine_1 =>
   intro hb4; exfalso; simp at hb4
  intro hb4; refine SW.skip ?_; refine hK4 _ ?_; refine SW.seqK fun K5 hK5 => ?_; refine SW.rg fun K hK => ?_; simp -implicitDefEqProofs; iterate 2 (try refine ⟨by omega, ?_⟩)
  refine CallK.fz (eqItemS_ok d.trace b4) ?_; simp -implicitDefEqProofs; repeat refine ⟨by omega, ?_⟩
  refine hK _ ?_; clear hK K; refine SW.cond _ rfl (by simp) ?_ ?_
  case' refine_1 =>
   intro hb5; exfalso; simp at hb5
  intro hb5; refine SW.skip ?_; refine hK5 _ ?_; refine SW.ra ?_; refine SW.ret ?_; simp [Ex.then, Ex.ib]
theorem toGorS_ok (l : List Gor) (hl0 : l.length ≤ 1048576 ∧ ∀ x ∈ l, x.ok) : Fn Tryz.prog 53 [.fz (GorSf l)] (.own 5 (GorSo l)) := by
  refine Fn.intro Tryz.func53 (by decide) rfl (rs := [.tmp 2]) rfl Tryz.ntmps53 (by simp) ?_; obtain ⟨hl, hok⟩ := hl0; refine SW.ra ?_; refine SW.ra ?_; refine SW.seqK fun K1 hK1 => ?_; refine SW.ra ?_; refine SW.block ?_
  refine SW.loop (α := Nat) (fun k => ⟨[(4, .int .i64 k), (3, .sl 0 0 l.length), (0, .fz (GorSf l))], [some ⟨5, (GorSo l).take k ++ List.replicate (l.length - k) ([.int .i64 0, .int .i64 0, .nil, .int .i64 0, .nil] : List AV)⟩]⟩) (fun k => k ≤ l.length) (fun k => l.length - k) (0) ?_ ?_ (fun k hx => ?_)
  case' refine_1 =>
   simp
  case' refine_2 =>
   exact Wk.cut (by simp) (by simp [subE]) (by simp [cutH]) (by simp [lowE, lowN]) (by simp [lowEs_rep])
  case' refine_3 =>
   skip
   refine SW.seqK fun K2 hK2 => ?_; refine SW.ra ?_; refine SW.cond _ rfl (by simp) ?_ ?_
   case' refine_1 =>
    intro hb1; have hlt : k < l.length := by simp at hb1; omega
    obtain ⟨x, hxk⟩ : ∃ x, l[k]? = some x := ⟨_, List.getElem?_eq_getElem hlt⟩
    have hxm := List.mem_of_getElem? hxk
    have hz := getS ([.int .i64 0, .int .i64 0, .nil, .int .i64 0, .nil] : List AV) (GorSo l) k (by simpa using hlt)
    have hset := fillS ([.int .i64 0, .int .i64 0, .nil, .int .i64 0, .nil] : List AV) (GorSo l) k x.ow (by simp [hxk])
    simp only [GorSo_length, Gor.ow] at hz hset; refine SW.skip ?_; refine hK2 _ ?_; refine SW.seqK fun K3 hK3 => ?_; refine SW.block ?_; refine SW.regionE fun K hK => ?_; simp -implicitDefEqProofs [hxk, hz]
    iterate 2 (try refine ⟨by omega, ?_⟩)
    refine CallK.imE (toGor_ok x (hok x hxm)) (by simp) (Gor_oI x) ?_; simp -implicitDefEqProofs [hxk, hz]; repeat refine ⟨by omega, ?_⟩
    refine hK _ ?_; clear hK K; refine hK3 _ ?_; refine SW.ea ?_; refine ⟨k + 1, by omega, by omega, ?_⟩
    refine Wk.trans (Wk.foldE (env' := [(4, .int .i64 (k + 1 : Nat)), (3, .sl 0 0 l.length), (0, .fz (GorSf l))]) (h := [some ⟨5, ((GorSo l).take k ++ List.replicate (l.length - k) ([.int .i64 0, .int .i64 0, .nil, .int .i64 0, .nil] : List AV)).set k [.int .i64 x.proc, .int .i64 x.pc, .sl 1 0 x.regs.length, .int .i64 x.state, .sl 2 0 x.trace.length]⟩, some ⟨1, IntS x.regs⟩]) (h' := [some ⟨5, ((GorSo l).take k ++ List.replicate (l.length - k) ([.int .i64 0, .int .i64 0, .nil, .int .i64 0, .nil] : List AV)).set k [.int .i64 x.proc, .int .i64 x.pc, .sl 1 0 x.regs.length, .int .i64 x.state, .own 4 (ItemS x.trace)]⟩, some ⟨1, IntS x.regs⟩]) (p := 0) (i := k) (c := 4) (szB := 5) (sz := 4) (es := ((GorSo l).take k ++ List.replicate (l.length - k) ([.int .i64 0, .int .i64 0, .nil, .int .i64 0, .nil] : List AV)).set k [.int .i64 x.proc, .int .i64 x.pc, .sl 1 0 x.regs.length, .int .i64 x.state, .sl 2 0 x.trace.length]) (esj := ItemS x.trace) [.int .i64 x.proc, .int .i64 x.pc, .sl 1 0 x.regs.length, .int .i64 x.state, .sl 2 0 x.trace.length] (by simp) (by simp) (by rw [List.getElem?_set_self (by simp; omega)]) (by simp) (by simp) (by simp) (by simp [subE, wrap1 k (by omega)]) (by simp [lowE, lowN]) (by simp [List.set_set]) (by simp [lowEs_set, lowEs_rep])) ?_
    exact Wk.foldE (env' := [(4, .int .i64 (k + 1 : Nat)), (3, .sl 0 0 l.length), (0, .fz (GorSf l))]) (h := [some ⟨5, ((GorSo l).take k ++ List.replicate (l.length - k) ([.int .i64 0, .int .i64 0, .nil, .int .i64 0, .nil] : List AV)).set k [.int .i64 x.proc, .int .i64 x.pc, .sl 1 0 x.regs.length, .int .i64 x.state, .own 4 (ItemS x.trace)]⟩]) (p := 0) (i := k) (c := 2) (szB := 5) (sz := 1) (es := ((GorSo l).take k ++ List.replicate (l.length - k) ([.int .i64 0, .int .i64 0, .nil, .int .i64 0, .nil] : List AV)).set k [.int .i64 x.proc, .int .i64 x.pc, .sl 1 0 x.regs.length, .int .i64 x.state, .own 4 (ItemS x.trace)]) (esj := IntS x.regs) [.int .i64 x.proc, .int .i64 x.pc, .sl 1 0 x.regs.length, .int .i64 x.state, .own 4 (ItemS x.trace)] (by simp) (by simp) (by rw [List.getElem?_set_self (by simp; omega)]) (by simp) (by simp) (by simp) (by simp [subE]) (by simp [lowE, lowN]) (by simp [List.set_set, ← hset]) (by simp [lowEs_set, lowEs_rep])
   intro hb1; have hk : k = l.length := by simp at hb1; omega
   subst hk; refine SW.exit ?_; simp only [Ex.then, Ex.ib]; try simp only [if_true, if_false, reduceIte]
   refine hK1 _ ?_; refine SW.ra ?_; refine SW.ret ?_; simp [Ex.then, Ex.ib, -strN]
   all_goals (try simp)
theorem eqGorS_ok (l : List Gor) (hl0 : l.length ≤ 1048576 ∧ ∀ x ∈ l, x.ok) : Fn Tryz.prog 62 [.fz (GorSf l), .fz (GorSf l)] (.bool true) := by
  refine Fn.intro Tryz.func62 (by decide) rfl (rs := [.tmp 4]) rfl Tryz.ntmps62 (by simp) ?_; obtain ⟨hl, hok⟩ := hl0; refine SW.ra ?_; refine SW.seqK fun K1 hK1 => ?_; refine SW.ra ?_; refine SW.cond _ rfl (by simp) ?_ ?_
  case' refine_1 =>
   intro hb1; exfalso; simp at hb1
  intro hb1; refine SW.skip ?_; refine hK1 _ ?_; refine SW.seqK fun K2 hK2 => ?_; refine SW.ra ?_; refine SW.block ?_
  refine SW.loop (α := Nat) (fun k => ⟨[(5, .int .i64 k), (0, .fz (GorSf l)), (1, .fz (GorSf l))], []⟩) (fun k => k ≤ l.length) (fun k => l.length - k) (0) ?_ ?_ (fun k hx => ?_)
  case' refine_1 =>
   simp
  case' refine_2 =>
   exact Wk.cut (by simp) (by simp [subE]) (by simp [cutH]) (by simp [lowE, lowN]) (by simp)
  case' refine_3 =>
   skip
   refine SW.seqK fun K3 hK3 => ?_; refine SW.ra ?_; refine SW.cond _ rfl (by simp) ?_ ?_
   case' refine_1 =>
    intro hb2; have hlt : k < l.length := by simp at hb2; omega
    obtain ⟨x, hxk⟩ : ∃ x, l[k]? = some x := ⟨_, List.getElem?_eq_getElem hlt⟩
    have hxm := List.mem_of_getElem? hxk
    refine SW.skip ?_; refine hK3 _ ?_; refine SW.seqK fun K4 hK4 => ?_; refine SW.block ?_
    refine SW.drawK mixed [.q [(0, false), (1, false), (2, false), (3, false), (4, false), (5, false), (6, false), (7, false), (8, false), (9, false)]] (by kernel_rfl) rfl fun K hK => ?_; simp -implicitDefEqProofs [hxk]
    iterate 2 (try refine ⟨by omega, ?_⟩)
    refine CallQ.fz (eqGor_ok x (hok x hxm)) ?_; simp -implicitDefEqProofs [hxk]; repeat refine ⟨by omega, ?_⟩
    refine hK _ ?_; clear hK K; refine SW.cond _ rfl (by simp) ?_ ?_
    case' refine_1 =>
     intro hb3; exfalso; simp at hb3
    intro hb3; refine SW.skip ?_; refine hK4 _ ?_; refine SW.ea ?_; refine ⟨k + 1, by omega, by omega, ?_⟩; exact Wk.cut (by simp) (by simp [subE, wrap1 k (by omega)]) (by simp [cutH]) (by simp [lowE, lowN]) (by simp)
   intro hb2; refine SW.exit ?_; simp only [Ex.then, Ex.ib]; try simp only [if_true, if_false, reduceIte]
   refine hK2 _ ?_; refine SW.ra ?_; refine SW.ret ?_; simp [Ex.then, Ex.ib]
end HT
namespace HT
open Go Go.Proofs HK
theorem toCase_ok (d : Case) : Fn Tryz.prog 237 [.agg d.cl] (.agg d.cl) := by
  refine Fn.intro Tryz.func237 (by decide) rfl (rs := [.cell 2 163]) rfl Tryz.ntmps237 (by simp) ?_; refine SW.ra ?_; refine SW.ra ?_; refine SW.ra ?_; refine SW.ra ?_; refine SW.ra ?_; refine SW.ra ?_; refine SW.ra ?_; refine SW.ra ?_
  refine SW.ret ?_; simp [Ex.then, Ex.ib]
theorem eqCase_ok (a : Case) : Fn Tryz.prog 248 [.agg a.cl, .agg a.cl] (.bool true) := by
  refine Fn.intro Tryz.func248 (by decide) rfl (rs := [.tmp 4]) rfl Tryz.ntmps248 (by simp) ?_; refine SW.ra ?_; refine SW.seqK fun K1 hK1 => ?_; refine SW.ra ?_; refine SW.cond _ rfl (by simp) ?_ ?_
  case' refine_1 =>
   intro hb1; exfalso; simp at hb1
  intro hb1; refine SW.skip ?_; refine hK1 _ ?_; refine SW.seqK fun K2 hK2 => ?_; refine SW.ra ?_; refine SW.cond _ rfl (by simp) ?_ ?_
  case' refine_1 =>
   intro hb2; exfalso; simp at hb2
  intro hb2; refine SW.skip ?_; refine hK2 _ ?_; refine SW.seqK fun K3 hK3 => ?_; refine SW.ra ?_; refine SW.cond _ rfl (by simp) ?_ ?_
  case' refine_1 =>
   intro hb3; exfalso; simp at hb3
  intro hb3; refine SW.skip ?_; refine hK3 _ ?_; refine SW.seqK fun K4 hK4 => ?_; refine SW.ra ?_; refine SW.cond _ rfl (by simp) ?_ ?_
  case' refine_1 =>
   intro hb4; exfalso; simp at hb4
  intro hb4; refine SW.skip ?_; refine hK4 _ ?_; refine SW.seqK fun K5 hK5 => ?_; refine SW.ra ?_; refine SW.cond _ rfl (by simp) ?_ ?_
  case' refine_1 =>
   intro hb5; exfalso; simp at hb5
  intro hb5; refine SW.skip ?_; refine hK5 _ ?_; refine SW.ra ?_; refine SW.ret ?_; simp [Ex.then, Ex.ib]
  all_goals simp_all
theorem toCaseS_ok (l : List Case) (hl : l.length ≤ 1048576) : Fn Tryz.prog 192 [.fz (CaseS l)] (.own 5 (CaseS l)) := by
  refine Fn.intro Tryz.func192 (by decide) rfl (rs := [.tmp 2]) rfl Tryz.ntmps192 (by simp) ?_; refine SW.ra ?_; refine SW.ra ?_; refine SW.seqK fun K1 hK1 => ?_; refine SW.ra ?_; refine SW.block ?_
  refine SW.loop (α := Nat) (fun k => ⟨[(4, .int .i64 k), (3, .sl 0 0 l.length), (0, .fz (CaseS l))], [some ⟨5, (CaseS l).take k ++ List.replicate (l.length - k) ([.bool false, .int .i64 0, .int .i64 0, .int .i64 0, .int .i64 0] : List AV)⟩]⟩) (fun k => k ≤ l.length) (fun k => l.length - k) (0) ?_ ?_ (fun k hx => ?_)
  case' refine_1 =>
   simp
  case' refine_2 =>
   exact Wk.cut (by simp) (by simp [subE]) (by simp [cutH]) (by simp [lowE, lowN]) (by simp [lowEs_rep])
  case' refine_3 =>
   skip
   refine SW.seqK fun K2 hK2 => ?_; refine SW.ra ?_; refine SW.cond _ rfl (by simp) ?_ ?_
   case' refine_1 =>
    intro hb1; have hlt : k < l.length := by simp at hb1; omega
    obtain ⟨x, hxk⟩ : ∃ x, l[k]? = some x := ⟨_, List.getElem?_eq_getElem hlt⟩
    have hxm := List.mem_of_getElem? hxk
    have hz := getS ([.bool false, .int .i64 0, .int .i64 0, .int .i64 0, .int .i64 0] : List AV) (CaseS l) k (by simpa using hlt)
    have hset := fillS ([.bool false, .int .i64 0, .int .i64 0, .int .i64 0, .int .i64 0] : List AV) (CaseS l) k x.cl (by simp [hxk])
    simp only [CaseS_length, Case.cl] at hz hset; refine SW.skip ?_; refine hK2 _ ?_; refine SW.seqK fun K3 hK3 => ?_; refine SW.block ?_; refine SW.regionE fun K hK => ?_; simp -implicitDefEqProofs [hxk, hz]
    iterate 2 (try refine ⟨by omega, ?_⟩)
    refine CallK.fz (toCase_ok _) ?_; simp -implicitDefEqProofs [hxk, hz]; repeat refine ⟨by omega, ?_⟩
    refine hK _ ?_; clear hK K; refine hK3 _ ?_; refine SW.ea ?_; refine ⟨k + 1, by omega, by omega, ?_⟩; exact Wk.cut (by simp) (by simp [subE, wrap1 k (by omega)]) (by simp [cutH, hset]) (by simp [lowE, lowN]) (by simp [lowEs_rep])
   intro hb1; have hk : k = l.length := by simp at hb1; omega
   subst hk; refine SW.exit ?_; simp only [Ex.then, Ex.ib]; try simp only [if_true, if_false, reduceIte]
   refine hK1 _ ?_; refine SW.ra ?_; refine SW.ret ?_; simp [Ex.then, Ex.ib, -strN]
   all_goals (try simp)
theorem eqCaseS_ok (l : List Case) (hl : l.length ≤ 1048576) : Fn Tryz.prog 212 [.fz (CaseS l), .fz (CaseS l)] (.bool true) := by
  refine Fn.intro Tryz.func212 (by decide) rfl (rs := [.tmp 4]) rfl Tryz.ntmps212 (by simp) ?_; refine SW.ra ?_; refine SW.seqK fun K1 hK1 => ?_; refine SW.ra ?_; refine SW.cond _ rfl (by simp) ?_ ?_
  case' refine_1 =>
   intro hb1; exfalso; simp at hb1
  intro hb1; refine SW.skip ?_; refine hK1 _ ?_; refine SW.seqK fun K2 hK2 => ?_; refine SW.ra ?_; refine SW.block ?_
  refine SW.loop (α := Nat) (fun k => ⟨[(5, .int .i64 k), (0, .fz (CaseS l)), (1, .fz (CaseS l))], []⟩) (fun k => k ≤ l.length) (fun k => l.length - k) (0) ?_ ?_ (fun k hx => ?_)
  case' refine_1 =>
   simp
  case' refine_2 =>
   exact Wk.cut (by simp) (by simp [subE]) (by simp [cutH]) (by simp [lowE, lowN]) (by simp)
  case' refine_3 =>
   skip
   refine SW.seqK fun K3 hK3 => ?_; refine SW.ra ?_; refine SW.cond _ rfl (by simp) ?_ ?_
   case' refine_1 =>
    intro hb2; have hlt : k < l.length := by simp at hb2; omega
    obtain ⟨x, hxk⟩ : ∃ x, l[k]? = some x := ⟨_, List.getElem?_eq_getElem hlt⟩
    have hxm := List.mem_of_getElem? hxk
    refine SW.skip ?_; refine hK3 _ ?_; refine SW.seqK fun K4 hK4 => ?_; refine SW.block ?_
    refine SW.drawK mixed [.q [(0, false), (1, false), (2, false), (3, false), (4, false), (5, false), (6, false), (7, false), (8, false), (9, false)]] (by kernel_rfl) rfl fun K hK => ?_; simp -implicitDefEqProofs [hxk]
    iterate 2 (try refine ⟨by omega, ?_⟩)
    refine CallQ.fz (eqCase_ok x) ?_; simp -implicitDefEqProofs [hxk]; repeat refine ⟨by omega, ?_⟩
    refine hK _ ?_; clear hK K; refine SW.cond _ rfl (by simp) ?_ ?_
    case' refine_1 =>
     intro hb3; exfalso; simp at hb3
    intro hb3; refine SW.skip ?_; refine hK4 _ ?_; refine SW.ea ?_; refine ⟨k + 1, by omega, by omega, ?_⟩; exact Wk.cut (by simp) (by simp [subE, wrap1 k (by omega)]) (by simp [cutH]) (by simp [lowE, lowN]) (by simp)
   intro hb2; refine SW.exit ?_; simp only [Ex.then, Ex.ib]; try simp only [if_true, if_false, reduceIte]
   refine hK2 _ ?_; refine SW.ra ?_; refine SW.ret ?_; simp [Ex.then, Ex.ib]
theorem toInstr_ok (d : Instr) : Fn Tryz.prog 238 [.agg d.cl] (.agg d.cl) := by
  refine Fn.intro Tryz.func238 (by decide) rfl (rs := [.cell 2 124]) rfl Tryz.ntmps238 (by simp) ?_; refine SW.ra ?_; refine SW.ra ?_; refine SW.ra ?_; refine SW.ra ?_; refine SW.ra ?_; refine SW.ra ?_; refine SW.ra ?_; refine SW.ret ?_
  simp [Ex.then, Ex.ib]
theorem eqInstr_ok (a : Instr) : Fn Tryz.prog 249 [.agg a.cl, .agg a.cl] (.bool true) := by
  refine Fn.intro Tryz.func249 (by decide) rfl (rs := [.tmp 4]) rfl Tryz.ntmps249 (by simp) ?_; refine SW.ra ?_; refine SW.seqK fun K1 hK1 => ?_; refine SW.ra ?_; refine SW.cond _ rfl (by simp) ?_ ?_
  case' refine_1 =>
   intro hb1; exfalso; simp at hb1
  intro hb1; refine SW.skip ?_; refine hK1 _ ?_; refine SW.seqK fun K2 hK2 => ?_; refine SW.ra ?_; refine SW.cond _ rfl (by simp) ?_ ?_
  case' refine_1 =>
   intro hb2; exfalso; simp at hb2
  intro hb2; refine SW.skip ?_; refine hK2 _ ?_; refine SW.seqK fun K3 hK3 => ?_; refine SW.ra ?_; refine SW.cond _ rfl (by simp) ?_ ?_
  case' refine_1 =>
   intro hb3; exfalso; simp at hb3
  intro hb3; refine SW.skip ?_; refine hK3 _ ?_; refine SW.seqK fun K4 hK4 => ?_; refine SW.ra ?_; refine SW.cond _ rfl (by simp) ?_ ?_
  case' refine_1 =>
   intro hb4; exfalso; simp at hb4
  intro hb4; refine SW.skip ?_; refine hK4 _ ?_; refine SW.ra ?_; refine SW.ret ?_; simp [Ex.then, Ex.ib]
  all_goals simp_all
theorem toInstrS_ok (l : List Instr) (hl : l.length ≤ 1048576) : Fn Tryz.prog 193 [.fz (InstrS l)] (.own 4 (InstrS l)) := by
  refine Fn.intro Tryz.func193 (by decide) rfl (rs := [.tmp 2]) rfl Tryz.ntmps193 (by simp) ?_; refine SW.ra ?_; refine SW.ra ?_; refine SW.seqK fun K1 hK1 => ?_; refine SW.ra ?_; refine SW.block ?_
  refine SW.loop (α := Nat) (fun k => ⟨[(4, .int .i64 k), (3, .sl 0 0 l.length), (0, .fz (InstrS l))], [some ⟨4, (InstrS l).take k ++ List.replicate (l.length - k) ([.int .i64 0, .int .i64 0, .int .i64 0, .int .i64 0] : List AV)⟩]⟩) (fun k => k ≤ l.length) (fun k => l.length - k) (0) ?_ ?_ (fun k hx => ?_)
  case' refine_1 =>
   simp
  case' refine_2 =>
   exact Wk.cut (by simp) (by simp [subE]) (by simp [cutH]) (by simp [lowE, lowN]) (by simp [lowEs_rep])
  case' refine_3 =>
   skip
   refine SW.seqK fun K2 hK2 => ?_; refine SW.ra ?_; refine SW.cond _ rfl (by simp) ?_ ?_
   case' refine_1 =>
    intro hb1; have hlt : k < l.length := by simp at hb1; omega
    obtain ⟨x, hxk⟩ : ∃ x, l[k]? = some x := ⟨_, List.getElem?_eq_getElem hlt⟩
    have hxm := List.mem_of_getElem? hxk
    have hz := getS ([.int .i64 0, .int .i64 0, .int .i64 0, .int .i64 0] : List AV) (InstrS l) k (by simpa using hlt)
    have hset := fillS ([.int .i64 0, .int .i64 0, .int .i64 0, .int .i64 0] : List AV) (InstrS l) k x.cl (by simp [hxk])
    simp only [InstrS_length, Instr.cl] at hz hset; refine SW.skip ?_; refine hK2 _ ?_; refine SW.seqK fun K3 hK3 => ?_; refine SW.block ?_; refine SW.regionE fun K hK => ?_; simp -implicitDefEqProofs [hxk, hz]
    iterate 2 (try refine ⟨by omega, ?_⟩)
    refine CallK.fz (toInstr_ok _) ?_; simp -implicitDefEqProofs [hxk, hz]; repeat refine ⟨by omega, ?_⟩
    refine hK _ ?_; clear hK K; refine hK3 _ ?_; refine SW.ea ?_; refine ⟨k + 1, by omega, by omega, ?_⟩; exact Wk.cut (by simp) (by simp [subE, wrap1 k (by omega)]) (by simp [cutH, hset]) (by simp [lowE, lowN]) (by simp [lowEs_rep])
   intro hb1; have hk : k = l.length := by simp at hb1; omega
   subst hk; refine SW.exit ?_; simp only [Ex.then, Ex.ib]; try simp only [if_true, if_false, reduceIte]
   refine hK1 _ ?_; refine SW.ra ?_; refine SW.ret ?_; simp [Ex.then, Ex.ib, -strN]
   all_goals (try simp)
theorem eqInstrS_ok (l : List Instr) (hl : l.length ≤ 1048576) : Fn Tryz.prog 213 [.fz (InstrS l), .fz (InstrS l)] (.bool true) := by
  refine Fn.intro Tryz.func213 (by decide) rfl (rs := [.tmp 4]) rfl Tryz.ntmps213 (by simp) ?_; refine SW.ra ?_; refine SW.seqK fun K1 hK1 => ?_; refine SW.ra ?_; refine SW.cond _ rfl (by simp) ?_ ?_
  case' refine_1 =>
   intro hb1; exfalso; simp at hb1
  intro hb1; refine SW.skip ?_; refine hK1 _ ?_; refine SW.seqK fun K2 hK2 => ?_; refine SW.ra ?_; refine SW.block ?_
  refine SW.loop (α := Nat) (fun k => ⟨[(5, .int .i64 k), (0, .fz (InstrS l)), (1, .fz (InstrS l))], []⟩) (fun k => k ≤ l.length) (fun k => l.length - k) (0) ?_ ?_ (fun k hx => ?_)
  case' refine_1 =>
   simp
  case' refine_2 =>
   exact Wk.cut (by simp) (by simp [subE]) (by simp [cutH]) (by simp [lowE, lowN]) (by simp)
  case' refine_3 =>
   skip
   refine SW.seqK fun K3 hK3 => ?_; refine SW.ra ?_; refine SW.cond _ rfl (by simp) ?_ ?_
   case' refine_1 =>
    intro hb2; have hlt : k < l.length := by simp at hb2; omega
    obtain ⟨x, hxk⟩ : ∃ x, l[k]? = some x := ⟨_, List.getElem?_eq_getElem hlt⟩
    have hxm := List.mem_of_getElem? hxk
    refine SW.skip ?_; refine hK3 _ ?_; refine SW.seqK fun K4 hK4 => ?_; refine SW.block ?_
    refine SW.drawK mixed [.q [(0, false), (1, false), (2, false), (3, false), (4, false), (5, false), (6, false), (7, false), (8, false), (9, false)]] (by kernel_rfl) rfl fun K hK => ?_; simp -implicitDefEqProofs [hxk]
    iterate 2 (try refine ⟨by omega, ?_⟩)
    refine CallQ.fz (eqInstr_ok x) ?_; simp -implicitDefEqProofs [hxk]; repeat refine ⟨by omega, ?_⟩
    refine hK _ ?_; clear hK K; refine SW.cond _ rfl (by simp) ?_ ?_
    case' refine_1 =>
     intro hb3; exfalso; simp at hb3
    intro hb3; refine SW.skip ?_; refine hK4 _ ?_; refine SW.ea ?_; refine ⟨k + 1, by omega, by omega, ?_⟩; exact Wk.cut (by simp) (by simp [subE, wrap1 k (by omega)]) (by simp [cutH]) (by simp [lowE, lowN]) (by simp)
   intro hb2; refine SW.exit ?_; simp only [Ex.then, Ex.ib]; try simp only [if_true, if_false, reduceIte]
   refine hK2 _ ?_; refine SW.ra ?_; refine SW.ret ?_; simp [Ex.then, Ex.ib]
theorem toSelect_ok (d : Select) (h : d.ok) : Fn Tryz.prog 116 [.agg d.fr] (.agg d.ow) := by
  refine Fn.intro Tryz.func116 (by decide) rfl (rs := [.cell 2 166]) rfl Tryz.ntmps116 (by simp) ?_; unfold Select.ok at h; have b0 := h
  refine SW.ra ?_; refine SW.ra ?_; refine SW.rg fun K hK => ?_; simp -implicitDefEqProofs; iterate 2 (try refine ⟨by omega, ?_⟩)
  refine CallK.imE (toCaseS_ok d.cases b0) (by simp) (CaseS_okI _) ?_; simp -implicitDefEqProofs; repeat refine ⟨by omega, ?_⟩
  refine hK _ ?_; clear hK K; refine SW.ra ?_; refine SW.ra ?_; refine SW.ret ?_; simp [Ex.then, Ex.ib, -strN]
  all_goals (try simp)
theorem eqSelect_ok (d : Select) (h : d.ok) : Fn Tryz.prog 139 [.agg d.fr, .agg d.fr] (.bool true) := by
  refine Fn.intro Tryz.func139 (by decide) rfl (rs := [.tmp 4]) rfl Tryz.ntmps139 (by simp) ?_; unfold Select.ok at h; have b0 := h
  refine SW.ra ?_; refine SW.seqK fun K1 hK1 => ?_; refine SW.rg fun K hK => ?_; simp -implicitDefEqProofs; iterate 2 (try refine ⟨by omega, ?_⟩)
  refine CallK.fz (eqCaseS_ok d.cases b0) ?_; simp -implicitDefEqProofs; repeat refine ⟨by omega, ?_⟩
  refine hK _ ?_; clear hK K; refine SW.cond _ rfl (by simp) ?_ ?_
  case' refine_1 =>
   intro hb1; exfalso; simp at hb1
  intro hb1; refine SW.skip ?_; refine hK1 _ ?_; refine SW.seqK fun K2 hK2 => ?_; refine SW.ra ?_; refine SW.cond _ rfl (by simp) ?_ ?_
  case' refine_1 =>
   intro hb2; exfalso; simp at hb2
  intro hb2; refine SW.skip ?_; refine hK2 _ ?_; refine SW.ra ?_; refine SW.ret ?_; simp [Ex.then, Ex.ib]
theorem toSelectS_ok (l : List Select) (hl0 : l.length ≤ 1048576 ∧ ∀ x ∈ l, x.ok) : Fn Tryz.prog 51 [.fz (SelectSf l)] (.own 2 (SelectSo l)) := by
  refine Fn.intro Tryz.func51 (by decide) rfl (rs := [.tmp 2]) rfl Tryz.ntmps51 (by simp) ?_; obtain ⟨hl, hok⟩ := hl0; refine SW.ra ?_; refine SW.ra ?_; refine SW.seqK fun K1 hK1 => ?_; refine SW.ra ?_; refine SW.block ?_
  refine SW.loop (α := Nat) (fun k => ⟨[(4, .int .i64 k), (3, .sl 0 0 l.length), (0, .fz (SelectSf l))], [some ⟨2, (SelectSo l).take k ++ List.replicate (l.length - k) ([.nil, .int .i64 0] : List AV)⟩]⟩) (fun k => k ≤ l.length) (fun k => l.length - k) (0) ?_ ?_ (fun k hx => ?_)
  case' refine_1 =>
   simp
  case' refine_2 =>
   exact Wk.cut (by simp) (by simp [subE]) (by simp [cutH]) (by simp [lowE, lowN]) (by simp [lowEs_rep])
  case' refine_3 =>
   skip
   refine SW.seqK fun K2 hK2 => ?_; refine SW.ra ?_; refine SW.cond _ rfl (by simp) ?_ ?_
   case' refine_1 =>
    intro hb1; have hlt : k < l.length := by simp at hb1; omega
    obtain ⟨x, hxk⟩ : ∃ x, l[k]? = some x := ⟨_, List.getElem?_eq_getElem hlt⟩
    have hxm := List.mem_of_getElem? hxk
    have hz := getS ([.nil, .int .i64 0] : List AV) (SelectSo l) k (by simpa using hlt)
    have hset := fillS ([.nil, .int .i64 0] : List AV) (SelectSo l) k x.ow (by simp [hxk])
    simp only [SelectSo_length, Select.ow] at hz hset; refine SW.skip ?_; refine hK2 _ ?_; refine SW.seqK fun K3 hK3 => ?_; refine SW.block ?_; refine SW.regionE fun K hK => ?_; simp -implicitDefEqProofs [hxk, hz]
    iterate 2 (try refine ⟨by omega, ?_⟩)
    refine CallK.imE (toSelect_ok x (hok x hxm)) (by simp) (Select_oI x) ?_; simp -implicitDefEqProofs [hxk, hz]; repeat refine ⟨by omega, ?_⟩
    refine hK _ ?_; clear hK K; refine hK3 _ ?_; refine SW.ea ?_; refine ⟨k + 1, by omega, by omega, ?_⟩
    exact Wk.foldE (env' := [(4, .int .i64 (k + 1 : Nat)), (3, .sl 0 0 l.length), (0, .fz (SelectSf l))]) (h := [some ⟨2, ((SelectSo l).take k ++ List.replicate (l.length - k) ([.nil, .int .i64 0] : List AV)).set k [.sl 1 0 x.cases.length, .int .i64 x.els]⟩]) (p := 0) (i := k) (c := 0) (szB := 2) (sz := 5) (es := ((SelectSo l).take k ++ List.replicate (l.length - k) ([.nil, .int .i64 0] : List AV)).set k [.sl 1 0 x.cases.length, .int .i64 x.els]) (esj := CaseS x.cases) [.sl 1 0 x.cases.length, .int .i64 x.els] (by simp) (by simp) (by rw [List.getElem?_set_self (by simp; omega)]) (by simp) (by simp) (by simp) (by simp [subE, wrap1 k (by omega)]) (by simp [lowE, lowN]) (by simp [List.set_set, ← hset]) (by simp [lowEs_set, lowEs_rep])
   intro hb1; have hk : k = l.length := by simp at hb1; omega
   subst hk; refine SW.exit ?_; simp only [Ex.then, Ex.ib]; try simp only [if_true, if_false, reduceIte]
   refine hK1 _ ?_; refine SW.ra ?_; refine SW.ret ?_; simp [Ex.then, Ex.ib, -strN]
   all_goals (try simp)
theorem eqSelectS_ok (l : List Select) (hl0 : l.length ≤ 1048576 ∧ ∀ x ∈ l, x.ok) : Fn Tryz.prog 66 [.fz (SelectSf l), .fz (SelectSf l)] (.bool true) := by
  refine Fn.intro Tryz.func66 (by decide) rfl (rs := [.tmp 4]) rfl Tryz.ntmps66 (by simp) ?_; obtain ⟨hl, hok⟩ := hl0; refine SW.ra ?_; refine SW.seqK fun K1 hK1 => ?_; refine SW.ra ?_; refine SW.cond _ rfl (by simp) ?_ ?_
  case' refine_1 =>
   intro hb1; exfalso; simp at hb1
  intro hb1; refine SW.skip ?_; refine hK1 _ ?_; refine SW.seqK fun K2 hK2 => ?_; refine SW.ra ?_; refine SW.block ?_
  refine SW.loop (α := Nat) (fun k => ⟨[(5, .int .i64 k), (0, .fz (SelectSf l)), (1, .fz (SelectSf l))], []⟩) (fun k => k ≤ l.length) (fun k => l.length - k) (0) ?_ ?_ (fun k hx => ?_)
  case' refine_1 =>
   simp
  case' refine_2 =>
   exact Wk.cut (by simp) (by simp [subE]) (by simp [cutH]) (by simp [lowE, lowN]) (by simp)
  case' refine_3 =>
   skip
   refine SW.seqK fun K3 hK3 => ?_; refine SW.ra ?_; refine SW.cond _ rfl (by simp) ?_ ?_
   case' refine_1 =>
    intro hb2; have hlt : k < l.length := by simp at hb2; omega
    obtain ⟨x, hxk⟩ : ∃ x, l[k]? = some x := ⟨_, List.getElem?_eq_getElem hlt⟩
    have hxm := List.mem_of_getElem? hxk
    refine SW.skip ?_; refine hK3 _ ?_; refine SW.seqK fun K4 hK4 => ?_; refine SW.block ?_
    refine SW.drawK mixed [.q [(0, false), (1, false), (2, false), (3, false), (4, false), (5, false), (6, false), (7, false), (8, false), (9, false)]] (by kernel_rfl) rfl fun K hK => ?_; simp -implicitDefEqProofs [hxk]
    iterate 2 (try refine ⟨by omega, ?_⟩)
    refine CallQ.fz (eqSelect_ok x (hok x hxm)) ?_; simp -implicitDefEqProofs [hxk]; repeat refine ⟨by omega, ?_⟩
    refine hK _ ?_; clear hK K; refine SW.cond _ rfl (by simp) ?_ ?_
    case' refine_1 =>
     intro hb3; exfalso; simp at hb3
    intro hb3; refine SW.skip ?_; refine hK4 _ ?_; refine SW.ea ?_; refine ⟨k + 1, by omega, by omega, ?_⟩; exact Wk.cut (by simp) (by simp [subE, wrap1 k (by omega)]) (by simp [cutH]) (by simp [lowE, lowN]) (by simp)
   intro hb2; refine SW.exit ?_; simp only [Ex.then, Ex.ib]; try simp only [if_true, if_false, reduceIte]
   refine hK2 _ ?_; refine SW.ra ?_; refine SW.ret ?_; simp [Ex.then, Ex.ib]
theorem toProc_ok (d : Proc) (h : d.ok) : Fn Tryz.prog 117 [.agg d.fr] (.agg d.ow) := by
  refine Fn.intro Tryz.func117 (by decide) rfl (rs := [.cell 2 182]) rfl Tryz.ntmps117 (by simp) ?_; unfold Proc.ok at h; have b0 := h
  refine SW.ra ?_; refine SW.ra ?_; refine SW.rg fun K hK => ?_; simp -implicitDefEqProofs; iterate 2 (try refine ⟨by omega, ?_⟩)
  refine CallK.imE (toInstrS_ok d.code b0) (by simp) (InstrS_okI _) ?_; simp -implicitDefEqProofs; repeat refine ⟨by omega, ?_⟩
  refine hK _ ?_; clear hK K; refine SW.ra ?_; refine SW.ret ?_; simp [Ex.then, Ex.ib, -strN]
  all_goals (try simp)
theorem eqProc_ok (d : Proc) (h : d.ok) : Fn Tryz.prog 140 [.agg d.fr, .agg d.fr] (.bool true) := by
  refine Fn.intro Tryz.func140 (by decide) rfl (rs := [.tmp 4]) rfl Tryz.ntmps140 (by simp) ?_; unfold Proc.ok at h; have b0 := h
  refine SW.ra ?_; refine SW.seqK fun K1 hK1 => ?_; refine SW.rg fun K hK => ?_; simp -implicitDefEqProofs; iterate 2 (try refine ⟨by omega, ?_⟩)
  refine CallK.fz (eqInstrS_ok d.code b0) ?_; simp -implicitDefEqProofs; repeat refine ⟨by omega, ?_⟩
  refine hK _ ?_; clear hK K; refine SW.cond _ rfl (by simp) ?_ ?_
  case' refine_1 =>
   intro hb1; exfalso; simp at hb1
  intro hb1; refine SW.skip ?_; refine hK1 _ ?_; refine SW.ra ?_; refine SW.ret ?_; simp [Ex.then, Ex.ib]
theorem toProcS_ok (l : List Proc) (hl0 : l.length ≤ 1048576 ∧ ∀ x ∈ l, x.ok) : Fn Tryz.prog 52 [.fz (ProcSf l)] (.own 1 (ProcSo l)) := by
  refine Fn.intro Tryz.func52 (by decide) rfl (rs := [.tmp 2]) rfl Tryz.ntmps52 (by simp) ?_; obtain ⟨hl, hok⟩ := hl0; refine SW.ra ?_; refine SW.ra ?_; refine SW.seqK fun K1 hK1 => ?_; refine SW.ra ?_; refine SW.block ?_
  refine SW.loop (α := Nat) (fun k => ⟨[(4, .int .i64 k), (3, .sl 0 0 l.length), (0, .fz (ProcSf l))], [some ⟨1, (ProcSo l).take k ++ List.replicate (l.length - k) ([.nil] : List AV)⟩]⟩) (fun k => k ≤ l.length) (fun k => l.length - k) (0) ?_ ?_ (fun k hx => ?_)
  case' refine_1 =>
   simp
  case' refine_2 =>
   exact Wk.cut (by simp) (by simp [subE]) (by simp [cutH]) (by simp [lowE, lowN]) (by simp [lowEs_rep])
  case' refine_3 =>
   skip
   refine SW.seqK fun K2 hK2 => ?_; refine SW.ra ?_; refine SW.cond _ rfl (by simp) ?_ ?_
   case' refine_1 =>
    intro hb1; have hlt : k < l.length := by simp at hb1; omega
    obtain ⟨x, hxk⟩ : ∃ x, l[k]? = some x := ⟨_, List.getElem?_eq_getElem hlt⟩
    have hxm := List.mem_of_getElem? hxk
    have hz := getS ([.nil] : List AV) (ProcSo l) k (by simpa using hlt)
    have hset := fillS ([.nil] : List AV) (ProcSo l) k x.ow (by simp [hxk])
    simp only [ProcSo_length, Proc.ow] at hz hset; refine SW.skip ?_; refine hK2 _ ?_; refine SW.seqK fun K3 hK3 => ?_; refine SW.block ?_; refine SW.regionE fun K hK => ?_; simp -implicitDefEqProofs [hxk, hz]
    iterate 2 (try refine ⟨by omega, ?_⟩)
    refine CallK.imE (toProc_ok x (hok x hxm)) (by simp) (Proc_oI x) ?_; simp -implicitDefEqProofs [hxk, hz]; repeat refine ⟨by omega, ?_⟩
    refine hK _ ?_; clear hK K; refine hK3 _ ?_; refine SW.ea ?_; refine ⟨k + 1, by omega, by omega, ?_⟩
    exact Wk.foldE (env' := [(4, .int .i64 (k + 1 : Nat)), (3, .sl 0 0 l.length), (0, .fz (ProcSf l))]) (h := [some ⟨1, ((ProcSo l).take k ++ List.replicate (l.length - k) ([.nil] : List AV)).set k [.sl 1 0 x.code.length]⟩]) (p := 0) (i := k) (c := 0) (szB := 1) (sz := 4) (es := ((ProcSo l).take k ++ List.replicate (l.length - k) ([.nil] : List AV)).set k [.sl 1 0 x.code.length]) (esj := InstrS x.code) [.sl 1 0 x.code.length] (by simp) (by simp) (by rw [List.getElem?_set_self (by simp; omega)]) (by simp) (by simp) (by simp) (by simp [subE, wrap1 k (by omega)]) (by simp [lowE, lowN]) (by simp [List.set_set, ← hset]) (by simp [lowEs_set, lowEs_rep])
   intro hb1; have hk : k = l.length := by simp at hb1; omega
   subst hk; refine SW.exit ?_; simp only [Ex.then, Ex.ib]; try simp only [if_true, if_false, reduceIte]
   refine hK1 _ ?_; refine SW.ra ?_; refine SW.ret ?_; simp [Ex.then, Ex.ib, -strN]
   all_goals (try simp)
theorem eqProcS_ok (l : List Proc) (hl0 : l.length ≤ 1048576 ∧ ∀ x ∈ l, x.ok) : Fn Tryz.prog 67 [.fz (ProcSf l), .fz (ProcSf l)] (.bool true) := by
  refine Fn.intro Tryz.func67 (by decide) rfl (rs := [.tmp 4]) rfl Tryz.ntmps67 (by simp) ?_; obtain ⟨hl, hok⟩ := hl0; refine SW.ra ?_; refine SW.seqK fun K1 hK1 => ?_; refine SW.ra ?_; refine SW.cond _ rfl (by simp) ?_ ?_
  case' refine_1 =>
   intro hb1; exfalso; simp at hb1
  intro hb1; refine SW.skip ?_; refine hK1 _ ?_; refine SW.seqK fun K2 hK2 => ?_; refine SW.ra ?_; refine SW.block ?_
  refine SW.loop (α := Nat) (fun k => ⟨[(5, .int .i64 k), (0, .fz (ProcSf l)), (1, .fz (ProcSf l))], []⟩) (fun k => k ≤ l.length) (fun k => l.length - k) (0) ?_ ?_ (fun k hx => ?_)
  case' refine_1 =>
   simp
  case' refine_2 =>
   exact Wk.cut (by simp) (by simp [subE]) (by simp [cutH]) (by simp [lowE, lowN]) (by simp)
  case' refine_3 =>
   skip
   refine SW.seqK fun K3 hK3 => ?_; refine SW.ra ?_; refine SW.cond _ rfl (by simp) ?_ ?_
   case' refine_1 =>
    intro hb2; have hlt : k < l.length := by simp at hb2; omega
    obtain ⟨x, hxk⟩ : ∃ x, l[k]? = some x := ⟨_, List.getElem?_eq_getElem hlt⟩
    have hxm := List.mem_of_getElem? hxk
    refine SW.skip ?_; refine hK3 _ ?_; refine SW.seqK fun K4 hK4 => ?_; refine SW.block ?_
    refine SW.drawK mixed [.q [(0, false), (1, false), (2, false), (3, false), (4, false), (5, false), (6, false), (7, false), (8, false), (9, false)]] (by kernel_rfl) rfl fun K hK => ?_; simp -implicitDefEqProofs [hxk]
    iterate 2 (try refine ⟨by omega, ?_⟩)
    refine CallQ.fz (eqProc_ok x (hok x hxm)) ?_; simp -implicitDefEqProofs [hxk]; repeat refine ⟨by omega, ?_⟩
    refine hK _ ?_; clear hK K; refine SW.cond _ rfl (by simp) ?_ ?_
    case' refine_1 =>
     intro hb3; exfalso; simp at hb3
    intro hb3; refine SW.skip ?_; refine hK4 _ ?_; refine SW.ea ?_; refine ⟨k + 1, by omega, by omega, ?_⟩; exact Wk.cut (by simp) (by simp [subE, wrap1 k (by omega)]) (by simp [cutH]) (by simp [lowE, lowN]) (by simp)
   intro hb2; refine SW.exit ?_; simp only [Ex.then, Ex.ib]; try simp only [if_true, if_false, reduceIte]
   refine hK2 _ ?_; refine SW.ra ?_; refine SW.ret ?_; simp [Ex.then, Ex.ib]
theorem toProg_ok (d : Prog) (h : d.ok) : Fn Tryz.prog 11 [.agg d.fr] (.agg d.ow) := by
  refine Fn.intro Tryz.func11 (by decide) rfl (rs := [.cell 2 46]) rfl Tryz.ntmps11 (by simp) ?_; unfold Prog.ok at h; obtain ⟨b0, b2, c2, b3, c3⟩ := h; refine SW.ra ?_; refine SW.ra ?_; refine SW.rg fun K hK => ?_; simp -implicitDefEqProofs
  iterate 2 (try refine ⟨by omega, ?_⟩)
  refine CallK.imE (toIntS_ok d.caps b0) (by simp) (IntS_okI _) ?_; simp -implicitDefEqProofs; repeat refine ⟨by omega, ?_⟩
  refine hK _ ?_; clear hK K; refine SW.ra ?_; refine SW.rg fun K hK => ?_; simp -implicitDefEqProofs; iterate 2 (try refine ⟨by omega, ?_⟩)
  refine CallK.imE (toSelectS_ok d.sels ⟨b2, c2⟩) (by simp) (SelectSo_okI _) ?_; simp -implicitDefEqProofs; repeat refine ⟨by omega, ?_⟩
  refine hK _ ?_; clear hK K; refine SW.rg fun K hK => ?_; simp -implicitDefEqProofs; iterate 2 (try refine ⟨by omega, ?_⟩)
  refine CallK.imE (toProcS_ok d.procs ⟨b3, c3⟩) (by simp) (ProcSo_okI _) ?_; simp -implicitDefEqProofs; repeat refine ⟨by omega, ?_⟩
  refine hK _ ?_; clear hK K; refine SW.ra ?_; refine SW.ret ?_; simp [Ex.then, Ex.ib, -strN]
  all_goals (try simp)
theorem eqProg_ok (d : Prog) (h : d.ok) : Fn Tryz.prog 16 [.agg d.fr, .agg d.fr] (.bool true) := by
  refine Fn.intro Tryz.func16 (by decide) rfl (rs := [.tmp 4]) rfl Tryz.ntmps16 (by simp) ?_; unfold Prog.ok at h; obtain ⟨b0, b2, c2, b3, c3⟩ := h; refine SW.ra ?_; refine SW.seqK fun K1 hK1 => ?_; refine SW.rg fun K hK => ?_
  simp -implicitDefEqProofs; iterate 2 (try refine ⟨by omega, ?_⟩)
  refine CallK.fz (eqIntS_ok d.caps b0) ?_; simp -implicitDefEqProofs; repeat refine ⟨by omega, ?_⟩
  refine hK _ ?_; clear hK K; refine SW.cond _ rfl (by simp) ?_ ?_
  case' refine_1 =>
   intro hb1; exfalso; simp at hb1
  intro hb1; refine SW.skip ?_; refine hK1 _ ?_; refine SW.seqK fun K2 hK2 => ?_; refine SW.ra ?_; refine SW.cond _ rfl (by simp) ?_ ?_
  case' refine_1 =>
   intro hb2; exfalso; simp at hb2
  intro hb2; refine SW.skip ?_; refine hK2 _ ?_; refine SW.seqK fun K3 hK3 => ?_; refine SW.rg fun K hK => ?_; simp -implicitDefEqProofs; iterate 2 (try refine ⟨by omega, ?_⟩)
  refine CallK.fz (eqSelectS_ok d.sels ⟨b2, c2⟩) ?_; simp -implicitDefEqProofs; repeat refine ⟨by omega, ?_⟩
  refine hK _ ?_; clear hK K; refine SW.cond _ rfl (by simp) ?_ ?_
  case' refine_1 =>
   intro hb3; exfalso; simp at hb3
  intro hb3; refine SW.skip ?_; refine hK3 _ ?_; refine SW.seqK fun K4 hK4 => ?_; refine SW.rg fun K hK => ?_; simp -implicitDefEqProofs; iterate 2 (try refine ⟨by omega, ?_⟩)
  refine CallK.fz (eqProcS_ok d.procs ⟨b3, c3⟩) ?_; simp -implicitDefEqProofs; repeat refine ⟨by omega, ?_⟩
  refine hK _ ?_; clear hK K; refine SW.cond _ rfl (by simp) ?_ ?_
  case' refine_1 =>
   intro hb4; exfalso; simp at hb4
  intro hb4; refine SW.skip ?_; refine hK4 _ ?_; refine SW.ra ?_; refine SW.ret ?_; simp [Ex.then, Ex.ib]
end HT
