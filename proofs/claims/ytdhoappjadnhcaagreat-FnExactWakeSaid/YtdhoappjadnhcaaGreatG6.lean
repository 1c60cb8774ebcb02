import Derived.Test.YtdhoappjadnhcaaGreatG4
import Derived.Test.YtdhoappjadnhcaaGreatG5
/-
  My own texts (road H): HCT5 HCTA.
-/
set_option maxHeartbeats 8000000
set_option linter.unusedSimpArgs false
set_option linter.unusedVariables false
namespace HT
open Go Go.Proofs HK
def trc (l : List Item) : List Item := match l.getLast? with
  | some x => if x.kind == 9 then l.dropLast else l
  | none => l
theorem ItemS_snoc (a : List Item) (x : Item) : ItemS (a ++ [x]) = ItemS a ++ [x.cl] := by simp [ItemS]
theorem ItemS_oc {l : List Item} {x : List AV} {y : AV} (hx : x ∈ ItemS l) (hy : y ∈ x) : oc y = true ∧ plain y = true := by
  obtain ⟨d, _, rfl⟩ := List.mem_map.1 hx; simp at hy; rcases hy with rfl | rfl | rfl | rfl <;> exact ⟨rfl, rfl⟩
theorem ItemS_strM (l : List Item) : ∀ x ∈ ItemS l, ∀ y ∈ x, strN 4 y = true := fun x hx y hy => by
  obtain ⟨d, _, rfl⟩ := List.mem_map.1 hx; simp at hy; rcases hy with rfl | rfl | rfl | rfl <;> rfl
theorem ItemS_sh {l : List Item} (h : ItemS l = []) : l = [] := by simpa [ItemS] using h
theorem cloneI_ok (l : List Item) (hl : l.length ≤ 2 ^ 30) : Fn Tryz.prog 205 [.fz (ItemS l)] (.own 4 (ItemS l)) := by
  refine Fn.intro Tryz.func205 (by decide) rfl (rs := [.tmp 2]) rfl Tryz.ntmps205 (by simp) ?_; refine SW.ra ?_; refine SW.seqK fun K1 hK1 => ?_; refine SW.regionNil fun K hK => ?_; simp [nilK, elemsN, -Bool.forall_bool]; intro b hbn
  refine hK _ ?_; clear hK K; refine SW.cond _ rfl (by simp) ?_ ?_
  case' refine_2 =>
   intro hb1; refine SW.skip ?_; refine hK1 _ ?_; refine SW.rg fun K hK => ?_; simp -implicitDefEqProofs; refine ⟨⟨fun e he => ItemS_len he, fun x hx y hy => ItemS_oc hx hy, by omega⟩, hK _ ?_⟩; clear hK K; refine SW.ret ?_
   simp [Ex.then, Ex.ib, -strN]
   all_goals first | done | rfl | exact ItemS_strM _ | (intro x hx y hy; exact ItemS_strM _ x hx y hy) | skip
  rotate_right
  case' _ =>
   intro hb1; have hb2 : b = true := by simpa using hb1
   have hl0 := ItemS_sh (hbn hb2)
   subst hl0; refine SW.rg fun K hK => ?_; simp -implicitDefEqProofs; refine hK _ (SW.wk (Wk.soft (env' := [(2, .own 4 [])]) (by simp [softE, softV])) ?_); clear hK K; refine SW.ret ?_; simp [Ex.then, Ex.ib, -strN]
   all_goals first | done | rfl | exact ItemS_strM _ | (intro x hx y hy; exact ItemS_strM _ x hx y hy) | skip
theorem within_ok (a b c : Int) : Fn Tryz.prog 58 [.int .i64 a, .int .i64 b, .int .i64 c] (.bool (decide (b ≤ a) && decide (a < c))) := by
  refine Fn.intro Tryz.func58 (by decide) rfl (rs := [.tmp 6]) rfl Tryz.ntmps58 (by simp) ?_; refine SW.ra ?_; refine SW.ra ?_; refine SW.ret ?_; simp [Ex.then, Ex.ib]
end HT
namespace HT
open Go Go.Proofs HK
def valOk (n : Int) : Bool := decide (0 ≤ n) && decide (n ≤ 999)
def wOk (q : Bool) (w : Waiter) : Bool := decide (0 ≤ w.g) && decide (-1 ≤ w.cas) && valOk w.v && (q || decide (w.v = 0))
def chanHead (c : Chan) : Bool := decide (0 ≤ c.cap) && decide (c.cap ≤ 4) && decide ((c.buf.length : Int) ≤ c.cap)
def chanMid (c : Chan) : Bool := decide (0 < c.sends.length) && (decide ((c.buf.length : Int) < c.cap) || decide (0 < c.recvs.length) || c.closed)
def chanTail (c : Chan) : Bool := decide (c.recvs.length = 0) || (decide (c.buf.length = 0) && !c.closed)
def chanOk (c : Chan) : Bool := chanHead c && c.buf.all valOk && c.sends.all (wOk true) && c.recvs.all (wOk false) && !chanMid c && chanTail c
theorem all_false {α : Type} {l : List α} {p : α → Bool} {k : Nat} {x : α} (h : l[k]? = some x) (hx : p x = false) : l.all p = false := by
  rw [List.all_eq_false]; exact ⟨x, List.mem_of_getElem? h, by simp [hx]⟩
theorem all_next {α : Type} {l : List α} {p : α → Bool} {k : Nat} {x : α} (h : l[k]? = some x) (ha : (l.take k).all p = true) (hx : p x = true) : (l.take (k + 1)).all p = true := by
  rw [List.take_add_one, h, List.all_append, ha]; simp [hx]
theorem all_take {α : Type} {l : List α} {p : α → Bool} (h : (l.take l.length).all p = true) : l.all p = true := by rwa [List.take_length] at h
theorem val_s (a : Int) : Fn Tryz.prog 45 [.int .i64 a] (.bool (valOk a)) := by
  refine Fn.intro Tryz.func45 (by decide) rfl (rs := [.tmp 2]) rfl Tryz.ntmps45 (by simp) ?_; refine SW.ra ?_; refine SW.ra ?_; refine SW.ret ?_; simp [Ex.then, Ex.ib]
  all_goals simp [valOk]
theorem val_i (a : Int) : Fn Tryz.prog 57 [.int .i64 a] (.bool (valOk a)) := by
  refine Fn.intro Tryz.func57 (by decide) rfl (rs := [.tmp 2]) rfl Tryz.ntmps57 (by simp) ?_; refine SW.ra ?_; refine SW.ra ?_; refine SW.ret ?_; simp [Ex.then, Ex.ib]
  all_goals simp [valOk]
theorem waiters_s (l : List Waiter) (q : Bool) (hl : l.length ≤ 2 ^ 40) : Fn Tryz.prog 234 [.fz (WaiterS l), .bool q] (.bool (l.all (wOk q))) := by
  refine Fn.intro Tryz.func234 (by decide) rfl (rs := [.tmp 4]) rfl Tryz.ntmps234 (by simp) ?_; refine SW.rc ?_; refine SW.seqK fun K1 hK1 => ?_; refine SW.rc ?_; refine SW.block ?_
  refine SW.loop (α := Nat) (fun k => ⟨[(9, .int .i64 k), (8, .int .i64 l.length), (7, .fz (WaiterS l)), (1, .bool q)], []⟩) (fun k => k ≤ l.length ∧ (l.take k).all (wOk q) = true) (fun k => l.length - k) (0) ?_ ?_ (fun k hx => ?_)
  case' refine_1 =>
   simp
  case' refine_2 =>
   exact Wk.cut (by simp) (by simp [subE]) (by simp [cutH]) (by simp [lowE, lowN]) (by simp)
  case' refine_3 =>
   skip
   refine SW.rc ?_; refine SW.seqK fun K2 hK2 => ?_; refine SW.cond _ rfl (by simp) ?_ ?_
   case' refine_1 =>
    intro hb1; have hlt : k < l.length := by simp at hb1; omega
    obtain ⟨x, hxk⟩ : ∃ x, l[k]? = some x := ⟨_, List.getElem?_eq_getElem hlt⟩
    refine SW.skip ?_; refine hK2 _ ?_; refine SW.seqK fun K3 hK3 => ?_; refine SW.block ?_; refine SW.rg fun K hK => ?_; simp -implicitDefEqProofs [hxk]
    first | refine hK _ ?_ | (refine ⟨?_, hK _ ?_⟩; (first | omega | (clear hK; grind) | (intros; simp_all; done))) | (refine ⟨?_, ?_, hK _ ?_⟩; iterate 2 (first | omega | (clear hK; grind) | (intros; simp_all; done)))
    clear hK K; refine SW.rg fun K hK => ?_; simp -implicitDefEqProofs; iterate 2 (try refine ⟨by omega, ?_⟩)
    refine CallG.fz (by simp) (fun _ => val_s _) ?_; simp -implicitDefEqProofs
    first | refine hK _ ?_ | (refine ⟨?_, hK _ ?_⟩; (first | omega | (clear hK; grind) | (intros; simp_all; done))) | (refine ⟨?_, ?_, hK _ ?_⟩; iterate 2 (first | omega | (clear hK; grind) | (intros; simp_all; done)))
    clear hK K; refine SW.cond _ rfl (by simp) ?_ ?_
    case' refine_1 =>
     intro hb2; have hf : l.all (wOk q) = false := all_false hxk (by cases q <;> cases h9 : wOk _ x <;> first | rfl | (exfalso; simp [wOk, valOk] at h9 hb2; omega))
     refine SW.rc ?_; refine SW.ret ?_; simp [Ex.then, Ex.ib]
     first
       | (simpa using hal)
       | (simpa using hf)
       | fail
    intro hb2; have hf : wOk q x = true := by cases q <;> simp [wOk, valOk] at hb2 ⊢ <;> omega
    refine SW.skip ?_; refine hK3 _ ?_; refine SW.ec ?_; refine ⟨k + 1, ⟨by omega, all_next hxk hx.2 hf⟩, by omega, ?_⟩; exact Wk.cut (by simp) (by simp [subE, wrap1 k (by omega)]) (by simp [cutH]) (by simp [lowE, lowN]) (by simp)
   intro hb1; have hk : k = l.length := by simp at hb1; omega
   subst hk; have hal := all_take hx.2
   refine SW.exit ?_; simp only [Ex.then, Ex.ib]; try simp only [if_true, if_false, reduceIte]
   refine hK1 _ ?_; refine SW.rc ?_; refine SW.ret ?_; simp [Ex.then, Ex.ib]
   first
     | (simpa using hal)
     | (simpa using hf)
     | fail
theorem waiter_i (w : Waiter) : Fn Tryz.prog 203 [.agg w.cl] (.bool (wOk true w)) := by
  refine Fn.intro Tryz.func203 (by decide) rfl (rs := [.tmp 2]) rfl Tryz.ntmps203 (by simp) ?_; refine SW.rc ?_; refine SW.rg fun K hK => ?_; simp -implicitDefEqProofs; iterate 2 (try refine ⟨by omega, ?_⟩)
  refine CallG.fz (by simp) (fun _ => val_i _) ?_; simp -implicitDefEqProofs
  first | refine hK _ ?_ | (refine ⟨?_, hK _ ?_⟩; (first | omega | (clear hK; grind) | (intros; simp_all; done))) | (refine ⟨?_, ?_, hK _ ?_⟩; iterate 2 (first | omega | (clear hK; grind) | (intros; simp_all; done)))
  clear hK K; refine SW.ret ?_; simp [Ex.then, Ex.ib]
  all_goals (simp [wOk]; try (cases decide (0 ≤ w.g) <;> cases decide (-1 ≤ w.cas) <;> simp))
theorem pred_ok (d : Int) : Fn Tryz.prog 202 [.int .i64 d] (.bool (!valOk d)) := by
  refine Fn.intro Tryz.func202 (by decide) rfl (rs := [.tmp 2]) rfl Tryz.ntmps202 (by simp) ?_; refine SW.ra ?_; refine SW.rg fun K hK => ?_; simp -implicitDefEqProofs; iterate 2 (try refine ⟨by omega, ?_⟩)
  refine CallK.fz (val_i _) ?_; simp -implicitDefEqProofs; repeat refine ⟨by omega, ?_⟩
  refine hK _ ?_; clear hK K; refine SW.ret ?_; simp [Ex.then, Ex.ib]
  all_goals simp
def idxV (l : List Int) : Int := if l.all valOk then -1 else ((l.takeWhile valOk).length : Int)
theorem idxV_at {l : List Int} {k : Nat} {x : Int} (ha : (l.take k).all valOk = true) (h : l[k]? = some x) (hx : valOk x = false) : idxV l = k := by
  have hf := all_false h hx
  obtain ⟨hlt, rfl⟩ := List.getElem?_eq_some_iff.1 h; rw [idxV, if_neg (by simp [hf])]
  conv => lhs; rw [← List.take_append_drop k l, List.drop_eq_getElem_cons hlt]
  rw [List.takeWhile_append_of_pos (by simpa using ha), List.takeWhile_cons_of_neg (by simp [hx])]; simp; omega
theorem idxV_nn (l : List Int) : decide (0 ≤ idxV l) = !l.all valOk := by
  unfold idxV; cases h : l.all valOk <;> simp
theorem indexV_ok (l : List Int) (hl : l.length ≤ 2 ^ 40) : Fn Tryz.prog 243 [.fz (IntS l), .fn (.func 202) [] []] (.int .i64 (idxV l)) := by
  refine Fn.intro Tryz.func243 (by decide) rfl (rs := [.tmp 4]) rfl Tryz.ntmps243 (by simp) ?_; refine SW.ra ?_; refine SW.seqK fun K1 hK1 => ?_; refine SW.ra ?_; refine SW.block ?_
  refine SW.loop (α := Nat) (fun k => ⟨[(8, .int .i64 k), (7, .int .i64 l.length), (0, .fz (IntS l)), (1, .fn (.func 202) [] [])], []⟩) (fun k => k ≤ l.length ∧ (l.take k).all valOk = true) (fun k => l.length - k) (0) ?_ ?_ (fun k hx => ?_)
  case' refine_1 =>
   simp
  case' refine_2 =>
   exact Wk.cut (by simp) (by simp [subE]) (by simp [cutH]) (by simp [lowE, lowN]) (by simp)
  case' refine_3 =>
   skip
   refine SW.ra ?_; refine SW.seqK fun K2 hK2 => ?_; refine SW.cond _ rfl (by simp) ?_ ?_
   case' refine_2 =>
    intro hb1; have hk : k = l.length := by simp at hb1; omega
    subst hk; have hid : idxV l = -1 := by rw [idxV, if_pos (all_take hx.2)]
    refine SW.exit ?_; simp only [Ex.then, Ex.ib]; try simp only [if_true, if_false, reduceIte]
    refine hK1 _ ?_; refine SW.ra ?_; refine SW.ret ?_; simp [Ex.then, Ex.ib]; rw [hid]
   rotate_right
   case' _ =>
    intro hb1; have hlt : k < l.length := by simp at hb1; omega
    obtain ⟨x, hxk⟩ : ∃ x, l[k]? = some x := ⟨_, List.getElem?_eq_getElem hlt⟩
    refine SW.skip ?_; refine hK2 _ ?_; refine SW.seqK fun K3 hK3 => ?_; refine SW.block ?_; refine SW.ra ?_; refine SW.rg fun K hK => ?_; simp -implicitDefEqProofs [hxk]; iterate 2 (try refine ⟨by omega, ?_⟩)
    refine CallK.fz (pred_ok x) ?_; simp -implicitDefEqProofs [hxk]; repeat refine ⟨by omega, ?_⟩
    refine hK _ ?_; clear hK K; refine SW.cond _ rfl (by simp) ?_ ?_
    case' refine_2 =>
     intro hb2; have hsx : valOk x = true := by simpa using hb2
     have hnx := all_next hxk hx.2 hsx
     refine SW.skip ?_; refine hK3 _ ?_; refine SW.ea ?_; refine ⟨k + 1, ⟨by omega, hnx⟩, by omega, ?_⟩; exact Wk.cut (by simp) (by simp [subE, wrap1 k (by omega)]) (by simp [cutH]) (by simp [lowE, lowN]) (by simp)
    rotate_right
    case' _ =>
     intro hb2; have hsx : valOk x = false := by simpa using hb2
     have hid := idxV_at hx.2 hxk hsx
     refine SW.ra ?_; refine SW.ret ?_; simp [Ex.then, Ex.ib]; rw [hid]
theorem contV_ok (l : List Int) (hl : l.length ≤ 2 ^ 40) : Fn Tryz.prog 199 [.fz (IntS l), .fn (.func 202) [] []] (.bool (!l.all valOk)) := by
  refine Fn.intro Tryz.func199 (by decide) rfl (rs := [.tmp 4]) rfl Tryz.ntmps199 (by simp) ?_; refine SW.ra ?_; refine SW.rg fun K hK => ?_; simp -implicitDefEqProofs; iterate 2 (try refine ⟨by omega, ?_⟩)
  refine CallK.fzE (indexV_ok l hl) (by simp) ?_; simp -implicitDefEqProofs; repeat refine ⟨by omega, ?_⟩
  refine hK _ ?_; clear hK K; refine SW.ret ?_; simp [Ex.then, Ex.ib]
  all_goals simp [idxV_nn]
end HT
