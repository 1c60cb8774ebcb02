import Derived.Test.YteeefpifkepbpaaEHS1
/-
  My own texts (road H): HS2.
-/
set_option linter.unusedSimpArgs false
namespace HS
open Go Go.Proofs HK
def YS (l : List Int) : List (List AV) := l.map fun b => [.int .u8 b]
theorem YS_int {l : List Int} {x : List AV} {y : AV} (hx : x ∈ YS l) (hy : y ∈ x) : ∃ n, y = .int .u8 n := by
  obtain ⟨d, _, rfl⟩ := List.mem_map.1 hx; simp at hy; exact ⟨_, hy⟩
@[simp] theorem YS_length (l : List Int) : (YS l).length = l.length := by simp [YS]
@[simp] theorem YS_get (l : List Int) (k : Nat) : (YS l)[k]? = (l[k]?).map fun b => [.int .u8 b] := by simp [YS]
@[simp] theorem YS_take (l : List Int) : List.take l.length (YS l) = YS l := by
  have := List.take_length (l := YS l)
  rwa [YS_length] at this
@[simp] theorem YS_view (l : List Int) (h : Heap) (d : Nat) : (YS l).map (List.map (viewN h (d + 1))) = YS l := by
  simp [YS, Function.comp_def]
@[simp] theorem YS_ren (l : List Int) (ids : List Nat) (d : Nat) : (YS l).map (List.map (renN ids (d + 1))) = YS l := by
  simp [YS, Function.comp_def, renN]
@[simp] theorem YS_empty : YS [] = [] := rfl
theorem YS_app (a b : List Int) : YS (a ++ b) = YS a ++ YS b := by simp [YS]
theorem YS_len {l : List Int} {e : List AV} (h : e ∈ YS l) : e.length = 1 := by
  obtain ⟨d, _, rfl⟩ := List.mem_map.1 h; rfl
theorem YS_oc {l : List Int} {x : List AV} {y : AV} (hx : x ∈ YS l) (hy : y ∈ x) : oc y = true ∧ plain y = true := by
  obtain ⟨n, rfl⟩ := YS_int hx hy; exact ⟨rfl, rfl⟩
theorem YS_nil {l : List Int} (h : YS l = []) : l = [] := by simpa [YS] using h
@[simp] theorem YS_low (n : Nat) (l : List Int) : lowEs n (YS l) = true := lowEs_of fun x hx y hy => by obtain ⟨m, rfl⟩ := YS_int hx hy; rfl
@[simp] theorem YS_lowT (n : Nat) (l : List Int) (k : Nat) : lowEs n ((YS l).take k) = true := lowEs_take (YS_low n l) k
theorem YS_okI (l : List Int) : okI (.own 1 (YS l)) = true := by simp
theorem tupB_okI (l : List Int) : okI (.tup [.own 1 (YS l), .bool true]) = true := by simp
@[simp] theorem YS_take2 (a b : List Int) : List.take (a.length + b.length) (YS (a ++ b)) = YS (a ++ b) := by
  rw [← List.length_append]; exact YS_take _
theorem YS_takeN (l : List Int) (k : Nat) : (YS l).take k = YS (l.take k) := by simp [YS, List.map_take]
theorem YS_dropN (l : List Int) (k : Nat) : (YS l).drop k = YS (l.drop k) := by simp [YS, List.map_drop]
set_option maxHeartbeats 1000000 in
theorem clone_ok (l : List Int) (hl : l.length ≤ 2 ^ 30) : Fn Try.prog 88 [.fz (YS l)] (.own 1 (YS l)) := by
  refine Fn.intro Try.func88 (by decide) rfl (rs := [.tmp 2]) rfl Try.ntmps88 (by simp) ?_; refine SW.rg fun K hK => ?_; simp -implicitDefEqProofs; repeat refine ⟨by omega, ?_⟩
  refine hK _ ?_; clear hK K; refine SW.seqK fun K1 hK1 => ?_; refine SW.regionNil fun K hK => ?_; simp [nilK, elemsN, -Bool.forall_bool]; intro b hbn; refine hK _ ?_; clear hK K; refine SW.cond _ rfl (by simp) ?_ ?_
  case' refine_2 =>
   intro hb1; refine SW.skip ?_; refine hK1 _ ?_; refine SW.rg fun K hK => ?_; simp -implicitDefEqProofs; refine ⟨⟨fun e he => YS_len he, fun x hx y hy => YS_oc hx hy, by omega⟩, hK _ ?_⟩; clear hK K; refine SW.ret ?_; simp [Ex.then, Ex.ib]
   all_goals first | done | (intro x hx y hy; obtain ⟨n, rfl⟩ := YS_int hx hy; rfl) | skip
  rotate_right
  case' _ =>
   intro hb1; have hb2 : b = true := by simpa using hb1
   have hl0 := YS_nil (hbn hb2)
   subst hl0; refine SW.rg fun K hK => ?_; simp -implicitDefEqProofs; refine hK _ (SW.wk (Wk.soft (env' := [(2, .own 1 [])]) (by simp [softE, softV])) ?_); clear hK K; refine SW.ret ?_; simp [Ex.then, Ex.ib]
   all_goals first | done | (intro x hx y hy; obtain ⟨n, rfl⟩ := YS_int hx hy; rfl) | skip
set_option maxHeartbeats 1000000 in
theorem cloneD_ok (l : List Deed) (hl : l.length ≤ 2 ^ 30) : Fn Try.prog 61 [.fz (DS l)] (.own 4 (DS l)) := by
  refine Fn.intro Try.func61 (by decide) rfl (rs := [.tmp 2]) rfl Try.ntmps61 (by simp) ?_; refine SW.rg fun K hK => ?_; simp -implicitDefEqProofs; repeat refine ⟨by omega, ?_⟩
  refine hK _ ?_; clear hK K; refine SW.seqK fun K1 hK1 => ?_; refine SW.regionNil fun K hK => ?_; simp [nilK, elemsN, -Bool.forall_bool]; intro b hbn; refine hK _ ?_; clear hK K; refine SW.cond _ rfl (by simp) ?_ ?_
  case' refine_2 =>
   intro hb1; refine SW.skip ?_; refine hK1 _ ?_; refine SW.rg fun K hK => ?_; simp -implicitDefEqProofs; refine ⟨⟨fun e he => DS_len he, fun x hx y hy => DS_oc hx hy, by omega⟩, hK _ ?_⟩; clear hK K; refine SW.ret ?_; simp [Ex.then, Ex.ib]
   all_goals first | done | (intro x hx y hy; obtain ⟨n, rfl⟩ := DS_int hx hy; rfl) | skip
  rotate_right
  case' _ =>
   intro hb1; have hb2 : b = true := by simpa using hb1
   have hl0 := DS_nil (hbn hb2)
   subst hl0; refine SW.rg fun K hK => ?_; simp -implicitDefEqProofs; refine hK _ (SW.wk (Wk.soft (env' := [(2, .own 4 [])]) (by simp [softE, softV])) ?_); clear hK K; refine SW.ret ?_; simp [Ex.then, Ex.ib]
   all_goals first | done | (intro x hx y hy; obtain ⟨n, rfl⟩ := DS_int hx hy; rfl) | skip
def varB (n : Nat) : List Int := if n < 128 then [(n : Int)] else ((n % 128 + 128 : Nat) : Int) :: varB (n / 128)
termination_by n
decreasing_by omega
theorem varB_lt {n : Nat} (h : n < 128) : varB n = [(n : Int)] := by rw [varB, if_pos h]
theorem varB_ge {n : Nat} (h : ¬ n < 128) : varB n = ((n % 128 + 128 : Nat) : Int) :: varB (n / 128) := by rw [varB, if_neg h]
@[simp] theorem YS_one (v : Int) : YS [v] = [[.int .u8 v]] := rfl
theorem w8 (m : Nat) : IntKind.u8.wrap (IntKind.i64.wrap ((m : Int).tmod 128 + 128)) = ((m % 128 + 128 : Nat) : Int) := by
  have e : (m : Int).tmod 128 = ((m % 128 : Nat) : Int) := by rw [Int.tmod_eq_emod_of_nonneg (by omega)]; omega
  rw [e, wrapI _ (by omega) (by omega)]; simp only [IntKind.wrap, IntKind.bits, IntKind.signed]; simp; omega
theorem w8s (m : Nat) (h : m < 128) : IntKind.u8.wrap (m : Int) = m := by
  simp only [IntKind.wrap, IntKind.bits, IntKind.signed]; simp; omega
theorem wq (m : Nat) (h : m ≤ 4294967295) : IntKind.i64.wrap ((m : Int) / 128) = ((m / 128 : Nat) : Int) := by
  rw [wrapI _ (by omega) (by omega)]; omega
def putVar (l : List Int) (n : Int) : AV := if numOk n then .tup [.own 1 (YS (l ++ varB n.toNat)), .bool true] else .tup [.nil, .bool false]
set_option maxHeartbeats 1000000 in
theorem putVar_impl (l : List Int) (n : Int) (hl : l.length ≤ 2 ^ 30) : Fn Try.prog 58 [.fz (YS l), .int .i64 n] (putVar l n) := by
  refine Fn.intro Try.func58 (by decide) rfl (rs := [.tmp 4, .tmp 5]) rfl Try.ntmps58 (by simp) ?_; refine SW.rg fun K hK => ?_; simp -implicitDefEqProofs; repeat refine ⟨by omega, ?_⟩
  refine hK _ ?_; clear hK K; refine SW.seqK fun K1 hK1 => ?_; refine SW.rg fun K hK => ?_; simp -implicitDefEqProofs; iterate 2 (try refine ⟨by omega, ?_⟩)
  refine CallK.fz (num_i _) ?_; simp -implicitDefEqProofs; repeat refine ⟨by omega, ?_⟩
  refine hK _ ?_; clear hK K; refine SW.cond _ rfl (by simp) ?_ ?_
  case' refine_2 =>
   intro hb1; have hn : numOk n = true := by simpa using hb1
   obtain ⟨N, rfl⟩ : ∃ N : Nat, n = N := ⟨n.toNat, by simp [numOk] at hn; omega⟩
   have hN : N ≤ 4294967295 := by simp [numOk] at hn; omega
   refine SW.skip ?_; refine hK1 _ ?_; refine SW.rg fun K hK => ?_; simp -implicitDefEqProofs; iterate 2 (try refine ⟨by omega, ?_⟩)
   refine CallK.im (clone_ok l hl) (YS_okI _) ?_; simp -implicitDefEqProofs; repeat refine ⟨by omega, ?_⟩
   refine hK _ ?_; clear hK K; refine SW.seqK fun K2 hK2 => ?_; refine SW.block ?_
   refine SW.loop (α := List Int × Nat) (fun x => ⟨[(6, .sl 0 0 x.1.length), (1, .int .i64 x.2)], [some ⟨1, YS x.1⟩]⟩) (fun x => l ++ varB N = x.1 ++ varB x.2 ∧ x.2 ≤ 4294967295 ∧ x.1.length + x.2 ≤ l.length + 4294967295) (fun x => x.2) ((l, N)) ?_ ?_ (fun x hx => ?_)
   case' refine_1 =>
    exact ⟨rfl, hN, by simp; omega⟩
   case' refine_2 =>
    exact Wk.cut (by simp) (by simp [subE]) (by simp [cutH]) (by simp [lowE, lowN]) (by simp)
   case' refine_3 =>
    skip
    refine SW.seqK fun K3 hK3 => ?_; refine SW.rg fun K hK => ?_; simp -implicitDefEqProofs; repeat refine ⟨by omega, ?_⟩
    refine hK _ ?_; clear hK K; refine SW.cond _ rfl (by simp) ?_ ?_
    case' refine_2 =>
     intro hb2; have hlt : x.2 < 128 := by simp at hb2; omega
     have hv := w8s x.2 hlt
     have hfin : putVar l N = .tup [.own 1 (YS (x.1 ++ [(x.2 : Int)])), .bool true] := by
       rw [putVar, if_pos hn]; simp [hx.1, varB_lt hlt]
     have htk : List.take (x.1.length + 1) (YS x.1 ++ [[.int .u8 (x.2 : Int)]]) = YS (x.1 ++ [(x.2 : Int)]) := by rw [YS_app]; exact List.take_of_length_le (by simp)
     refine SW.exit ?_; simp only [Ex.then, Ex.ib]; try simp only [if_true, if_false, reduceIte]
     refine hK2 _ ?_; refine SW.rg fun K hK => ?_; simp -implicitDefEqProofs; repeat refine ⟨by omega, ?_⟩
     refine hK _ ?_; clear hK K; refine SW.ret ?_; simp [Ex.then, Ex.ib]
     first
       | (simp [putVar, hn]; done)
       | (rw [hfin, hv, htk]; simp; intro x hx y hy; obtain ⟨n, rfl⟩ := YS_int hx hy; rfl)
    rotate_right
    case' _ =>
     intro hb2; have hge : ¬ x.2 < 128 := by simp at hb2; omega
     have hq := wq x.2 hx.2.1
     have hv := w8 x.2
     refine SW.skip ?_; refine hK3 _ ?_; refine SW.block ?_; refine SW.rg fun K hK => ?_; simp -implicitDefEqProofs; repeat refine ⟨by omega, ?_⟩
     refine hK _ ?_; clear hK K; refine SW.regionE fun K hK => ?_; simp -implicitDefEqProofs; repeat refine ⟨by omega, ?_⟩
     refine hK _ ?_; clear hK K; refine ⟨(x.1 ++ [((x.2 % 128 + 128 : Nat) : Int)], x.2 / 128), ⟨by rw [hx.1, varB_ge hge]; simp, by simp only []; omega, by simp; omega⟩, by simp only []; omega, ?_⟩
     exact Wk.ren [2] (by simp) (by simp) (by simp) (by simp) (by simp [renE, hq]) (by simp [renH, YS_app, hv]) (by simp [lowE, lowN]) (by simp)
  rotate_right
  case' _ =>
   intro hb1; have hn : numOk n = false := by simpa using hb1
   refine SW.rg fun K hK => ?_; simp -implicitDefEqProofs; repeat refine ⟨by omega, ?_⟩
   refine hK _ ?_; clear hK K; refine SW.ret ?_; simp [Ex.then, Ex.ib]
   first
     | (simp [putVar, hn]; done)
     | (rw [hfin, hv, htk]; simp; intro x hx y hy; obtain ⟨n, rfl⟩ := YS_int hx hy; rfl)
theorem putVar_yes {l : List Int} {n : Int} (h : numOk n = true) : putVar l n = .tup [.own 1 (YS (l ++ varB n.toNat)), .bool true] := by rw [putVar, if_pos h]
theorem putVar_no {l : List Int} {n : Int} (h : numOk n = false) : putVar l n = .tup [.nil, .bool false] := by rw [putVar, if_neg (by simp [h])]
theorem putVar_i (l : List Int) (n : Int) (hl : l.length ≤ 2 ^ 30) (h : numOk n = true) : Fn Try.prog 58 [.fz (YS l), .int .i64 n] (.tup [.own 1 (YS (l ++ varB n.toNat)), .bool true]) := by rw [← putVar_yes h]; exact putVar_impl l n hl
theorem putVar_in (l : List Int) (n : Int) (hl : l.length ≤ 2 ^ 30) (h : numOk n = false) : Fn Try.prog 58 [.fz (YS l), .int .i64 n] (.tup [.nil, .bool false]) := by rw [← putVar_no (l := l) h]; exact putVar_impl l n hl
def zig (n : Int) : Int := if 0 ≤ n then 2 * n else -2 * n - 1
def zigOk (n : Int) : Bool := decide (-2147483648 ≤ n) && decide (n ≤ 2147483647)
def putZig (l : List Int) (n : Int) : AV := if zigOk n then .tup [.own 1 (YS (l ++ varB (zig n).toNat)), .bool true] else .tup [.nil, .bool false]
set_option maxHeartbeats 1000000 in
theorem putZig_impl (l : List Int) (n : Int) (hl : l.length ≤ 2 ^ 30) : Fn Try.prog 57 [.fz (YS l), .int .i64 n] (putZig l n) := by
  refine Fn.intro Try.func57 (by decide) rfl (rs := [.tmp 4, .tmp 5]) rfl Try.ntmps57 (by simp) ?_; refine SW.rg fun K hK => ?_; simp -implicitDefEqProofs; repeat refine ⟨by omega, ?_⟩
  refine hK _ ?_; clear hK K; refine SW.seqK fun K1 hK1 => ?_; refine SW.rg fun K hK => ?_; simp -implicitDefEqProofs; repeat refine ⟨by omega, ?_⟩
  refine hK _ ?_; clear hK K; refine SW.cond _ rfl (by simp) ?_ ?_
  case' refine_2 =>
   intro hb1; have hz : zigOk n = true := by simp [zigOk]; simp at hb1; omega
   have hz2 : -2147483648 ≤ n ∧ n ≤ 2147483647 := by simpa [zigOk] using hz
   refine SW.skip ?_; refine hK1 _ ?_; refine SW.seqK fun K2 hK2 => ?_; refine SW.rg fun K hK => ?_; simp -implicitDefEqProofs; repeat refine ⟨by omega, ?_⟩
   refine hK _ ?_; clear hK K; refine SW.cond _ rfl (by simp) ?_ ?_
   case' refine_2 =>
    intro hb2; have hp : ¬ 0 ≤ n := by simp at hb2; omega
    have hw := wrapI (-2 * n) (by omega) (by omega)
    have hw2 := wrapI (-2 * n - 1) (by omega) (by omega)
    have hk : numOk (-2 * n - 1) = true := by simp [numOk]; omega
    have hfin : putZig l n = .tup [.own 1 (YS (l ++ varB (-2 * n - 1).toNat)), .bool true] := by rw [putZig, if_pos hz, zig, if_neg hp]
    refine SW.skip ?_; refine hK2 _ ?_; refine SW.rg fun K hK => ?_; simp -implicitDefEqProofs [hw, hw2]; iterate 2 (try refine ⟨by omega, ?_⟩)
    refine CallK.im (putVar_i l _ hl hk) (tupB_okI _) ?_; simp -implicitDefEqProofs [hw, hw2]; repeat refine ⟨by omega, ?_⟩
    refine hK _ ?_; clear hK K; refine SW.ret ?_; simp [Ex.then, Ex.ib]
    first
      | (simp [putZig, hz]; done)
      | (rw [hfin]; simp; intro x hx y hy; obtain ⟨n, rfl⟩ := YS_int hx hy; rfl)
   rotate_right
   case' _ =>
    intro hb2; have hp : 0 ≤ n := by simpa using hb2
    have hw := wrapI (2 * n) (by omega) (by omega)
    have hk : numOk (2 * n) = true := by simp [numOk]; omega
    have hfin : putZig l n = .tup [.own 1 (YS (l ++ varB (2 * n).toNat)), .bool true] := by rw [putZig, if_pos hz, zig, if_pos hp]
    refine SW.rg fun K hK => ?_; simp -implicitDefEqProofs [hw]; iterate 2 (try refine ⟨by omega, ?_⟩)
    refine CallK.im (putVar_i l _ hl hk) (tupB_okI _) ?_; simp -implicitDefEqProofs [hw]; repeat refine ⟨by omega, ?_⟩
    refine hK _ ?_; clear hK K; refine SW.ret ?_; simp [Ex.then, Ex.ib]
    first
      | (simp [putZig, hz]; done)
      | (rw [hfin]; simp; intro x hx y hy; obtain ⟨n, rfl⟩ := YS_int hx hy; rfl)
  rotate_right
  case' _ =>
   intro hb1; have hz : zigOk n = false := by simp [zigOk]; simp at hb1; omega
   refine SW.rg fun K hK => ?_; simp -implicitDefEqProofs; repeat refine ⟨by omega, ?_⟩
   refine hK _ ?_; clear hK K; refine SW.ret ?_; simp [Ex.then, Ex.ib]
   first
     | (simp [putZig, hz]; done)
     | (rw [hfin]; simp; intro x hx y hy; obtain ⟨n, rfl⟩ := YS_int hx hy; rfl)
def wideOk (n : Int) : Bool := decide (-4294967295 ≤ n) && decide (n ≤ 4294967295)
set_option maxHeartbeats 1000000 in
theorem wide_i (a : Int) : Fn Try.prog 55 [.int .i64 a] (.bool (wideOk a)) := by
  refine Fn.intro Try.func55 (by decide) rfl (rs := [.tmp 2]) rfl Try.ntmps55 (by simp) ?_; refine SW.rg fun K hK => ?_; simp -implicitDefEqProofs; repeat refine ⟨by omega, ?_⟩
  refine hK _ ?_; clear hK K; refine SW.rg fun K hK => ?_; simp -implicitDefEqProofs; repeat refine ⟨by omega, ?_⟩
  refine hK _ ?_; clear hK K; refine SW.ret ?_; simp [Ex.then, Ex.ib]
  all_goals simp [wideOk]
end HS
