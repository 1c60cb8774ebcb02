/-
  My own text (road H): HO3.
-/
import Derived.Test.YtjgmcbefeejgjaaHO0
import Derived.Test.YtjgmcbefeejgjaaHK27
set_option linter.unusedSimpArgs false
namespace HO
open Go Go.Proofs HK
theorem mixed : Try.prog.follows .mixedOrders = true := by kernel_rfl
structure Deed where
  g : Int
  op : Int
  obj : Int
  cas : Int
@[simp] def Deed.c (d : Deed) : List AV := [.int .i64 d.g, .int .i64 d.op, .int .i64 d.obj, .int .i64 d.cas]
def DS (l : List Deed) : List (List AV) := l.map Deed.c
@[simp] theorem DS_length (l : List Deed) : (DS l).length = l.length := by simp [DS]
theorem DS_int {l : List Deed} {x : List AV} {y : AV} (hx : x ∈ DS l) (hy : y ∈ x) : ∃ n, y = .int .i64 n := by
  obtain ⟨d, _, rfl⟩ := List.mem_map.1 hx
  simp at hy
  rcases hy with rfl | rfl | rfl | rfl <;> exact ⟨_, rfl⟩
@[simp] theorem DS_get (l : List Deed) (k : Nat) : (DS l)[k]? = (l[k]?).map Deed.c := by simp [DS]

set_option maxHeartbeats 1000000 in
theorem sz_deedS (l : List Deed) (m : Int) : Fn Try.prog 18 [.fz (DS l), .int .i64 m] (.int .i64 (if IntKind.wrap .i64 (m - l.length) < 0 then -1 else IntKind.wrap .i64 (m - l.length))) := by
  refine Fn.intro Try.func18 (by decide) rfl (rs := [.tmp 4]) rfl Try.ntmps18 (by simp) ?_
  refine SW.regionK fun K hK => ?_
  simp
  first | refine hK _ ?_ | refine ⟨by omega, hK _ ?_⟩ | refine ⟨by omega, by omega, hK _ ?_⟩
  clear hK K
  refine SW.regionK fun K hK => ?_
  simp
  first | refine hK _ ?_ | refine ⟨by omega, hK _ ?_⟩ | refine ⟨by omega, by omega, hK _ ?_⟩
  clear hK K
  refine SW.seqK fun K1 hK1 => ?_
  refine SW.regionK fun K hK => ?_
  simp
  first | refine hK _ ?_ | refine ⟨by omega, hK _ ?_⟩ | refine ⟨by omega, by omega, hK _ ?_⟩
  clear hK K
  refine SW.cond _ rfl (by simp) ?_ ?_
  case' refine_2 =>
    intro hb1
    refine SW.skip ?_
    refine hK1 _ ?_
    refine SW.regionK fun K hK => ?_
    simp
    first | refine hK _ ?_ | refine ⟨by omega, hK _ ?_⟩ | refine ⟨by omega, by omega, hK _ ?_⟩
    clear hK K
    refine SW.ret ?_
    simp [Ex.then, Ex.inBlock]
    all_goals simp at *
    all_goals omega
  rotate_right
  case' _ =>
    intro hb1
    refine SW.regionK fun K hK => ?_
    simp
    first | refine hK _ ?_ | refine ⟨by omega, hK _ ?_⟩ | refine ⟨by omega, by omega, hK _ ?_⟩
    clear hK K
    refine SW.ret ?_
    simp [Ex.then, Ex.inBlock]
    all_goals simp at *
    all_goals omega
set_option maxHeartbeats 1000000 in
theorem toDeed_ok (d : Deed) : Fn Try.prog 36 [.agg d.c] (.agg d.c) := by
  refine Fn.intro Try.func36 (by decide) rfl (rs := [.cell 2 62]) rfl Try.ntmps36 (by simp) ?_
  refine SW.regionK fun K hK => ?_
  simp
  first | refine hK _ ?_ | refine ⟨by omega, hK _ ?_⟩ | refine ⟨by omega, by omega, hK _ ?_⟩
  clear hK K
  refine SW.regionK fun K hK => ?_
  simp
  first | refine hK _ ?_ | refine ⟨by omega, hK _ ?_⟩ | refine ⟨by omega, by omega, hK _ ?_⟩
  clear hK K
  refine SW.regionK fun K hK => ?_
  simp
  first | refine hK _ ?_ | refine ⟨by omega, hK _ ?_⟩ | refine ⟨by omega, by omega, hK _ ?_⟩
  clear hK K
  refine SW.regionK fun K hK => ?_
  simp
  first | refine hK _ ?_ | refine ⟨by omega, hK _ ?_⟩ | refine ⟨by omega, by omega, hK _ ?_⟩
  clear hK K
  refine SW.regionK fun K hK => ?_
  simp
  first | refine hK _ ?_ | refine ⟨by omega, hK _ ?_⟩ | refine ⟨by omega, by omega, hK _ ?_⟩
  clear hK K
  refine SW.regionK fun K hK => ?_
  simp
  first | refine hK _ ?_ | refine ⟨by omega, hK _ ?_⟩ | refine ⟨by omega, by omega, hK _ ?_⟩
  clear hK K
  refine SW.regionK fun K hK => ?_
  simp
  first | refine hK _ ?_ | refine ⟨by omega, hK _ ?_⟩ | refine ⟨by omega, by omega, hK _ ?_⟩
  clear hK K
  refine SW.ret ?_
  simp [Ex.then, Ex.inBlock]
end HO
