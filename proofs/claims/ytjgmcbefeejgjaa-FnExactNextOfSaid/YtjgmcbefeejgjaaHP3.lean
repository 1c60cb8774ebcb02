/-
  My own text (road H): HP3.
-/
import Derived.Test.YtjgmcbefeejgjaaHO7
set_option linter.unusedSimpArgs false
namespace HO
open Go Go.Proofs HK
def BS (l : List Bool) : List (List AV) := l.map fun b => [.bool b]
theorem BS_bool {l : List Bool} {x : List AV} {y : AV} (hx : x ∈ BS l) (hy : y ∈ x) : ∃ n, y = .bool n := by
  obtain ⟨d, _, rfl⟩ := List.mem_map.1 hx
  simp at hy
  exact ⟨_, hy⟩
@[simp] theorem BS_length (l : List Bool) : (BS l).length = l.length := by simp [BS]
@[simp] theorem BS_get (l : List Bool) (k : Nat) : (BS l)[k]? = (l[k]?).map fun b => [.bool b] := by simp [BS]
@[simp] theorem BS_take (l : List Bool) : (BS l).take l.length = BS l := by rw [← BS_length l, List.take_length]
@[simp] theorem BS_view (l : List Bool) (h : Heap) (d : Nat) : (BS l).map (List.map (viewN h (d + 1))) = BS l := by
  simp [BS, Function.comp_def]
/-- The first that is n's and not done, from k on. -/
def nextD (done : List Bool) (n : Int) (d : Deed) (k : Nat) : Bool := d.g == n && !(done.getD k false)
def nextOf (done : List Bool) (n : Int) : Nat → List Deed → Int
  | _, [] => -1
  | k, d :: l => if nextD done n d k then k else nextOf done n (k + 1) l
theorem nextOf_step {done : List Bool} {n : Int} {x : Deed} : ∀ {l : List Deed} {k i : Nat}, l[k]? = some x → nextOf done n (i + k) (l.drop k) = if nextD done n x (i + k) then ((i + k : Nat) : Int) else nextOf done n (i + k + 1) (l.drop (k + 1))
  | [], k, i, h => by simp at h
  | d :: l, 0, i, h => by simp at h; subst h; simp [nextOf]
  | d :: l, k + 1, i, h => by
    have := nextOf_step (done := done) (n := n) (x := x) (l := l) (k := k) (i := i + 1) (by simpa using h)
    simpa [Nat.add_assoc, Nat.add_comm, Nat.add_left_comm] using this
set_option maxHeartbeats 1000000 in
theorem toBoolS_ok (l : List Bool) (hl : l.length ≤ 1048576) : Fn Try.prog 26 [.fz (BS l)] (.own 1 (BS l)) := by
  refine Fn.intro Try.func26 (by decide) rfl (rs := [.tmp 2]) rfl Try.ntmps26 (by simp) ?_
  refine SW.regionK fun K hK => ?_
  simp
  first | refine hK _ ?_ | refine ⟨by omega, hK _ ?_⟩ | refine ⟨by omega, by omega, hK _ ?_⟩
  clear hK K
  refine SW.regionK fun K hK => ?_
  simp
  first | refine hK _ ?_ | refine ⟨by omega, hK _ ?_⟩ | refine ⟨by omega, by omega, hK _ ?_⟩
  clear hK K
  refine SW.seqK fun K1 hK1 => ?_
  refine SW.regionK fun K hK => ?_
  simp
  first | refine hK _ ?_ | refine ⟨by omega, hK _ ?_⟩ | refine ⟨by omega, by omega, hK _ ?_⟩
  clear hK K
  refine SW.block ?_
  refine SW.loop (α := Nat) (fun k => ⟨[(4, .int .i64 k), (3, .sl 0 0 l.length), (0, .fz (BS l))], [some ⟨1, (BS l).take k ++ List.replicate (l.length - k) [.bool false]⟩]⟩) (fun k => k ≤ l.length) (fun k => l.length - k) (0) ?p0 ?w0 (fun k hx => ?body)
  case' p0 =>
    simp
  case' w0 =>
    exact Wk.cut (by simp) (by simp [subE]) (by simp [cutH]) (by simp [lowE, lowN]) (by simp [lowB, lowN])
  case' body =>
    skip
    refine SW.seqK fun K2 hK2 => ?_
    refine SW.regionK fun K hK => ?_
    simp
    first | refine hK _ ?_ | refine ⟨by omega, hK _ ?_⟩ | refine ⟨by omega, by omega, hK _ ?_⟩
    clear hK K
    refine SW.cond _ rfl (by simp) ?_ ?_
    case' refine_2 =>
      intro hb1
      have hk : k = l.length := by simp at hb1; omega
      subst hk
      refine SW.exit ?_
      simp only [Ex.then, Ex.inBlock]
      try simp only [if_true, if_false, reduceIte]
      refine hK1 _ ?_
      refine SW.regionK fun K hK => ?_
      simp
      first | refine hK _ ?_ | refine ⟨by omega, hK _ ?_⟩ | refine ⟨by omega, by omega, hK _ ?_⟩
      clear hK K
      refine SW.ret ?_
      simp [Ex.then, Ex.inBlock]
      intro x hx y hy
      obtain ⟨n, rfl⟩ := BS_bool hx hy
      rfl
    rotate_right
    case' _ =>
      intro hb1
      have hlt : k < l.length := by simpa using hb1
      obtain ⟨x, hxk⟩ : ∃ x, l[k]? = some x := ⟨_, List.getElem?_eq_getElem hlt⟩
      have hz := getS [.bool false] (BS l) k (by simpa using hlt)
      have hset := fillS [.bool false] (BS l) k [.bool x] (by simp [hxk])
      simp only [BS_length] at hz hset
      refine SW.skip ?_
      refine hK2 _ ?_
      refine SW.seqK fun K3 hK3 => ?_
      refine SW.block ?_
      refine SW.regionE fun K hK => ?_
      simp [hxk, hz]
      first | refine hK _ ?_ | refine ⟨by omega, hK _ ?_⟩ | refine ⟨by omega, by omega, hK _ ?_⟩
      clear hK K
      refine hK3 _ ?_
      refine SW.regionE fun K hK => ?_
      simp
      first | refine hK _ ?_ | refine ⟨by omega, hK _ ?_⟩ | refine ⟨by omega, by omega, hK _ ?_⟩
      clear hK K
      refine ⟨k + 1, by omega, by omega, ?_⟩
      exact Wk.cut (by simp) (by simp [subE, wrap1 k (by omega)]) (by simp [cutH, hset]) (by simp [lowE, lowN]) (by simp [lowB, lowN]; intro x hx y hy; obtain ⟨n, rfl⟩ := BS_bool (List.mem_of_mem_take hx) hy; rfl)
set_option maxHeartbeats 1000000 in
theorem eqBoolS_ok (l : List Bool) (hl : l.length ≤ 1048576) : Fn Try.prog 28 [.fz (BS l), .fz (BS l)] (.bool true) := by
  refine Fn.intro Try.func28 (by decide) rfl (rs := [.tmp 4]) rfl Try.ntmps28 (by simp) ?_
  refine SW.regionK fun K hK => ?_
  simp
  first | refine hK _ ?_ | refine ⟨by omega, hK _ ?_⟩ | refine ⟨by omega, by omega, hK _ ?_⟩
  clear hK K
  refine SW.seqK fun K1 hK1 => ?_
  refine SW.regionK fun K hK => ?_
  simp
  first | refine hK _ ?_ | refine ⟨by omega, hK _ ?_⟩ | refine ⟨by omega, by omega, hK _ ?_⟩
  clear hK K
  refine SW.cond _ rfl (by simp) ?_ ?_
  case' refine_2 =>
    intro hb1
    first
    | (exfalso; simp at hb1; done)
    | (
      refine SW.skip ?_
      refine hK1 _ ?_
      refine SW.seqK fun K2 hK2 => ?_
      refine SW.regionK fun K hK => ?_
      simp
      first | refine hK _ ?_ | refine ⟨by omega, hK _ ?_⟩ | refine ⟨by omega, by omega, hK _ ?_⟩
      clear hK K
      refine SW.block ?_
      refine SW.loop (α := Nat) (fun k => ⟨[(5, .int .i64 k), (0, .fz (BS l)), (1, .fz (BS l))], []⟩) (fun k => k ≤ l.length) (fun k => l.length - k) (0) ?p0 ?w0 (fun k hx => ?body)
      case' p0 =>
        simp
      case' w0 =>
        exact Wk.cut (by simp) (by simp [subE]) (by simp [cutH]) (by simp [lowE, lowN]) (by simp)
      case' body =>
        skip
        refine SW.seqK fun K3 hK3 => ?_
        refine SW.regionK fun K hK => ?_
        simp
        first | refine hK _ ?_ | refine ⟨by omega, hK _ ?_⟩ | refine ⟨by omega, by omega, hK _ ?_⟩
        clear hK K
        refine SW.cond _ rfl (by simp) ?_ ?_
        case' refine_2 =>
          intro hb2
          first
          | (exfalso; simp at hb2; done)
          | (
            refine SW.exit ?_
            simp only [Ex.then, Ex.inBlock]
            try simp only [if_true, if_false, reduceIte]
            refine hK2 _ ?_
            refine SW.regionK fun K hK => ?_
            simp
            first | refine hK _ ?_ | refine ⟨by omega, hK _ ?_⟩ | refine ⟨by omega, by omega, hK _ ?_⟩
            clear hK K
            refine SW.ret ?_
            simp [Ex.then, Ex.inBlock])
        rotate_right
        case' _ =>
          intro hb2
          have hlt : k < l.length := by simpa using hb2
          obtain ⟨x, hxk⟩ : ∃ x, l[k]? = some x := ⟨_, List.getElem?_eq_getElem hlt⟩
          first
          | (exfalso; simp at hb2; done)
          | (
            refine SW.skip ?_
            refine hK3 _ ?_
            refine SW.seqK fun K4 hK4 => ?_
            refine SW.block ?_
            refine SW.drawK mixed [.q [(0, false), (1, false), (2, false), (3, false), (4, false), (5, false), (6, false), (7, false), (8, false)]] (by kernel_rfl) rfl fun K hK => ?_
            simp [hxk]
            first | refine hK _ ?_ | refine ⟨by omega, hK _ ?_⟩ | refine ⟨by omega, by omega, hK _ ?_⟩
            clear hK K
            refine SW.cond _ rfl (by simp) ?_ ?_
            case' refine_2 =>
              intro hb3
              first
              | (exfalso; simp at hb3; done)
              | (
                refine SW.skip ?_
                refine hK4 _ ?_
                refine SW.regionE fun K hK => ?_
                simp
                first | refine hK _ ?_ | refine ⟨by omega, hK _ ?_⟩ | refine ⟨by omega, by omega, hK _ ?_⟩
                clear hK K
                refine ⟨k + 1, by omega, by omega, ?_⟩
                exact Wk.cut (by simp) (by simp [subE, wrap1 k (by omega)]) (by simp [cutH]) (by simp [lowE, lowN]) (by simp))
            rotate_right
            case' _ =>
              intro hb3
              first
              | (exfalso; simp at hb3; done)
              | (
                refine SW.regionK fun K hK => ?_
                simp
                first | refine hK _ ?_ | refine ⟨by omega, hK _ ?_⟩ | refine ⟨by omega, by omega, hK _ ?_⟩
                clear hK K
                refine SW.ret ?_
                simp [Ex.then, Ex.inBlock])))
  rotate_right
  case' _ =>
    intro hb1
    first
    | (exfalso; simp at hb1; done)
    | (
      refine SW.regionK fun K hK => ?_
      simp
      first | refine hK _ ?_ | refine ⟨by omega, hK _ ?_⟩ | refine ⟨by omega, by omega, hK _ ?_⟩
      clear hK K
      refine SW.ret ?_
      simp [Ex.then, Ex.inBlock])
end HO
