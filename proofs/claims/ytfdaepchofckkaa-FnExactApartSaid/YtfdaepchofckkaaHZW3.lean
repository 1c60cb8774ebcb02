import Derived.Test.YtfdaepchofckkaaG10
import Derived.Test.YtfdaepchofckkaaG13
import Derived.Test.YtfdaepchofckkaaG5
/-
  My own texts (road H): HZW3.
-/
set_option linter.unusedSimpArgs false
set_option linter.unusedVariables false
namespace HT
open Go Go.Proofs HK
set_option maxHeartbeats 1000000 in
theorem eqDeed_ok (a : Deed) : Fn Try.prog 28 [.agg a.cl, .agg a.cl] (.bool true) := by
  refine Fn.intro Try.func28 (by decide) rfl (rs := [.tmp 4]) rfl Try.ntmps28 (by simp) ?_
  refine SW.regionK fun K hK => ?_
  simp -implicitDefEqProofs
  repeat refine ⟨by omega, ?_⟩
  refine hK _ ?_
  clear hK K
  refine SW.seqK fun K1 hK1 => ?_
  refine SW.regionK fun K hK => ?_
  simp -implicitDefEqProofs
  repeat refine ⟨by omega, ?_⟩
  refine hK _ ?_
  clear hK K
  refine SW.cond _ rfl (by simp) ?_ ?_
  case' refine_2 =>
   intro hb1
   first
   | (exfalso; simp at hb1; done)
   | (exfalso; simp at hb1; omega)
   | (
    refine SW.skip ?_
    refine hK1 _ ?_
    refine SW.seqK fun K2 hK2 => ?_
    refine SW.regionK fun K hK => ?_
    simp -implicitDefEqProofs
    repeat refine ⟨by omega, ?_⟩
    refine hK _ ?_
    clear hK K
    refine SW.cond _ rfl (by simp) ?_ ?_
    case' refine_2 =>
     intro hb2
     first
     | (exfalso; simp at hb2; done)
     | (exfalso; simp at hb2; omega)
     | (
      refine SW.skip ?_
      refine hK2 _ ?_
      refine SW.seqK fun K3 hK3 => ?_
      refine SW.regionK fun K hK => ?_
      simp -implicitDefEqProofs
      repeat refine ⟨by omega, ?_⟩
      refine hK _ ?_
      clear hK K
      refine SW.cond _ rfl (by simp) ?_ ?_
      case' refine_2 =>
       intro hb3
       first
       | (exfalso; simp at hb3; done)
       | (exfalso; simp at hb3; omega)
       | (
        refine SW.skip ?_
        refine hK3 _ ?_
        refine SW.seqK fun K4 hK4 => ?_
        refine SW.regionK fun K hK => ?_
        simp -implicitDefEqProofs
        repeat refine ⟨by omega, ?_⟩
        refine hK _ ?_
        clear hK K
        refine SW.cond _ rfl (by simp) ?_ ?_
        case' refine_2 =>
         intro hb4
         first
         | (exfalso; simp at hb4; done)
         | (exfalso; simp at hb4; omega)
         | (
          refine SW.skip ?_
          refine hK4 _ ?_
          refine SW.regionK fun K hK => ?_
          simp -implicitDefEqProofs
          repeat refine ⟨by omega, ?_⟩
          refine hK _ ?_
          clear hK K
          refine SW.ret ?_
          simp [Ex.then, Ex.inBlock]
          all_goals simp_all)
        rotate_right
        case' _ =>
         intro hb4
         first
         | (exfalso; simp at hb4; done)
         | (exfalso; simp at hb4; omega)
         | (
          refine SW.regionK fun K hK => ?_
          simp -implicitDefEqProofs
          repeat refine ⟨by omega, ?_⟩
          refine hK _ ?_
          clear hK K
          refine SW.ret ?_
          simp [Ex.then, Ex.inBlock]
          all_goals simp_all))
      rotate_right
      case' _ =>
       intro hb3
       first
       | (exfalso; simp at hb3; done)
       | (exfalso; simp at hb3; omega)
       | (
        refine SW.regionK fun K hK => ?_
        simp -implicitDefEqProofs
        repeat refine ⟨by omega, ?_⟩
        refine hK _ ?_
        clear hK K
        refine SW.ret ?_
        simp [Ex.then, Ex.inBlock]
        all_goals simp_all))
    rotate_right
    case' _ =>
     intro hb2
     first
     | (exfalso; simp at hb2; done)
     | (exfalso; simp at hb2; omega)
     | (
      refine SW.regionK fun K hK => ?_
      simp -implicitDefEqProofs
      repeat refine ⟨by omega, ?_⟩
      refine hK _ ?_
      clear hK K
      refine SW.ret ?_
      simp [Ex.then, Ex.inBlock]
      all_goals simp_all))
  rotate_right
  case' _ =>
   intro hb1
   first
   | (exfalso; simp at hb1; done)
   | (exfalso; simp at hb1; omega)
   | (
    refine SW.regionK fun K hK => ?_
    simp -implicitDefEqProofs
    repeat refine ⟨by omega, ?_⟩
    refine hK _ ?_
    clear hK K
    refine SW.ret ?_
    simp [Ex.then, Ex.inBlock]
    all_goals simp_all)
set_option maxHeartbeats 1000000 in
theorem toDeedS_ok (l : List Deed) (hl : l.length ≤ 1048576) : Fn Try.prog 8 [.fz (DeedS l)] (.own 4 (DeedS l)) := by
  refine Fn.intro Try.func8 (by decide) rfl (rs := [.tmp 2]) rfl Try.ntmps8 (by simp) ?_
  refine SW.regionK fun K hK => ?_
  simp -implicitDefEqProofs
  repeat refine ⟨by omega, ?_⟩
  refine hK _ ?_
  clear hK K
  refine SW.regionK fun K hK => ?_
  simp -implicitDefEqProofs
  repeat refine ⟨by omega, ?_⟩
  refine hK _ ?_
  clear hK K
  refine SW.seqK fun K1 hK1 => ?_
  refine SW.regionK fun K hK => ?_
  simp -implicitDefEqProofs
  repeat refine ⟨by omega, ?_⟩
  refine hK _ ?_
  clear hK K
  refine SW.block ?_
  refine SW.loop (α := Nat) (fun k => ⟨[(4, .int .i64 k), (3, .sl 0 0 l.length), (0, .fz (DeedS l))], [some ⟨4, (DeedS l).take k ++ List.replicate (l.length - k) ([.int .i64 0, .int .i64 0, .int .i64 0, .int .i64 0] : List AV)⟩]⟩) (fun k => k ≤ l.length) (fun k => l.length - k) (0) ?_ ?_ (fun k hx => ?_)
  case' refine_1 =>
   simp
  case' refine_2 =>
   exact Wk.cut (by simp) (by simp [subE]) (by simp [cutH]) (by simp [lowE, lowN]) (by simp [lowEs_rep])
  case' refine_3 =>
   skip
   refine SW.seqK fun K2 hK2 => ?_
   refine SW.regionK fun K hK => ?_
   simp -implicitDefEqProofs
   repeat refine ⟨by omega, ?_⟩
   refine hK _ ?_
   clear hK K
   refine SW.cond _ rfl (by simp) ?_ ?_
   case' refine_2 =>
    intro hb1
    have hk : k = l.length := by simp at hb1; omega
    subst hk
    refine SW.exit ?_
    simp only [Ex.then, Ex.inBlock]
    try simp only [if_true, if_false, reduceIte]
    refine hK1 _ ?_
    refine SW.regionK fun K hK => ?_
    simp -implicitDefEqProofs
    repeat refine ⟨by omega, ?_⟩
    refine hK _ ?_
    clear hK K
    refine SW.ret ?_
    simp [Ex.then, Ex.inBlock, -strN]
    all_goals (try simp)
   rotate_right
   case' _ =>
    intro hb1
    have hlt : k < l.length := by simp at hb1; omega
    obtain ⟨x, hxk⟩ : ∃ x, l[k]? = some x := ⟨_, List.getElem?_eq_getElem hlt⟩
    have hxm := List.mem_of_getElem? hxk
    have hz := getS ([.int .i64 0, .int .i64 0, .int .i64 0, .int .i64 0] : List AV) (DeedS l) k (by simpa using hlt)
    have hset := fillS ([.int .i64 0, .int .i64 0, .int .i64 0, .int .i64 0] : List AV) (DeedS l) k x.cl (by simp [hxk])
    simp only [DeedS_length, Deed.cl] at hz hset
    refine SW.skip ?_
    refine hK2 _ ?_
    refine SW.seqK fun K3 hK3 => ?_
    refine SW.block ?_
    refine SW.regionE fun K hK => ?_
    simp -implicitDefEqProofs [hxk, hz]
    first | refine ⟨by omega, by omega, ?_⟩ | refine ⟨by omega, ?_⟩ | skip
    refine CallK.fz (toDeed_ok _) ?_
    simp -implicitDefEqProofs [hxk, hz]
    repeat refine ⟨by omega, ?_⟩
    refine hK _ ?_
    clear hK K
    refine hK3 _ ?_
    refine SW.regionE fun K hK => ?_
    simp -implicitDefEqProofs
    repeat refine ⟨by omega, ?_⟩
    refine hK _ ?_
    clear hK K
    refine ⟨k + 1, by omega, by omega, ?_⟩
    exact Wk.cut (by simp) (by simp [subE, wrap1 k (by omega)]) (by simp [cutH, hset]) (by simp [lowE, lowN]) (by simp [lowEs_rep])
set_option maxHeartbeats 1000000 in
theorem eqDeedS_ok (l : List Deed) (hl : l.length ≤ 1048576) : Fn Try.prog 11 [.fz (DeedS l), .fz (DeedS l)] (.bool true) := by
  refine Fn.intro Try.func11 (by decide) rfl (rs := [.tmp 4]) rfl Try.ntmps11 (by simp) ?_
  refine SW.regionK fun K hK => ?_
  simp -implicitDefEqProofs
  repeat refine ⟨by omega, ?_⟩
  refine hK _ ?_
  clear hK K
  refine SW.seqK fun K1 hK1 => ?_
  refine SW.regionK fun K hK => ?_
  simp -implicitDefEqProofs
  repeat refine ⟨by omega, ?_⟩
  refine hK _ ?_
  clear hK K
  refine SW.cond _ rfl (by simp) ?_ ?_
  case' refine_2 =>
   intro hb1
   first
   | (exfalso; simp at hb1; done)
   | (exfalso; simp at hb1; omega)
   | (
    refine SW.skip ?_
    refine hK1 _ ?_
    refine SW.seqK fun K2 hK2 => ?_
    refine SW.regionK fun K hK => ?_
    simp -implicitDefEqProofs
    repeat refine ⟨by omega, ?_⟩
    refine hK _ ?_
    clear hK K
    refine SW.block ?_
    refine SW.loop (α := Nat) (fun k => ⟨[(5, .int .i64 k), (0, .fz (DeedS l)), (1, .fz (DeedS l))], []⟩) (fun k => k ≤ l.length) (fun k => l.length - k) (0) ?_ ?_ (fun k hx => ?_)
    case' refine_1 =>
     simp
    case' refine_2 =>
     exact Wk.cut (by simp) (by simp [subE]) (by simp [cutH]) (by simp [lowE, lowN]) (by simp)
    case' refine_3 =>
     skip
     refine SW.seqK fun K3 hK3 => ?_
     refine SW.regionK fun K hK => ?_
     simp -implicitDefEqProofs
     repeat refine ⟨by omega, ?_⟩
     refine hK _ ?_
     clear hK K
     refine SW.cond _ rfl (by simp) ?_ ?_
     case' refine_2 =>
      intro hb2
      first
      | (exfalso; simp at hb2; done)
      | (exfalso; simp at hb2; omega)
      | (
       refine SW.exit ?_
       simp only [Ex.then, Ex.inBlock]
       try simp only [if_true, if_false, reduceIte]
       refine hK2 _ ?_
       refine SW.regionK fun K hK => ?_
       simp -implicitDefEqProofs
       repeat refine ⟨by omega, ?_⟩
       refine hK _ ?_
       clear hK K
       refine SW.ret ?_
       simp [Ex.then, Ex.inBlock])
     rotate_right
     case' _ =>
      intro hb2
      have hlt : k < l.length := by simp at hb2; omega
      obtain ⟨x, hxk⟩ : ∃ x, l[k]? = some x := ⟨_, List.getElem?_eq_getElem hlt⟩
      have hxm := List.mem_of_getElem? hxk
      first
      | (exfalso; simp at hb2; done)
      | (exfalso; simp at hb2; omega)
      | (
       refine SW.skip ?_
       refine hK3 _ ?_
       refine SW.seqK fun K4 hK4 => ?_
       refine SW.block ?_
       refine SW.drawK mixed [.q [(0, false), (1, false), (2, false), (3, false), (4, false), (5, false), (6, false), (7, false), (8, false), (9, false)]] (by kernel_rfl) rfl fun K hK => ?_
       simp -implicitDefEqProofs [hxk]
       first | refine ⟨by omega, by omega, ?_⟩ | refine ⟨by omega, ?_⟩ | skip
       refine CallQ.fz (eqDeed_ok x) ?_
       simp -implicitDefEqProofs [hxk]
       repeat refine ⟨by omega, ?_⟩
       refine hK _ ?_
       clear hK K
       refine SW.cond _ rfl (by simp) ?_ ?_
       case' refine_2 =>
        intro hb3
        first
        | (exfalso; simp at hb3; done)
        | (exfalso; simp at hb3; omega)
        | (
         refine SW.skip ?_
         refine hK4 _ ?_
         refine SW.regionE fun K hK => ?_
         simp -implicitDefEqProofs
         repeat refine ⟨by omega, ?_⟩
         refine hK _ ?_
         clear hK K
         refine ⟨k + 1, by omega, by omega, ?_⟩
         exact Wk.cut (by simp) (by simp [subE, wrap1 k (by omega)]) (by simp [cutH]) (by simp [lowE, lowN]) (by simp))
       rotate_right
       case' _ =>
        intro hb3
        first
        | (exfalso; simp at hb3; done)
        | (exfalso; simp at hb3; omega)
        | (
         refine SW.regionK fun K hK => ?_
         simp -implicitDefEqProofs
         repeat refine ⟨by omega, ?_⟩
         refine hK _ ?_
         clear hK K
         refine SW.ret ?_
         simp [Ex.then, Ex.inBlock])))
  rotate_right
  case' _ =>
   intro hb1
   first
   | (exfalso; simp at hb1; done)
   | (exfalso; simp at hb1; omega)
   | (
    refine SW.regionK fun K hK => ?_
    simp -implicitDefEqProofs
    repeat refine ⟨by omega, ?_⟩
    refine hK _ ?_
    clear hK K
    refine SW.ret ?_
    simp [Ex.then, Ex.inBlock])
set_option maxHeartbeats 1000000 in
theorem szDeedS_ok (l : List Deed) (m : Int) (h : l.length ≤ maxLen) (h0 : 0 ≤ m) (h1 : m ≤ 1048576) : Fn Try.prog 5 [.fz (DeedS l), .int .i64 m] (.int .i64 (szR l.length m)) := by
  refine Fn.intro Try.func5 (by decide) rfl (rs := [.tmp 4]) rfl Try.ntmps5 (by simp) ?_
  have hm9 : l.length ≤ 2 ^ 63 - 1 := h
  have hw := wrapI (m - (l.length : Int)) (by omega) (by omega)
  have qq := szR_cases l.length m
  refine SW.regionK fun K hK => ?_
  simp -implicitDefEqProofs
  repeat refine ⟨by omega, ?_⟩
  refine hK _ ?_
  clear hK K
  refine SW.regionK fun K hK => ?_
  simp -implicitDefEqProofs [hw]
  repeat refine ⟨by omega, ?_⟩
  refine hK _ ?_
  clear hK K
  refine SW.seqK fun K1 hK1 => ?_
  refine SW.regionK fun K hK => ?_
  simp -implicitDefEqProofs
  repeat refine ⟨by omega, ?_⟩
  refine hK _ ?_
  clear hK K
  refine SW.cond _ rfl (by simp) ?_ ?_
  case' refine_2 =>
   intro hb1
   first
   | (exfalso; simp at hb1; done)
   | (exfalso; simp at hb1; omega)
   | (
    refine SW.skip ?_
    refine hK1 _ ?_
    refine SW.regionK fun K hK => ?_
    simp -implicitDefEqProofs
    repeat refine ⟨by omega, ?_⟩
    refine hK _ ?_
    clear hK K
    refine SW.ret ?_
    simp [Ex.then, Ex.inBlock]
    all_goals (simp at *)
    all_goals omega)
  rotate_right
  case' _ =>
   intro hb1
   first
   | (exfalso; simp at hb1; done)
   | (exfalso; simp at hb1; omega)
   | (
    refine SW.regionK fun K hK => ?_
    simp -implicitDefEqProofs
    repeat refine ⟨by omega, ?_⟩
    refine hK _ ?_
    clear hK K
    refine SW.ret ?_
    simp [Ex.then, Ex.inBlock]
    all_goals (simp at *)
    all_goals omega)
def mkDeed1 (s : Int) : Deed := ⟨s, s + 1, s + 1 + 1, s + 1 + 1 + 1⟩
abbrev mkDeed (s : Int) (k : Nat) : List Deed := mkL mkDeed1 4 s k
theorem DeedS_setL (l : List Deed) (k : Nat) (x : Deed) : (DeedS l).set k (Deed.cl x) = DeedS (l.set k x) := by
  simp [DeedS, List.map_set]
theorem DeedS_nfz (n : Nat) (l : List Deed) : nfzB n (some ⟨4, DeedS l⟩) = true := by
  simp [nfzB, DeedS, nfz_int, nfz_bool]
@[simp] theorem DeedS_renB (ids : List Nat) (l : List Deed) : renB ids (some ⟨4, DeedS l⟩) = some ⟨4, DeedS l⟩ := by
  simp [renB]
@[simp] theorem mkDeed_take (s : Int) (k : Nat) : List.take k (DeedS (mkDeed s k)) = DeedS (mkDeed s k) := List.take_of_length_le (by simp)
theorem rdDeed : Reads Try.prog 53 Deed.cl (fun _ => True) :=
  (Reads.struct (l := [(3, 0), (3, 1), (3, 2), (3, 3)]) (tot := 4) (by kernel_rfl) (ReadsF.cons 1 (by kernel_rfl) rdInt (ReadsF.cons 1 (by kernel_rfl) rdInt (ReadsF.cons 1 (by kernel_rfl) rdInt (ReadsF.cons 1 (by kernel_rfl) rdInt ReadsF.nil))))).map
    (fun x => ⟨x.1, x.2.1, x.2.2.1, x.2.2.2.1⟩) (by intro _; rfl) (fun _ _ => trivial)
theorem rdDeedS : Reads Try.prog 27 (fun l : List Deed => [.fz (DeedS l)]) (fun l => l.length ≤ maxLen) :=
  (Reads.slice (e := 53) (by kernel_rfl) rdDeed (Nat.lt_of_lt_of_eq (m := 4) (by omega) (by kernel_rfl))).map id (by intro _; rfl) (fun _ h => h.2)
end HT
