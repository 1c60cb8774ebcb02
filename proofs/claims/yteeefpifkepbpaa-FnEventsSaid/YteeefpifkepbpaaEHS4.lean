import Derived.Test.YteeefpifkepbpaaEHS3
/-
  My own texts (road H): HS4.
-/
set_option linter.unusedSimpArgs false
namespace HS
open Go Go.Proofs HK
theorem varB_len : ∀ (k n : Nat), n < 128 ^ (k + 1) → (varB n).length ≤ k + 1
  | 0, n, h => by rw [varB_lt (by simpa using h)]; simp
  | k + 1, n, h => by
    by_cases hn : n < 128
    · rw [varB_lt hn]; simp
    · rw [varB_ge hn, List.length_cons]
      have := varB_len k (n / 128) (by rw [Nat.div_lt_iff_lt_mul (by omega)]; rw [Nat.pow_succ] at h; exact h)
      omega
theorem varB_len5 {n : Int} (h : numOk n = true) : (varB n.toNat).length ≤ 5 := varB_len 4 _ (by simp [numOk] at h; omega)
def IS (l : List Int) : List (List AV) := l.map fun b => [.int .i64 b]
theorem IS_int {l : List Int} {x : List AV} {y : AV} (hx : x ∈ IS l) (hy : y ∈ x) : ∃ n, y = .int .i64 n := by
  obtain ⟨d, _, rfl⟩ := List.mem_map.1 hx; simp at hy; exact ⟨_, hy⟩
@[simp] theorem IS_length (l : List Int) : (IS l).length = l.length := by simp [IS]
@[simp] theorem IS_get (l : List Int) (k : Nat) : (IS l)[k]? = (l[k]?).map fun b => [.int .i64 b] := by simp [IS]
@[simp] theorem IS_take (l : List Int) : List.take l.length (IS l) = IS l := by
  have := List.take_length (l := IS l)
  rwa [IS_length] at this
@[simp] theorem IS_view (l : List Int) (h : Heap) (d : Nat) : (IS l).map (List.map (viewN h (d + 1))) = IS l := by
  simp [IS, Function.comp_def]
@[simp] theorem IS_ren (l : List Int) (ids : List Nat) (d : Nat) : (IS l).map (List.map (renN ids (d + 1))) = IS l := by
  simp [IS, Function.comp_def, renN]
@[simp] theorem IS_low (n : Nat) (l : List Int) : lowEs n (IS l) = true := lowEs_of fun x hx y hy => by obtain ⟨m, rfl⟩ := IS_int hx hy; rfl
def nsOf (d : Deed) : List Int := [d.op - 8, d.obj + 1, d.cas + 3]
@[simp] theorem nsOf_len (d : Deed) : (nsOf d).length = 3 := rfl
theorem nsOf_IS (d : Deed) : IS (nsOf d) = [[.int .i64 (d.op - 8)], [.int .i64 (d.obj + 1)], [.int .i64 (d.cas + 3)]] := rfl
def headOk (last : Int) (d : Deed) : Bool := wideOk d.g && wideOk last && zigOk (d.g - last) && numOk d.op
def packOk (last : Int) (d : Deed) : Bool := headOk last d && (nsOf d).all numOk
def packPre (l : List Int) (last : Int) (d : Deed) (k : Nat) : List Int := l ++ varB (zig (d.g - last)).toNat ++ ((nsOf d).take k).flatMap fun n => varB n.toNat
def packB (last : Int) (d : Deed) : List Int := varB (zig (d.g - last)).toNat ++ (nsOf d).flatMap fun n => varB n.toNat
theorem packPre_all (l : List Int) (last : Int) (d : Deed) : packPre l last d 3 = l ++ packB last d := by
  simp [packPre, packB, nsOf]
theorem packPre_zero (l : List Int) (last : Int) (d : Deed) : packPre l last d 0 = l ++ varB (zig (d.g - last)).toNat := by
  simp [packPre]
theorem packPre_succ {l : List Int} {last : Int} {d : Deed} {k : Nat} {n : Int} (h : (nsOf d)[k]? = some n) : packPre l last d (k + 1) = packPre l last d k ++ varB n.toNat := by
  simp [packPre, List.take_add_one, h]
def packEv (l : List Int) (last : Int) (d : Deed) : AV := if packOk last d then .tup [.own 1 (YS (l ++ packB last d)), .bool true] else .tup [.nil, .bool false]
theorem zig_ok {n : Int} (h : zigOk n = true) : numOk (zig n) = true := by
  simp [zigOk] at h; unfold zig; split <;> simp [numOk] <;> omega
theorem putZig_yes {l : List Int} {n : Int} (h : zigOk n = true) : putZig l n = .tup [.own 1 (YS (l ++ varB (zig n).toNat)), .bool true] := by rw [putZig, if_pos h]
theorem putZig_no {l : List Int} {n : Int} (h : zigOk n = false) : putZig l n = .tup [.nil, .bool false] := by rw [putZig, if_neg (by simp [h])]
theorem putZig_iy (l : List Int) (n : Int) (hl : l.length ≤ 2 ^ 30) (h : zigOk n = true) : Fn Try.prog 57 [.fz (YS l), .int .i64 n] (.tup [.own 1 (YS (l ++ varB (zig n).toNat)), .bool true]) := by rw [← putZig_yes h]; exact putZig_impl l n hl
theorem putZig_in (l : List Int) (n : Int) (hl : l.length ≤ 2 ^ 30) (h : zigOk n = false) : Fn Try.prog 57 [.fz (YS l), .int .i64 n] (.tup [.nil, .bool false]) := by rw [← putZig_no (l := l) h]; exact putZig_impl l n hl
theorem packPre_len {l : List Int} {last : Int} {d : Deed} (hz : zigOk (d.g - last) = true) : ∀ (k : Nat), k ≤ 3 → ((nsOf d).take k).all numOk = true → (packPre l last d k).length ≤ l.length + 5 + 5 * k
  | 0, _, _ => by
    have := varB_len5 (zig_ok hz)
    simp [packPre]; omega
  | k + 1, hk, ha => by
    obtain ⟨n, hn⟩ : ∃ n, (nsOf d)[k]? = some n := ⟨_, List.getElem?_eq_getElem (by simp; omega)⟩
    rw [List.take_add_one, hn, List.all_append] at ha; simp only [Bool.and_eq_true] at ha; have h1 := packPre_len (l := l) hz k (by omega) ha.1
    have h2 := varB_len5 (n := n) (by simpa using ha.2)
    rw [packPre_succ hn, List.length_append]; omega
theorem all_step {d : Deed} {k : Nat} {n : Int} (hn : (nsOf d)[k]? = some n) (ha : ((nsOf d).take k).all numOk = true) (h : numOk n = true) : ((nsOf d).take (k + 1)).all numOk = true := by
  rw [List.take_add_one, hn, List.all_append, ha]; simp [h]
theorem pack_bad {last : Int} {d : Deed} {k : Nat} {n : Int} (hn : (nsOf d)[k]? = some n) (h : numOk n = false) : packOk last d = false := by
  have : (nsOf d).all numOk = false := by rw [List.all_eq_false]; exact ⟨n, List.mem_of_getElem? hn, by simp [h]⟩
  simp [packOk, this]
theorem pack_badz {last : Int} {d : Deed} (h : zigOk (d.g - last) = false) : packOk last d = false := by simp [packOk, headOk, h]
theorem pack_good {last : Int} {d : Deed} (h1 : headOk last d = true) (ha : ((nsOf d).take 3).all numOk = true) : packOk last d = true := by
  rw [List.take_of_length_le (by simp)] at ha; simp [packOk, h1, ha]
set_option maxHeartbeats 1000000 in
theorem packEvent_impl (l : List Int) (last : Int) (d : Deed) (hl : l.length ≤ 2 ^ 29) : Fn Try.prog 17 [.fz (YS l), .int .i64 last, .agg d.c] (packEv l last d) := by
  refine Fn.intro Try.func17 (by decide) rfl (rs := [.tmp 6, .tmp 7]) rfl Try.ntmps17 (by simp) ?_; refine SW.rg fun K hK => ?_; simp -implicitDefEqProofs; repeat refine ⟨by omega, ?_⟩
  refine hK _ ?_; clear hK K; refine SW.seqK fun K1 hK1 => ?_; refine SW.rg fun K hK => ?_; simp -implicitDefEqProofs; iterate 2 (try refine ⟨by omega, ?_⟩)
  refine CallK.fz (wide_i _) ?_; simp -implicitDefEqProofs; iterate 2 (try refine ⟨by omega, ?_⟩)
  refine CallG.fz (by simp) (fun _ => wide_i _) ?_; simp -implicitDefEqProofs; iterate 2 (try refine ⟨by omega, ?_⟩)
  refine CallG.fz (by simp) (fun _ => num_i _) ?_; simp -implicitDefEqProofs; repeat refine ⟨by omega, ?_⟩
  refine hK _ ?_; clear hK K; refine SW.cond _ rfl (by simp) ?_ ?_
  case' refine_2 =>
   intro hb1; have hr : -4294967295 ≤ d.g ∧ d.g ≤ 4294967295 ∧ -4294967295 ≤ last ∧ last ≤ 4294967295 ∧ 0 ≤ d.op ∧ d.op ≤ 4294967295 ∧ -1 ≤ d.obj ∧ d.obj ≤ 4294967295 ∧ -3 ≤ d.cas ∧ d.cas ≤ 4294967295 := by simp [wideOk, numOk] at hb1; omega
   have hw0 := wrapI (d.g - last) (by omega) (by omega)
   have hw1 := wrapI (d.op - 8) (by omega) (by omega)
   have hw2 := wrapI (d.obj + 1) (by omega) (by omega)
   have hw3 := wrapI (d.cas + 3) (by omega) (by omega)
   clear hb1
   first
   | (exfalso; simp at hb1; done)
   | (exfalso; simp at hb1; omega)
   | (
    refine SW.skip ?_; refine hK1 _ ?_; cases hz : zigOk (d.g - last)
    all_goals (
     refine SW.rg fun K hK => ?_; simp -implicitDefEqProofs [hw0]; iterate 2 (try refine ⟨by omega, ?_⟩)
     first
       | refine CallK.imE (putZig_iy l (d.g - last) (by omega) (by assumption)) (by simp) (tupB_okI _) ?_
       | refine CallK.fzE (putZig_in l (d.g - last) (by omega) (by assumption)) (by simp) ?_
     simp -implicitDefEqProofs [hw0]; repeat refine ⟨by omega, ?_⟩
     refine hK _ ?_; clear hK K; refine SW.seqK fun K2 hK2 => ?_; refine SW.rg fun K hK => ?_; simp -implicitDefEqProofs [hw1, hw2, hw3]; repeat refine ⟨by omega, ?_⟩
     refine hK _ ?_; clear hK K; refine SW.block ?_
     refine SW.loop (α := Nat × Bool) (fun x => if x.2 then ⟨[(67, .int .i64 x.1), (66, .int .i64 3), (65, .sl 1 0 3), (8, .sl 0 0 (packPre l last d x.1).length), (9, .bool true)], [some ⟨1, YS (packPre l last d x.1)⟩, some ⟨1, IS (nsOf d)⟩]⟩ else ⟨[(67, .int .i64 x.1), (66, .int .i64 3), (65, .sl 1 0 3), (8, .nil), (9, .bool false)], [none, some ⟨1, IS (nsOf d)⟩]⟩) (fun x => x.1 ≤ 3 ∧ if x.2 then zigOk (d.g - last) = true ∧ ((nsOf d).take x.1).all numOk = true else packOk last d = false) (fun x => 3 - x.1) ((0, zigOk (d.g - last))) ?_ ?_ (fun x hx => ?_)
     case' refine_1 =>
      refine ⟨by simp, ?_⟩
      first | (simp [hz]; done) | (simp [hz]; exact pack_badz hz)
     case' refine_2 =>
      rw [hz]; simp only [if_true, if_false, Bool.false_eq_true, reduceIte]
      first
        | (rw [packPre_zero]
           exact Wk.ren [1, 2] (by simp) (by simp) (by simp) (by simp) (by simp [renE]) (by simp [renH, nsOf_IS]) (by simp [lowE, lowN]) (by simp))
        | exact Wk.ren [0, 1] (by simp) (by simp) (by simp) (by simp) (by simp [renE]) (by simp [renH, nsOf_IS]) (by simp [lowE, lowN]) (by simp)
     case' refine_3 =>
      clear hz; obtain ⟨k, q⟩ := x; simp only [] at hx; cases q
      all_goals simp only [if_true, if_false, Bool.false_eq_true, reduceIte] at hx ⊢
      all_goals (
       refine SW.rg fun K hK => ?_; simp -implicitDefEqProofs; repeat refine ⟨by omega, ?_⟩
       refine hK _ ?_; clear hK K; refine SW.seqK fun K3 hK3 => ?_; refine SW.cond _ rfl (by simp) ?_ ?_
       case' refine_2 =>
        intro hb2
        first
        | (exfalso; simp at hb2; done)
        | (exfalso; simp at hb2; omega)
        | (
         have hk : k = 3 := by simp at hb2; omega
         subst hk; refine SW.exit ?_; simp only [Ex.then, Ex.ib]; try simp only [if_true, if_false, reduceIte]
         refine hK2 _ ?_; refine SW.rg fun K hK => ?_; simp -implicitDefEqProofs; repeat refine ⟨by omega, ?_⟩
         refine hK _ ?_; clear hK K; refine SW.ret ?_; simp [Ex.then, Ex.ib]
         first
           | (simp [packEv, hpk]; done)
           | (simp [packEv, hx.2]; done)
           | (have hpk := pack_good (by rw [headOk, hx.2.1]; simp [wideOk, numOk]; omega) hx.2.2
              have hpa := packPre_all l last d
              simp [packEv, hpk, ← hpa]; intro x hx y hy; obtain ⟨n, rfl⟩ := YS_int hx hy; rfl))
       rotate_right
       case' _ =>
        intro hb2
        first
        | (exfalso; simp at hb2; done)
        | (exfalso; simp at hb2; omega)
        | (
         have hlt : k < 3 := by simp at hb2; omega
         obtain ⟨n, hnk⟩ : ∃ n, (nsOf d)[k]? = some n := ⟨_, List.getElem?_eq_getElem (by simp; omega)⟩
         refine SW.skip ?_; refine hK3 _ ?_; refine SW.seqK fun K4 hK4 => ?_; refine SW.block ?_; refine SW.rg fun K hK => ?_; simp -implicitDefEqProofs [hnk]; repeat refine ⟨by omega, ?_⟩
         refine hK _ ?_; clear hK K; refine SW.rg fun K hK => ?_; simp -implicitDefEqProofs; repeat refine ⟨by omega, ?_⟩
         refine hK _ ?_; clear hK K; refine SW.cond _ rfl (by simp) ?_ ?_
         case' refine_2 =>
          intro hb3
          first
          | (exfalso; simp at hb3; done)
          | (exfalso; simp at hb3; omega)
          | (
           refine SW.skip ?_)
         rotate_right
         case' _ =>
          intro hb3
          first
          | (exfalso; simp at hb3; done)
          | (exfalso; simp at hb3; omega)
          | (
           have hlen := packPre_len (l := l) hx.2.1 k (by omega) hx.2.2
           have hps := packPre_succ (l := l) (last := last) hnk
           cases hn : numOk n
           all_goals (
            refine SW.regionE fun K hK => ?_; simp -implicitDefEqProofs; iterate 2 (try refine ⟨by omega, ?_⟩)
            first
              | refine CallK.imE (putVar_i (packPre l last d k) n (by omega) (by assumption)) (by simp) (tupB_okI _) ?_
              | refine CallK.fzE (putVar_in (packPre l last d k) n (by omega) (by assumption)) (by simp) ?_
            simp -implicitDefEqProofs; repeat refine ⟨by omega, ?_⟩
            refine hK _ ?_
            clear hK K))
         all_goals (
          refine hK4 _ ?_; refine SW.regionE fun K hK => ?_; simp -implicitDefEqProofs; repeat refine ⟨by omega, ?_⟩
          refine hK _ ?_; clear hK K
          first
            | (refine ⟨(k + 1, true), ⟨by simp only []; omega, ?_⟩, by simp only []; omega, ?_⟩
               · simp only [if_true]; exact ⟨hx.2.1, all_step hnk hx.2.2 hn⟩
               · simp only [if_true]; rw [hps]
                 exact Wk.ren [2, 1] (by simp) (by simp) (by simp) (by simp) (by simp [renE, wrap1 k (by omega)]) (by simp [renH]) (by simp [lowE, lowN]) (by simp))
            | (refine ⟨(k + 1, false), ⟨by simp only []; omega, ?_⟩, by simp only []; omega, ?_⟩
               · simp only [Bool.false_eq_true, if_false]; first | exact hx.2 | exact pack_bad hnk hn
               · simp only [Bool.false_eq_true, if_false]
                 exact Wk.ren [0, 1] (by simp) (by simp) (by simp) (by simp) (by simp [renE, wrap1 k (by omega)]) (by simp [renH]) (by simp [lowE, lowN]) (by simp)))))))
  rotate_right
  case' _ =>
   intro hb1
   have hpk : packOk last d = false := by
     cases hp : packOk last d with
     | false => rfl
     | true => exfalso; simp [packOk, headOk, wideOk, zigOk, numOk, nsOf] at hp hb1; omega
   first
   | (exfalso; simp at hb1; done)
   | (exfalso; simp at hb1; omega)
   | (
    refine SW.rg fun K hK => ?_; simp -implicitDefEqProofs; repeat refine ⟨by omega, ?_⟩
    refine hK _ ?_; clear hK K; refine SW.ret ?_; simp [Ex.then, Ex.ib]
    first
      | (simp [packEv, hpk]; done)
      | (simp [packEv, hx.2]; done)
      | (have hpk := pack_good (by rw [headOk, hx.2.1]; simp [wideOk, numOk]; omega) hx.2.2
         have hpa := packPre_all l last d
         simp [packEv, hpk, ← hpa]; intro x hx y hy; obtain ⟨n, rfl⟩ := YS_int hx hy; rfl))
end HS
