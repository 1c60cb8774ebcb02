import Derived.Test.YteeefpifkepbpaaEHSM
/-
  My own texts (road H): HSN.
-/
set_option linter.unusedSimpArgs false
namespace HS
open Go Go.Proofs HK
def rdD (n1 n2 n3 n4 : Nat) (last : Int) : Deed := ⟨unzig n1 + last, (n2 : Int) + 8, (n3 : Int) - 1, (n4 : Int) - 3⟩
def rdAll (o1 o2 o3 o4 : Option (Nat × Nat)) (last : Int) : Option (Deed × Nat) :=
  if o1.isSome && o2.isSome && o3.isSome && o4.isSome && wideOk last && packOk last (rdD (nv o1) (nv o2) (nv o3) (nv o4) last) then some (rdD (nv o1) (nv o2) (nv o3) (nv o4) last, pv o4) else none
def readE (b : List Int) (i last : Int) : Option (Deed × Nat) :=
  rdAll (getV b i) (getV b (pv (getV b i))) (getV b (pv (getV b (pv (getV b i))))) (getV b (pv (getV b (pv (getV b (pv (getV b i))))))) last
def rdA : Option (Deed × Nat) → AV
  | some (d, p) => .tup [.agg d.c, .int .i64 p, .bool true]
  | none => .tup [.agg zD, .int .i64 0, .bool false]
theorem unzig_b {n : Nat} (h : n ≤ 4294967295) : -2147483648 ≤ unzig n ∧ unzig n ≤ 2147483647 := by
  unfold unzig; split <;> omega
theorem getV_some {b : List Int} {i : Int} (h : (getV b i).isSome = true) : ∃ I : Nat, i = I ∧ getN b I = some (nv (getV b i), pv (getV b i)) := by
  unfold getV at h ⊢; split
  · rename_i h0
    rw [if_pos h0] at h; refine ⟨i.toNat, by omega, ?_⟩
    cases hg : getN b i.toNat with
    | none => rw [hg] at h; cases h
    | some x => rfl
  · rename_i h0
    rw [if_neg h0] at h; cases h
@[simp] theorem wr1 : IntKind.i64.wrap 1 = 1 := wrapI 1 (by omega) (by omega)
@[simp] theorem wr2 : IntKind.i64.wrap 2 = 2 := wrapI 2 (by omega) (by omega)
@[simp] theorem wr3 : IntKind.i64.wrap 3 = 3 := wrapI 3 (by omega) (by omega)
def RdI (o1 o2 o3 o4 : Option (Nat × Nat)) : Nat → Nat → Nat → Nat → Nat → Prop
  | 0, t, a, e, c => o1.isSome = true ∧ t = pv o1 ∧ a = 0 ∧ e = 0 ∧ c = 0
  | 1, t, a, e, c => o1.isSome = true ∧ o2.isSome = true ∧ t = pv o2 ∧ a = nv o2 ∧ e = 0 ∧ c = 0
  | 2, t, a, e, c => o1.isSome = true ∧ o2.isSome = true ∧ o3.isSome = true ∧ t = pv o3 ∧ a = nv o2 ∧ e = nv o3 ∧ c = 0
  | _, t, a, e, c => o1.isSome = true ∧ o2.isSome = true ∧ o3.isSome = true ∧ o4.isSome = true ∧ t = pv o4 ∧ a = nv o2 ∧ e = nv o3 ∧ c = nv o4
set_option maxHeartbeats 1000000 in
theorem readEvent_impl (b : List Int) (i last : Int) (hl : b.length ≤ 2 ^ 40) (hb : ∀ x ∈ b, isB x) : Fn Try.prog 40 [.fz (YS b), .int .i64 i, .int .i64 last] (rdA (readE b i last)) := by
  refine Fn.intro Try.func40 (by decide) rfl (rs := [.cell 6 28, .tmp 7, .tmp 8]) rfl Try.ntmps40 (by simp) ?_; refine SW.rg fun K hK => ?_; simp -implicitDefEqProofs; repeat refine ⟨by omega, ?_⟩
  refine hK _ ?_; clear hK K; have hre : readE b i last = rdAll (getV b i) (getV b (pv (getV b i))) (getV b (pv (getV b (pv (getV b i))))) (getV b (pv (getV b (pv (getV b (pv (getV b i))))))) last := rfl
  generalize h1 : getV b i = o1 at hre
  generalize h2 : getV b (pv o1 : Int) = o2 at hre
  generalize h3 : getV b (pv o2 : Int) = o3 at hre
  generalize h4 : getV b (pv o3 : Int) = o4 at hre
  have m1 : nv o1 ≤ 4294967295 := by rw [← h1]; exact nv_le
  have m2 : nv o2 ≤ 4294967295 := by rw [← h2]; exact nv_le
  have m3 : nv o3 ≤ 4294967295 := by rw [← h3]; exact nv_le
  have m4 : nv o4 ≤ 4294967295 := by rw [← h4]; exact nv_le
  have mu := unzig_b m1
  all_goals (
   refine SW.rg fun K hK => ?_; simp -implicitDefEqProofs; iterate 2 (try refine ⟨by omega, ?_⟩)
   refine CallK.fz (out := .tup [.int .i64 (unzig (nv o1)), .int .i64 (pv o1), .bool o1.isSome]) (by have h9 := getZig_impl b i hl hb; rw [getZA, h1] at h9; exact h9) ?_; simp -implicitDefEqProofs; repeat refine ⟨by omega, ?_⟩
   refine hK _ ?_; clear hK K; refine SW.rg fun K hK => ?_; simp -implicitDefEqProofs; repeat refine ⟨by omega, ?_⟩
   refine hK _ ?_; clear hK K; refine SW.seqK fun K1 hK1 => ?_; refine SW.rg fun K hK => ?_; simp -implicitDefEqProofs; repeat refine ⟨by omega, ?_⟩
   refine hK _ ?_; clear hK K; refine SW.block ?_
   refine SW.loop (α := Nat × Bool × Nat × Nat × Nat × Nat) (fun x => ⟨[(24, .int .i64 (x.1 : Nat)), (10, .bool x.2.1), (1, .int .i64 (x.2.2.1 : Nat)), (11, .ptr 1 0 0), (9, .int .i64 (unzig (nv o1))), (0, .fz (YS b)), (2, .int .i64 last), (6, .ptr 0 0 0)], [some ⟨4, [zD]⟩, some ⟨3, [[.int .i64 (x.2.2.2.1 : Nat), .int .i64 (x.2.2.2.2.1 : Nat), .int .i64 (x.2.2.2.2.2 : Nat)]]⟩]⟩) (fun x => x.1 ≤ 3 ∧ if x.2.1 then RdI o1 o2 o3 o4 x.1 x.2.2.1 x.2.2.2.1 x.2.2.2.2.1 x.2.2.2.2.2 else (o1.isSome && o2.isSome && o3.isSome && o4.isSome) = false) (fun x => 3 - x.1) ((0, o1.isSome, pv o1, 0, 0, 0)) ?_ ?_ (fun x hx => ?_)
   case' refine_1 =>
    refine ⟨by simp, ?_⟩; cases hq : o1.isSome <;> simp [RdI, hq]
   case' refine_2 =>
    exact Wk.cut (by simp) (by simp [subE]) (by simp [cutH]) (by simp [lowE, lowN]) (by simp)
   case' refine_3 =>
    skip
    obtain ⟨k, q, t, a, e, c⟩ := x; simp only [] at hx; obtain ⟨hk, hx⟩ := hx; obtain rfl | rfl | rfl | rfl : k = 0 ∨ k = 1 ∨ k = 2 ∨ k = 3 := by omega
    all_goals cases q
    all_goals simp only [if_true, if_false, Bool.false_eq_true, reduceIte, RdI] at hx ⊢
    all_goals first
      | obtain ⟨s1, rfl, rfl, rfl, rfl⟩ := hx
      | obtain ⟨s1, s2, rfl, rfl, rfl, rfl⟩ := hx
      | obtain ⟨s1, s2, s3, rfl, rfl, rfl, rfl⟩ := hx
      | obtain ⟨s1, s2, s3, s4, rfl, rfl, rfl, rfl⟩ := hx
      | skip
    all_goals (
     refine SW.rg fun K hK => ?_; simp -implicitDefEqProofs; repeat refine ⟨by omega, ?_⟩
     refine hK _ ?_; clear hK K; refine SW.seqK fun K2 hK2 => ?_; refine SW.cond _ rfl (by simp) ?_ ?_
     case' refine_2 =>
      intro hb1
      first
      | (exfalso; simp at hb1; done)
      | (exfalso; simp at hb1; omega)
      | (
       refine SW.exit ?_; simp only [Ex.then, Ex.ib]; try simp only [if_true, if_false, reduceIte]
       refine hK1 _ ?_; refine SW.seqK fun K3 hK3 => ?_; refine SW.rg fun K hK => ?_; simp -implicitDefEqProofs; iterate 2 (try refine ⟨by omega, ?_⟩)
       refine CallG.fz (by simp) (fun _ => wide_i _) ?_; simp -implicitDefEqProofs; repeat refine ⟨by omega, ?_⟩
       refine hK _ ?_; clear hK K; refine SW.cond _ rfl (by simp) ?_ ?_
       case' refine_2 =>
        intro hb2
        first
        | (exfalso; simp at hb2; done)
        | (exfalso; simp at hb2; omega)
        | (
         have hwl : wideOk last = true := by simpa using hb2
         have hwl2 : -4294967295 ≤ last ∧ last ≤ 4294967295 := by simpa [wideOk] using hwl
         have hw1c : IntKind.i64.wrap (last + unzig (nv o1)) = unzig (nv o1) + last := by rw [Int.add_comm]; exact wrapI _ (by omega) (by omega)
         have hw2 := wrapI ((nv o2 : Int) + 8) (by omega) (by omega)
         have hw3 := wrapI ((nv o3 : Int) - 1) (by omega) (by omega)
         have hw4 := wrapI ((nv o4 : Int) - 3) (by omega) (by omega)
         refine SW.skip ?_; refine hK3 _ ?_; refine SW.rg fun K hK => ?_; simp -implicitDefEqProofs [hw1c, hw2, hw3, hw4]; repeat refine ⟨by omega, ?_⟩
         refine hK _ ?_; clear hK K; refine SW.seqK fun K4 hK4 => ?_; cases hpk : packOk last (rdD (nv o1) (nv o2) (nv o3) (nv o4) last)
         all_goals (
          refine SW.rg fun K hK => ?_; simp -implicitDefEqProofs; iterate 2 (try refine ⟨by omega, ?_⟩)
          first
            | refine CallK.fzE (Fn.nil1 (packEvent_iy [] last (rdD (nv o1) (nv o2) (nv o3) (nv o4) last) (by simp) (by assumption))) (by simp [rdD]) ?_
            | refine CallK.fzE (Fn.nil1 (packEvent_in [] last (rdD (nv o1) (nv o2) (nv o3) (nv o4) last) (by simp) (by assumption))) (by simp [rdD]) ?_
          simp -implicitDefEqProofs; repeat refine ⟨by omega, ?_⟩
          refine hK _ ?_; clear hK K; refine SW.rg fun K hK => ?_; simp -implicitDefEqProofs; repeat refine ⟨by omega, ?_⟩
          refine hK _ ?_; clear hK K; refine SW.cond _ rfl (by simp) ?_ ?_
          case' refine_2 =>
           intro hb3
           first
           | (exfalso; simp at hb3; done)
           | (exfalso; simp at hb3; omega)
           | (
            have hrs : readE b i last = some ((rdD (nv o1) (nv o2) (nv o3) (nv o4) last), pv o4) := by
              rw [hre, rdAll, if_pos]; simp [s1, s2, s3, s4, hpk, hwl]
            refine SW.skip ?_; refine hK4 _ ?_; refine SW.rg fun K hK => ?_; simp -implicitDefEqProofs; repeat refine ⟨by omega, ?_⟩
            refine hK _ ?_; clear hK K; refine SW.ret ?_; simp [Ex.then, Ex.ib]
            first
              | (rw [hrn]; rfl)
              | (rw [hrs]; rfl)
              | (rw [hrs]; simp [rdA, rdD]; done)
              | fail)
          rotate_right
          case' _ =>
           intro hb3
           first
           | (exfalso; simp at hb3; done)
           | (exfalso; simp at hb3; omega)
           | (
            have hrn : readE b i last = none := by
              rw [hre, rdAll, if_neg]; rw [hpk]; simp
            refine SW.rg fun K hK => ?_; simp -implicitDefEqProofs; repeat refine ⟨by omega, ?_⟩
            refine hK _ ?_; clear hK K; refine SW.ret ?_; simp [Ex.then, Ex.ib]
            first
              | (rw [hrn]; rfl)
              | (rw [hrs]; rfl)
              | (rw [hrs]; simp [rdA, rdD]; done)
              | fail)))
       rotate_right
       case' _ =>
        intro hb2
        first
        | (exfalso; simp at hb2; done)
        | (exfalso; simp at hb2; omega)
        | (
         have hrn : readE b i last = none := by
           rw [hre, rdAll, if_neg]
           first
             | (rw [hx]; simp; done)
             | (have h9 : wideOk last = false := by simpa using hb2
                rw [h9]; simp; done)
         refine SW.rg fun K hK => ?_; simp -implicitDefEqProofs; repeat refine ⟨by omega, ?_⟩
         refine hK _ ?_; clear hK K; refine SW.ret ?_; simp [Ex.then, Ex.ib]
         first
           | (rw [hrn]; rfl)
           | (rw [hrs]; rfl)
           | (rw [hrs]; simp [rdA, rdD]; done)
           | fail))
     rotate_right
     case' _ =>
      intro hb1
      first
      | (exfalso; simp at hb1; done)
      | (exfalso; simp at hb1; omega)
      | (
       refine SW.skip ?_; refine hK2 _ ?_; refine SW.seqK fun K5 hK5 => ?_; refine SW.block ?_; refine SW.rg fun K hK => ?_; simp -implicitDefEqProofs; repeat refine ⟨by omega, ?_⟩
       refine hK _ ?_; clear hK K; refine SW.rg fun K hK => ?_; simp -implicitDefEqProofs; repeat refine ⟨by omega, ?_⟩
       refine hK _ ?_; clear hK K; refine SW.cond _ rfl (by simp) ?_ ?_
       case' refine_2 =>
        intro hb4
        first
        | (exfalso; simp at hb4; done)
        | (exfalso; simp at hb4; omega)
        | (
         refine SW.skip ?_)
       rotate_right
       case' _ =>
        intro hb4
        first
        | (exfalso; simp at hb4; done)
        | (exfalso; simp at hb4; omega)
        | (
         refine SW.regionE fun K hK => ?_; simp -implicitDefEqProofs [splice]; iterate 2 (try refine ⟨by omega, ?_⟩)
         first
           | refine CallK.fz (out := .tup [.int .i64 (nv o2), .int .i64 (pv o2), .bool o2.isSome]) (by have h9 := getVar_impl b (pv o1) hl hb; rw [getA_eq, h2] at h9; exact h9) ?_
           | refine CallK.fz (out := .tup [.int .i64 (nv o3), .int .i64 (pv o3), .bool o3.isSome]) (by have h9 := getVar_impl b (pv o2) hl hb; rw [getA_eq, h3] at h9; exact h9) ?_
           | refine CallK.fz (out := .tup [.int .i64 (nv o4), .int .i64 (pv o4), .bool o4.isSome]) (by have h9 := getVar_impl b (pv o3) hl hb; rw [getA_eq, h4] at h9; exact h9) ?_
         simp -implicitDefEqProofs [splice]; repeat refine ⟨by omega, ?_⟩
         refine hK _ ?_
         clear hK K)
       all_goals (
        refine hK5 _ ?_; refine SW.regionE fun K hK => ?_; simp -implicitDefEqProofs; repeat refine ⟨by omega, ?_⟩
        refine hK _ ?_; clear hK K
        first
          | (have h9 : (0 : Nat) ≤ 3 := hk
             have h8 := t
             refine ⟨(1, false, t, a, e, c), ⟨by simp, by simpa using hx⟩, by simp, ?_⟩
             exact Wk.cut (by simp) (by simp [subE]; done) (by simp [cutH, splice]; done) (by simp [lowE, lowN]) (by simp))
          | (have h9 : (1 : Nat) ≤ 3 := hk
             have h8 := t
             refine ⟨(2, false, t, a, e, c), ⟨by simp, by simpa using hx⟩, by simp, ?_⟩
             exact Wk.cut (by simp) (by simp [subE]; done) (by simp [cutH, splice]; done) (by simp [lowE, lowN]) (by simp))
          | (have h9 : (2 : Nat) ≤ 3 := hk
             have h8 := t
             refine ⟨(3, false, t, a, e, c), ⟨by simp, by simpa using hx⟩, by simp, ?_⟩
             exact Wk.cut (by simp) (by simp [subE]; done) (by simp [cutH, splice]; done) (by simp [lowE, lowN]) (by simp))
          | (have h9 : (0 : Nat) ≤ 3 := hk
             have h8 := s1
             refine ⟨(1, o2.isSome, pv o2, nv o2, 0, 0), ⟨by simp, ?_⟩, by simp, ?_⟩
             · (cases hq : o2.isSome <;> simp [RdI, *]; done)
             · exact Wk.cut (by simp) (by simp [subE]; done) (by simp [cutH, splice]; done) (by simp [lowE, lowN]) (by simp))
          | (have h9 : (1 : Nat) ≤ 3 := hk
             have h8 := s1
             refine ⟨(2, o3.isSome, pv o3, nv o2, nv o3, 0), ⟨by simp, ?_⟩, by simp, ?_⟩
             · (cases hq : o3.isSome <;> simp [RdI, *]; done)
             · exact Wk.cut (by simp) (by simp [subE]; done) (by simp [cutH, splice]; done) (by simp [lowE, lowN]) (by simp))
          | (have h9 : (2 : Nat) ≤ 3 := hk
             have h8 := s1
             refine ⟨(3, o4.isSome, pv o4, nv o2, nv o3, nv o4), ⟨by simp, ?_⟩, by simp, ?_⟩
             · (cases hq : o4.isSome <;> simp [RdI, *]; done)
             · exact Wk.cut (by simp) (by simp [subE]; done) (by simp [cutH, splice]; done) (by simp [lowE, lowN]) (by simp))
          | fail))))
end HS
