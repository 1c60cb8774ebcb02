import Derived.Test.YteeefpifkepbpaaEHSK
/-
  My own texts (road H): HSL.
-/
set_option linter.unusedSimpArgs false
namespace HS
open Go Go.Proofs HK
set_option maxHeartbeats 1000000 in
theorem getVar_impl (b : List Int) (i : Int) (hl : b.length ≤ 2 ^ 40) (hb : ∀ x ∈ b, isB x) : Fn Try.prog 75 [.fz (YS b), .int .i64 i] (getA (getV b i)) := by
  refine Fn.intro Try.func75 (by decide) rfl (rs := [.tmp 4, .tmp 5, .tmp 6]) rfl Try.ntmps75 (by simp) ?_; refine SW.rg fun K hK => ?_; simp -implicitDefEqProofs; repeat refine ⟨by omega, ?_⟩
  refine hK _ ?_; clear hK K; refine SW.seqK fun K1 hK1 => ?_; refine SW.rg fun K hK => ?_; simp -implicitDefEqProofs; repeat refine ⟨by omega, ?_⟩
  refine hK _ ?_; clear hK K; refine SW.cond _ rfl (by simp) ?_ ?_
  case' refine_2 =>
   intro hb1; obtain ⟨N, rfl⟩ : ∃ N : Nat, i = N := ⟨i.toNat, by simp at hb1; omega⟩
   have hgn := getV_nat b N
   first
   | (exfalso; simp at hb1; done)
   | (exfalso; simp at hb1; omega)
   | (
    refine SW.skip ?_; refine hK1 _ ?_; refine SW.rg fun K hK => ?_; simp -implicitDefEqProofs; repeat refine ⟨by omega, ?_⟩
    refine hK _ ?_; clear hK K; refine SW.rg fun K hK => ?_; simp -implicitDefEqProofs; repeat refine ⟨by omega, ?_⟩
    refine hK _ ?_; clear hK K; refine SW.seqK fun K2 hK2 => ?_; refine SW.rg fun K hK => ?_; simp -implicitDefEqProofs; repeat refine ⟨by omega, ?_⟩
    refine hK _ ?_; clear hK K; refine SW.block ?_
    refine SW.loop (α := Nat × Nat × Nat × List Int × List Int) (fun x => ⟨[(9, .int .i64 (x.1 : Nat)), (8, .int .i64 (x.2.1 : Nat)), (7, .int .i64 (x.2.2.1 : Nat)), (1, .int .i64 (N : Nat)), (0, .fz (YS b))], []⟩) (fun x => b.drop N = x.2.2.2.1 ++ x.2.2.2.2 ∧ x.1 = N + x.2.2.2.1.length ∧ x.2.2.2.1.length ≤ 5 ∧ digs 5 (b.drop N) = (digs (5 - x.2.2.2.1.length) x.2.2.2.2).map (x.2.2.2.1 ++ ·) ∧ x.2.1 = 128 ^ x.2.2.2.1.length ∧ x.2.2.1 = val x.2.2.2.1) (fun x => 5 - x.2.2.2.1.length) ((N, 1, 0, [], b.drop N)) ?_ ?_ (fun x hx => ?_)
    case' refine_1 =>
     exact ⟨by simp, by simp, by simp, by simp, by simp, by simp [val]⟩
    case' refine_2 =>
     exact Wk.cut (by simp) (by simp [subE]) (by simp [cutH]) (by simp [lowE, lowN]) (by simp)
    case' refine_3 =>
     obtain ⟨J, U, V, pre, rest⟩ := x; simp only [] at hx; obtain ⟨h1, h2, h3, h4, hu, hv⟩ := hx; simp only []; have hlen : b.length - N = pre.length + rest.length := by have := congrArg List.length h1; simpa using this
     refine SW.seqK fun K3 hK3 => ?_; refine SW.rg fun K hK => ?_; simp -implicitDefEqProofs; repeat refine ⟨by omega, ?_⟩
     refine hK _ ?_; clear hK K; refine SW.cond _ rfl (by simp) ?_ ?_
     case' refine_2 =>
      intro hb2
      have hres : getN b N = none := by
        refine getN_none ?_; rw [h4]
        cases rest with
        | nil => cases hq : 5 - pre.length <;> rfl
        | cons d r =>
          have hJ : J < b.length := by simp at hlen; omega
          have hw5 := wrapI ((N : Int) + 5) (by omega) (by omega)
          have h5 : 5 - pre.length = 0 := by simp [hw5] at hb2; omega
          rw [h5]; rfl
      first
      | (exfalso; simp at hb2; done)
      | (exfalso; simp at hb2; omega)
      | (
       refine SW.exit ?_; simp only [Ex.then, Ex.ib]; try simp only [if_true, if_false, reduceIte]
       refine hK2 _ ?_; refine SW.rg fun K hK => ?_; simp -implicitDefEqProofs; repeat refine ⟨by omega, ?_⟩
       refine hK _ ?_; clear hK K; refine SW.ret ?_; simp [Ex.then, Ex.ib]
       first
         | (rw [hres]; rfl)
         | (rw [hgn, hres]; rfl)
         | (rw [hgn, hres]; simp [getA, hcm]; done)
         | fail)
     rotate_right
     case' _ =>
      intro hb2; have hJ : J < b.length := by simp at hb2; omega
      have hw5 := wrapI ((N : Int) + 5) (by omega) (by omega)
      have h5 : pre.length < 5 := by simp [hw5] at hb2; omega
      obtain ⟨d, rest, rfl⟩ : ∃ d r, rest = d :: r := by
        cases rest with
        | nil => exfalso; simp at hlen; omega
        | cons d r => exact ⟨d, r, rfl⟩
      have hget : b[J]? = some d := by rw [h2, ← List.getElem?_drop, h1, List.getElem?_append_right (by omega)]; simp
      obtain ⟨D, rfl, hD⟩ := byte_nat (hb d (List.mem_of_getElem? hget)); have hwd := wrapI (D : Int) (by omega) (by omega)
      obtain ⟨E, hE⟩ : ∃ E, D % 128 = E := ⟨_, rfl⟩
      have hE2 : E < 128 := by omega
      have ht : (D : Int).tmod 128 = (E : Int) := by rw [tmod128, hE]
      have hU : U ≤ 128 ^ 4 := by rw [hu]; exact Nat.pow_le_pow_right (by omega) (by omega)
      have hV : V < 128 ^ 4 := by rw [hv]; exact Nat.lt_of_lt_of_le (val_lt pre) (Nat.pow_le_pow_right (by omega) (by omega))
      have hEU : E * U ≤ 127 * 128 ^ 4 := Nat.mul_le_mul (by omega) hU
      have hc : (E : Int) * (U : Int) = ((E * U : Nat) : Int) := by simp
      have hw1 := wrapI ((E : Int) * (U : Int)) (by rw [hc]; omega) (by rw [hc]; omega)
      have hw2 := wrapI ((V : Int) + (E : Int) * (U : Int)) (by rw [hc]; omega) (by rw [hc]; omega)
      have hcm : (E : Int) * (U : Int) = (U : Int) * (E : Int) := Int.mul_comm _ _
      have hw3 := wrapI ((U : Int) * 128) (by omega) (by omega)
      have hwJ := wrapI ((J : Int) + 1) (by omega) (by omega)
      have hDE : ((D : Int) % 128).toNat = E := by omega
      have e9 : (V : Int) + (U : Int) * (E : Int) = ((V + U * E : Nat) : Int) := by simp
      have hva : val (pre ++ [(D : Int)]) = V + U * E := by rw [val_app, ← hv, ← hu, hDE]
      have hpn : pre = [] ↔ ¬ N < J := by rw [h2]; cases pre <;> simp
      first
      | (exfalso; simp at hb2; done)
      | (exfalso; simp at hb2; omega)
      | (
       refine SW.skip ?_; refine hK3 _ ?_; refine SW.seqK fun K4 hK4 => ?_; refine SW.block ?_; refine SW.rg fun K hK => ?_; simp -implicitDefEqProofs [hget, hwd]; repeat refine ⟨by omega, ?_⟩
       refine hK _ ?_; clear hK K; refine SW.rg fun K hK => ?_; simp -implicitDefEqProofs [ht, hw1, hw2]; repeat refine ⟨by omega, ?_⟩
       refine hK _ ?_; clear hK K; refine SW.rg fun K hK => ?_; simp -implicitDefEqProofs [hw3]; repeat refine ⟨by omega, ?_⟩
       refine hK _ ?_; clear hK K; refine SW.seqK fun K5 hK5 => ?_; refine SW.rg fun K hK => ?_; simp -implicitDefEqProofs; repeat refine ⟨by omega, ?_⟩
       refine hK _ ?_; clear hK K; refine SW.cond _ rfl (by simp) ?_ ?_
       case' refine_2 =>
        intro hb3; have hDl : (D : Int) < 128 := by simp at hb3; omega
        have hds : digs 5 (b.drop N) = some (pre ++ [(D : Int)]) := by rw [h4, show 5 - pre.length = (4 - pre.length) + 1 by omega, digs_lt hDl]; rfl
        have hgo := getN_of hds
        rw [canon_app, hva] at hgo
        first
        | (exfalso; simp at hb3; done)
        | (exfalso; simp at hb3; omega)
        | (
         refine SW.skip ?_; refine hK5 _ ?_; refine SW.seqK fun K6 hK6 => ?_; refine SW.rg fun K hK => ?_; simp -implicitDefEqProofs; repeat refine ⟨by omega, ?_⟩
         refine hK _ ?_; clear hK K; refine SW.cond _ rfl (by simp) ?_ ?_
         case' refine_2 =>
          intro hb4
          have hres : getN b N = some (V + U * E, J + 1) := by
            rw [hgo, if_pos]
            · simp; omega
            · simp at hb4 ⊢
              refine ⟨by rw [hpn]; omega, ?_⟩; have h9 := hb4.1
              rw [hcm, e9] at h9; omega
          first
          | (exfalso; simp at hb4; done)
          | (exfalso; simp at hb4; omega)
          | (
           refine SW.skip ?_; refine hK6 _ ?_; refine SW.rg fun K hK => ?_; simp -implicitDefEqProofs [hwJ]; repeat refine ⟨by omega, ?_⟩
           refine hK _ ?_; clear hK K; refine SW.ret ?_; simp [Ex.then, Ex.ib]
           first
             | (rw [hres]; rfl)
             | (rw [hgn, hres]; rfl)
             | (rw [hgn, hres]; simp [getA, hcm]; done)
             | fail)
         rotate_right
         case' _ =>
          intro hb4
          have hres : getN b N = none := by
            rw [hgo, if_neg]; simp at hb4 ⊢; intro hq; rcases hb4 with h9 | h9
            · rw [hcm, e9] at h9; omega
            · exfalso; rw [hpn] at hq; omega
          first
          | (exfalso; simp at hb4; done)
          | (exfalso; simp at hb4; omega)
          | (
           refine SW.rg fun K hK => ?_; simp -implicitDefEqProofs; repeat refine ⟨by omega, ?_⟩
           refine hK _ ?_; clear hK K; refine SW.ret ?_; simp [Ex.then, Ex.ib]
           first
             | (rw [hres]; rfl)
             | (rw [hgn, hres]; rfl)
             | (rw [hgn, hres]; simp [getA, hcm]; done)
             | fail))
       rotate_right
       case' _ =>
        intro hb3; have hDg : ¬ (D : Int) < 128 := by simp at hb3; omega
        first
        | (exfalso; simp at hb3; done)
        | (exfalso; simp at hb3; omega)
        | (
         refine SW.exit ?_; simp only [Ex.then, Ex.ib]; try simp only [if_true, if_false, reduceIte]
         refine hK4 _ ?_; refine SW.regionE fun K hK => ?_; simp -implicitDefEqProofs; repeat refine ⟨by omega, ?_⟩
         refine hK _ ?_; clear hK K
         refine ⟨(J + 1, U * 128, V + U * E, pre ++ [(D : Int)], rest), ⟨by simp [h1], by simp only [List.length_append, List.length_cons, List.length_nil]; omega, by simp only [List.length_append, List.length_cons, List.length_nil]; omega, ?_, ?_, hva.symm⟩, by simp only [List.length_append, List.length_cons, List.length_nil]; omega, ?_⟩
         · simp only []; rw [h4, show 5 - pre.length = (4 - pre.length) + 1 by omega, digs_ge hDg, show 5 - (pre ++ [(D : Int)]).length = 4 - pre.length by simp only [List.length_append, List.length_cons, List.length_nil]; omega]; simp [Function.comp_def]
         · simp only [List.length_append, List.length_cons, List.length_nil, Nat.zero_add, Nat.pow_succ]; rw [← hu]
         exact Wk.cut (by simp) (by simp [subE, hwJ, hcm]) (by simp [cutH]) (by simp [lowE, lowN]) (by simp))))
  rotate_right
  case' _ =>
   intro hb1; have hres : getV b i = none := getV_neg (by simpa using hb1)
   first
   | (exfalso; simp at hb1; done)
   | (exfalso; simp at hb1; omega)
   | (
    refine SW.rg fun K hK => ?_; simp -implicitDefEqProofs; repeat refine ⟨by omega, ?_⟩
    refine hK _ ?_; clear hK K; refine SW.ret ?_; simp [Ex.then, Ex.ib]
    first
      | (rw [hres]; rfl)
      | (rw [hgn, hres]; rfl)
      | (rw [hgn, hres]; simp [getA, hcm]; done)
      | fail)
end HS
