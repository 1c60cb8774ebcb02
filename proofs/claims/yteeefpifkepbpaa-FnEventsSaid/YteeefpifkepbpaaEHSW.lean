import Derived.Test.YteeefpifkepbpaaEHSV
import Derived.Test.YteeefpifkepbpaaEHK51
/-
  My own texts (road H): HSW.
-/
set_option linter.unusedSimpArgs false
namespace HS
open Go Go.Proofs HK
def wordL : List Int := [82, 69, 80, 76, 65, 89, 49]
theorem wordS : (⟨#[82, 69, 80, 76, 65, 89, 49]⟩ : ByteArray) = strB wordL := rfl
theorem wordB : ∀ x ∈ wordL, isB x := by
  intro x hx; simp only [wordL, List.mem_cons, List.not_mem_nil, or_false] at hx; unfold isB; omega
def hdOk (c : List Int) : Bool := (getV c 7).isSome && decide (wordL ++ varB (nv (getV c 7)) = c)
theorem hd_iff {c : List Int} (hb : ∀ x ∈ c, isB x) : hdOk c = true ↔ (7 ≤ c.length ∧ c.take 7 = wordL) ∧ (getV c 7).isSome = true ∧ pv (getV c 7) = c.length := by
  unfold hdOk; simp only [Bool.and_eq_true, decide_eq_true_eq]; constructor
  · rintro ⟨h1, h2⟩
    obtain ⟨I, hI, hN⟩ := getV_some h1; have hI7 : I = 7 := by omega
    subst hI7; obtain ⟨_, hp, hlt, hv⟩ := getN_spec hN hb
    have hl : c.length = 7 + (varB (nv (getV c 7))).length := by
      have h5 := congrArg List.length h2
      rw [List.length_append] at h5; rw [← h5]; rfl
    have ht : c.take 7 = wordL := by rw [← h2]; exact List.take_left' rfl
    refine ⟨⟨by omega, ht⟩, h1, ?_⟩; have := congrArg List.length hv
    rw [List.length_take, List.length_drop] at this; omega
  · rintro ⟨⟨h1, h2⟩, h3, h4⟩
    obtain ⟨I, hI, hN⟩ := getV_some h3; have hI7 : I = 7 := by omega
    subst hI7; obtain ⟨_, hp, hlt, hv⟩ := getN_spec hN hb; refine ⟨h3, ?_⟩; rw [h4, List.take_of_length_le (by rw [List.length_drop]; omega)] at hv; rw [← h2, ← hv]; exact List.take_append_drop 7 c
def rdL (c : List Int) : List Deed := (readL c 4 0 0).getD []
def rdOk (c : List Int) : Bool := decide (0 < (rdL c).length)
def logL (st : Nat) : List Deed → List (List Int) → List Deed × Nat
  | cur, [] => (cur, st)
  | cur, c :: r => if (rdOk c && fitL (cur ++ rdL c) && decide (cur.length % 4 = 0)) = true then logL st (cur ++ rdL c) r else (cur, 2)
theorem logL_go {st : Nat} {cur : List Deed} {l : List (List Int)} {k : Nat} {c : List Int} (h : l[k]? = some c) (hg : (rdOk c && fitL (cur ++ rdL c) && decide (cur.length % 4 = 0)) = true) : logL st cur (l.drop k) = logL st (cur ++ rdL c) (l.drop (k + 1)) := by
  rw [drop_get8 h, logL, if_pos hg]
theorem logL_bad {st : Nat} {cur : List Deed} {l : List (List Int)} {k : Nat} {c : List Int} (h : l[k]? = some c) (hg : (rdOk c && fitL (cur ++ rdL c) && decide (cur.length % 4 = 0)) = false) : logL st cur (l.drop k) = (cur, 2) := by
  rw [drop_get8 h, logL, if_neg (by simp [hg])]
theorem rdL_len (c : List Int) : (rdL c).length ≤ 4 := by
  unfold rdL
  cases h : readL c 4 0 0 with
  | none => simp
  | some l => exact readL_len h
theorem Fn.ownNilT {P : Program} {f : FuncId} {args : List AV} (sz : Nat) {v : AV} (h : HK.Fn P f args (.tup [.nil, v])) : HK.Fn P f args (.tup [.own sz [], v]) :=
  ⟨h.1, fun w vs hc => (h.2 w vs hc).mono fun e w' ⟨v', S, e1, hv, h3, h4, h5⟩ => by
    cases hv with
    | tup _ vs _ hv =>
      obtain ⟨x, us, S1, S2, rfl, rfl, k1, k2⟩ := hv.uncons; cases k1
      exact ⟨_, _, e1, .tup _ _ _ (.cons _ _ _ _ _ _ (.own0 sz _) k2), h3, h4, h5⟩⟩
theorem Fn.ownNilA {P : Program} {f : FuncId} {args : List AV} (sz : Nat) {u v : AV} (h : HK.Fn P f args (.tup [.agg [u, .nil], v])) : HK.Fn P f args (.tup [.agg [u, .own sz []], v]) :=
  ⟨h.1, fun w vs hc => (h.2 w vs hc).mono fun e w' ⟨v', S, e1, hv, h3, h4, h5⟩ => by
    cases hv with
    | tup _ vs _ hv =>
      obtain ⟨x, us, S1, S2, rfl, rfl, k1, k2⟩ := hv.uncons
      cases k1 with
      | agg _ xs _ k1 =>
        obtain ⟨y, ys, T1, T2, rfl, rfl, q1, q2⟩ := k1.uncons; obtain ⟨z, zs, U1, U2, rfl, rfl, r1, r2⟩ := q2.uncons; cases r1
        exact ⟨_, _, e1, .tup _ _ _ (.cons _ _ _ _ _ _ (.agg _ _ _ (.cons _ _ _ _ _ _ q1 (.cons _ _ _ _ _ _ (.own0 sz _) r2))) k2), h3, h4, h5⟩⟩
theorem readSome_iu (c : List Int) (hl : c.length ≤ 2 ^ 40) (hb : ∀ x ∈ c, isB x) : HK.Fn Try.prog 43 [.fz (YS c)] (.tup [.own 4 (DS (rdL c)), .bool (rdOk c)]) := by
  have h := readSome_impl c hl hb
  unfold rdOk rdL
  cases hr : readL c 4 0 0 with
  | none => rw [hr] at h; exact Fn.ownNilT 4 h
  | some l => rw [hr] at h; exact h
end HS
