import Derived.Test.YteeefpifkepbpaaEHSZ4
import Derived.Test.YteeefpifkepbpaaEHSW4
/-
  My own texts (road H): HSY1.
-/
set_option linter.unusedSimpArgs false
set_option linter.unusedVariables false
namespace HS
open Go Go.Proofs HK
theorem digs_varB : ∀ (f n : Nat) (r : List Int), n < 128 ^ (f + 1) → digs (f + 1) (varB n ++ r) = some (varB n)
  | 0, n, r, h => by
    have h : n < 128 := by simpa using h
    rw [varB, if_pos h]
    show digs 1 ((n : Int) :: r) = _
    rw [digs, if_pos (by omega)]
  | f + 1, n, r, h => by
    rw [varB]; split
    · rename_i h1
      show digs (f + 1 + 1) ((n : Int) :: r) = _
      rw [digs, if_pos (by omega)]
    · rename_i h1
      show digs (f + 1 + 1) (((n % 128 + 128 : Nat) : Int) :: (varB (n / 128) ++ r)) = _
      rw [digs, if_neg (by omega), digs_varB f (n / 128) r (by rw [Nat.pow_succ] at h; omega)]; rfl
theorem val_varB : ∀ (f n : Nat), n < 128 ^ (f + 1) → val (varB n) = n
  | 0, n, h => by
    have h : n < 128 := by simpa using h
    rw [varB, if_pos h]
    simp only [val]; omega
  | f + 1, n, h => by
    rw [varB]; split
    · rename_i h1
      simp only [val]; omega
    · rename_i h1
      rw [val, val_varB f (n / 128) (by rw [Nat.pow_succ] at h; omega)]; omega
theorem last_varB : ∀ (f n : Nat), n < 128 ^ (f + 1) → 0 < n → ¬ (varB n).getLast? = some 0
  | 0, n, h, h0 => by
    have h : n < 128 := by simpa using h
    rw [varB, if_pos h]
    simp; omega
  | f + 1, n, h, h0 => by
    rw [varB]; split
    · simp; omega
    · rename_i h1
      have := last_varB f (n / 128) (by rw [Nat.pow_succ] at h; omega) (by omega)
      cases hv : varB (n / 128) with
      | nil => exact absurd hv (varB_ne _)
      | cons x l =>
        rw [hv] at this; rw [List.getLast?_cons_cons]; exact this
theorem canon_varB {n : Nat} (h : n ≤ 4294967295) : canon (varB n) = true := by
  unfold canon; by_cases h0 : 0 < n
  · have := last_varB 4 n (by omega) h0
    simp only [Bool.or_eq_true, Bool.not_eq_true', beq_eq_false_iff_ne, ne_eq]; exact Or.inr this
  · have : n = 0 := by omega
    subst this; rw [varB, if_pos (by omega)]; rfl
theorem getV_varB (pre r : List Int) {n i : Nat} (h : n ≤ 4294967295) (hi : pre.length = i) : getV (pre ++ (varB n ++ r)) (i : Int) = some (n, i + (varB n).length) := by
  subst hi; unfold getV; rw [if_pos (by omega), Int.toNat_natCast]; unfold getN; rw [List.drop_left, digs_varB 4 n r (by omega)]; simp only []; rw [canon_varB h, val_varB 4 n (by omega), if_pos (by simp [h])]
theorem unzig_zig (n : Int) : unzig (zig n).toNat = n := by
  unfold zig unzig; split <;> split <;> omega
theorem zig_le {n : Int} (h : zigOk n = true) : (zig n).toNat ≤ 4294967295 := by
  simp [zigOk] at h; unfold zig; split <;> omega
theorem packB_eq (last : Int) (d : Deed) : packB last d = varB (zig (d.g - last)).toNat ++ (varB (d.op - 8).toNat ++ (varB (d.obj + 1).toNat ++ varB (d.cas + 3).toNat)) := by
  simp [packB, nsOf]
theorem readE_pack (pre r : List Int) {last : Int} {d : Deed} {i : Nat} (h : packOk last d = true) (hi : pre.length = i) : readE (pre ++ (packB last d ++ r)) (i : Int) last = some (d, i + (packB last d).length) := by
  have h' := h
  simp only [packOk, headOk, nsOf, Bool.and_eq_true, List.all_cons, List.all_nil, numOk, decide_eq_true_eq, and_true] at h'; obtain ⟨⟨⟨⟨hw, hwl⟩, hz⟩, -⟩, ⟨o1, o2⟩, ⟨b1, b2⟩, ⟨c1, c2⟩⟩ := h'; rw [packB_eq]
  have g1 := getV_varB pre ((varB (d.op - 8).toNat ++ (varB (d.obj + 1).toNat ++ varB (d.cas + 3).toNat)) ++ r) (zig_le hz) hi
  have g2 := getV_varB (pre ++ varB (zig (d.g - last)).toNat) ((varB (d.obj + 1).toNat ++ varB (d.cas + 3).toNat) ++ r) (n := (d.op - 8).toNat) (i := i + (varB (zig (d.g - last)).toNat).length) (by omega) (by rw [List.length_append, hi])
  have g3 := getV_varB (pre ++ varB (zig (d.g - last)).toNat ++ varB (d.op - 8).toNat) (varB (d.cas + 3).toNat ++ r) (n := (d.obj + 1).toNat) (i := i + (varB (zig (d.g - last)).toNat).length + (varB (d.op - 8).toNat).length) (by omega) (by rw [List.length_append, List.length_append, hi])
  have g4 := getV_varB (pre ++ varB (zig (d.g - last)).toNat ++ varB (d.op - 8).toNat ++ varB (d.obj + 1).toNat) r (n := (d.cas + 3).toNat) (i := i + (varB (zig (d.g - last)).toNat).length + (varB (d.op - 8).toNat).length + (varB (d.obj + 1).toNat).length) (by omega) (by rw [List.length_append, List.length_append, List.length_append, hi])
  simp only [List.append_assoc] at g1 g2 g3 g4 ⊢
  have hd : rdD (zig (d.g - last)).toNat (d.op - 8).toNat (d.obj + 1).toNat (d.cas + 3).toNat last = d := by
    unfold rdD; rw [unzig_zig]; obtain ⟨dg, dop, dobj, dcas⟩ := d; simp only [Deed.mk.injEq] at *; refine ⟨?_, ?_, ?_, ?_⟩ <;> omega
  unfold readE; rw [g1]; simp only [pv]; rw [g2]; simp only [pv]; rw [g3]; simp only [pv]; rw [g4]; unfold rdAll; simp only [nv, pv, hd, h, hwl, Option.isSome_some, Bool.and_self, if_true, List.length_append]
  simp only [Option.some.injEq, Prod.mk.injEq, true_and]; omega
theorem packB_pos (last : Int) (d : Deed) : 0 < (packB last d).length := by
  rw [packB_eq, List.length_append]; have := List.length_pos_iff.2 (varB_ne (zig (d.g - last)).toNat)
  omega
theorem readL_pack : ∀ (l : List Deed) (f : Nat) (pre : List Int) (last : Int), packLOk last l = true → l.length ≤ f → readL (pre ++ packL last l) f pre.length last = some l
  | [], f, pre, last, _, _ => readL_end (by simp [packL])
  | d :: l, 0, pre, last, _, hf => by simp at hf
  | d :: l, f + 1, pre, last, h, hf => by
    simp only [packLOk, Bool.and_eq_true] at h; have hp := packB_pos last d
    have := readL_pack l f (pre ++ packB last d) d.g h.2 (by simpa using hf)
    rw [packL, readL, if_pos (by simp only [List.length_append]; omega), readE_pack pre _ h.1 rfl]; simp only []; rw [List.append_assoc, List.length_append] at this; rw [this]; rfl
theorem rdL_pack {l : List Deed} (h : someOk l = true) : rdL (packL 0 l) = l := by
  simp only [someOk, Bool.and_eq_true, decide_eq_true_eq] at h; have := readL_pack l 4 [] 0 h.2 h.1
  unfold rdL; rw [show packL 0 l = [] ++ packL 0 l by simp, show (0 : Nat) = ([] : List Int).length by rfl, this]; rfl
theorem putB_succ (n k : Nat) : putB n (k + 1) = putB (n / 256) k ++ [((n % 256 : Nat) : Int)] := by
  unfold putB; rw [List.range_succ, List.map_append, List.map_singleton]
  congr 1
  · refine List.map_congr_left fun j hj => ?_
    have hj : j < k := by simpa using hj
    unfold byt; rw [Nat.div_div_eq_div_mul, ← Nat.pow_succ', show k + 1 - 1 - j = (k - 1 - j) + 1 by omega]
  · simp [byt]
theorem getI_putB : ∀ (k n : Nat), n < 256 ^ k → getI (putB n k) = n
  | 0, n, h => by
    have : n = 0 := by simpa using h
    subst this
    rfl
  | k + 1, n, h => by
    rw [putB_succ, getI_snoc, getI_putB k (n / 256) (by rw [Nat.pow_succ] at h; omega)]; omega
theorem mid {a b c f : List Int} {i n : Nat} (h : f = a ++ (b ++ c)) (hi : a.length = i) (hn : b.length = n) : (f.drop i).take n = b := by
  subst h hi hn; rw [List.drop_left, List.take_left]
theorem fr_ok (seq : Nat) (d r : List Int) (hs : seq ≤ 100000) (hl : d.length ≤ 4000) (hb : ∀ x ∈ d, isB x) : frC (frameB seq d ++ r) = 0 ∧ seqF (frameB seq d ++ r) = seq ∧ cntF (frameB seq d ++ r) = d.length ∧ datF (frameB seq d ++ r) = d := by
  have e1 : ((frameB seq d ++ r).drop 1).take 3 = putB seq 3 := mid (a := [82]) (c := putB d.length 3 ++ (putB (crc (hd3 seq d)) 4 ++ (putB (crc d) 4 ++ (d ++ r)))) (by simp [frameB, hd15, hd11, hd3]) rfl (by simp)
  have e2 : ((frameB seq d ++ r).drop 4).take 3 = putB d.length 3 := mid (a := [82] ++ putB seq 3) (c := putB (crc (hd3 seq d)) 4 ++ (putB (crc d) 4 ++ (d ++ r))) (by simp [frameB, hd15, hd11, hd3]) (by simp) (by simp)
  have e3 : ((frameB seq d ++ r).drop 7).take 4 = putB (crc (hd3 seq d)) 4 := mid (a := hd3 seq d) (c := putB (crc d) 4 ++ (d ++ r)) (by simp [frameB, hd15, hd11]) (hd3_len _ _) (by simp)
  have e4 : ((frameB seq d ++ r).drop 11).take 4 = putB (crc d) 4 := mid (a := hd11 seq d) (c := d ++ r) (by simp [frameB, hd15]) (hd11_len _ _) (by simp)
  have e5 : ((frameB seq d ++ r).drop 15).take d.length = d := mid (a := hd15 seq d) (c := r) (by simp [frameB]) (hd15_len _ _) rfl
  have e6 : (frameB seq d ++ r).take 7 = hd3 seq d := by
    have := mid (a := []) (b := hd3 seq d) (c := putB (crc (hd3 seq d)) 4 ++ (putB (crc d) 4 ++ (d ++ r))) (f := frameB seq d ++ r) (i := 0) (by simp [frameB, hd15, hd11]) rfl (hd3_len _ _)
    simpa using this
  have hsq : seqF (frameB seq d ++ r) = seq := by unfold seqF; rw [e1]; exact getI_putB 3 seq (by omega)
  have hcn : cntF (frameB seq d ++ r) = d.length := by unfold cntF; rw [e2]; exact getI_putB 3 d.length (by omega)
  have hda : datF (frameB seq d ++ r) = d := by unfold datF; rw [hcn]; exact e5
  have hlen : (frameB seq d ++ r).length = 15 + d.length + r.length := by simp [frameB, hd15_len]; omega
  have h82 : (frameB seq d ++ r)[0]? = some 82 := by simp [frameB, hd15, hd11, hd3]
  have hh : headF (frameB seq d ++ r) = true := by
    unfold headF; rw [h82, e3, e6, hsq, hcn, getI_putB 4 _ (by have := crc_lt (hd3_isB seq d); omega)]; simp [hs, hl]
  refine ⟨?_, hsq, hcn, hda⟩; unfold frC; rw [if_neg (by omega), hh, if_neg (by simp), hcn, if_neg (by omega), e4, hda, getI_putB 4 _ (by have := crc_lt hb; omega), if_pos rfl]
theorem frame_len (seq : Nat) (d : List Int) : (frameB seq d).length = 15 + d.length := by simp [frameB, hd15_len]
theorem scan_strm : ∀ (cs : List (List Int)) (i : Nat) (pre : List Int) (out : List (List Int)), okC cs → out.length = i → i + cs.length ≤ 100001 → scan (pre ++ strm i cs) pre.length out = (out ++ cs, (pre ++ strm i cs).length, 0)
  | [], i, pre, out, _, _, _ => by
    rw [strm, scan_end (by simp)]; simp
  | d :: cs, i, pre, out, hc, ho, hi => by
    have hd := hc d (by simp)
    obtain ⟨q1, q2, q3, q4⟩ := fr_ok i d (strm (i + 1) cs) (by simp at hi; omega) hd.1 hd.2; have e : (pre ++ strm i (d :: cs)).drop pre.length = frameB i d ++ strm (i + 1) cs := by rw [List.drop_left]; rfl
    have hlt : pre.length < (pre ++ strm i (d :: cs)).length := by
      show pre.length < (pre ++ (frameB i d ++ strm (i + 1) cs)).length
      rw [List.length_append, List.length_append, frame_len]; omega
    rw [scan_go (by rw [e]; exact q1) (by rw [e, q2]; exact ho.symm) hlt, e, q3, q4]; have := scan_strm cs (i + 1) (pre ++ frameB i d) (out ++ [d]) (fun x hx => hc x (List.mem_cons_of_mem _ hx)) (by simp [ho]) (by simp at hi; omega)
    rw [List.length_append, frame_len, ← Nat.add_assoc] at this; have e2 : pre ++ strm i (d :: cs) = pre ++ frameB i d ++ strm (i + 1) cs := by rw [List.append_assoc]; rfl
    rw [e2, this]; simp
theorem take_cnk (l : List Deed) (k : Nat) : l.take (4 * k) ++ cnk l k = l.take (4 * (k + 1)) := by
  unfold cnk; rw [show 4 * (k + 1) = 4 * k + 4 by omega, List.take_add]
theorem logL_chs (S : Nat) (l : List Deed) (hf : fitL l = true) : ∀ (m k : Nat), k + m = rndL l → logL S (l.take (4 * k)) ((List.range' k m).map fun j => packL 0 (cnk l j)) = (l, S)
  | 0, k, h => by
    have : l.length ≤ 4 * k := by unfold rndL at h; omega
    rw [List.take_of_length_le this]
    rfl
  | m + 1, k, h => by
    have h1 : 4 * k < l.length := by unfold rndL at h; omega
    simp only [fitL, Bool.and_eq_true, decide_eq_true_eq] at hf; have hr := rdL_pack (cnk_some hf.1 k)
    rw [List.range'_succ, List.map_cons, logL, if_pos, hr, take_cnk]
    · exact logL_chs S l (by simp only [fitL, Bool.and_eq_true, decide_eq_true_eq]; exact hf) m (k + 1) (by omega)
    · unfold rdOk
      rw [hr, take_cnk]; simp only [fitL, Bool.and_eq_true, decide_eq_true_eq, List.length_take]; refine ⟨⟨?_, ?_, by omega⟩, by omega⟩
      · simp [cnk]; omega
      · exact List.all_eq_true.2 fun x hx => List.all_eq_true.1 hf.1 x (List.mem_of_mem_take hx)
theorem logR_logB {p : Int} {l : List Deed} (h : logOk p l = true) : logR (logB p l) = (p, l, 0) := by
  have h' := h
  simp only [logOk, Bool.and_eq_true] at h'; have hf := h'.2
  simp only [fitL, Bool.and_eq_true, decide_eq_true_eq] at hf; have hr : rndL l ≤ 751 := by unfold rndL; omega
  have hsc := scan_strm (chs p l (rndL l)) 0 [] [] (chs_ok h'.1 hf.1 _) rfl (by simp [chs]; omega)
  have hp : 0 ≤ p ∧ p ≤ 4294967295 := by simpa [numOk] using h'.1
  have hg := getV_varB wordL [] (n := p.toNat) (i := 7) (by omega) rfl
  rw [List.append_nil] at hg; have hg' : getV (hdB p) 7 = some (p.toNat, 7 + (varB p.toNat).length) := hg
  have hd : hdOk (hdB p) = true := by
    unfold hdOk; rw [hg']; simp [nv, hdB]
  have hL := logL_chs 0 l h'.2 (rndL l) 0 (by omega)
  rw [← List.range_eq_range'] at hL; unfold logR logB; simp only [List.nil_append, List.length_nil] at hsc; rw [hsc]; unfold chs; simp only []; rw [if_pos hd, hg']
  have hL' : logL 0 [] ((List.range (rndL l)).map fun j => packL 0 (cnk l j)) = (l, 0) := hL
  rw [hL']; simp only [nv]; rw [Int.toNat_of_nonneg hp.1]; rfl
end HS
