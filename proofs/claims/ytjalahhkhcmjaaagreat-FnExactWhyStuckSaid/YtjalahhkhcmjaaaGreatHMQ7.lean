import Derived.Test.YtjalahhkhcmjaaaGreatHMQ1
import Derived.Test.YtjalahhkhcmjaaaGreatG9
/-
  My own texts (road H): HMQ7.
-/
set_option linter.unusedSimpArgs false
set_option linter.unusedVariables false
namespace HT
open Go Go.Proofs HK
theorem bsz (a : Array UInt8) : (⟨a⟩ : ByteArray).size = a.size := rfl
abbrev spB : ByteArray := ⟨#[32]⟩
def fT (b : Bool) (n : Int) (w : ByteArray) : ByteArray := if b && decide (n = -1) then w else numB n
def fO (b : Bool) (n : Int) : Bool := (b && decide (n = -1)) || isNumB n
theorem fT_size (b : Bool) (n : Int) : (fT b n nilB).size ≤ 4294967296 := by
  unfold fT; have := numB_size n
  split
  · decide
  · omega
def hasCh (op : Int) : Bool := decide (op = 8) || decide (op = 9) || decide (op = 10)
def fv (i : Instr) (j : Nat) : Int := match j with | 0 => i.a | 1 => i.b | _ => i.c
def fb (i : Instr) (j : Nat) : Bool := decide (j = 0) && hasCh i.op
def ftx (i : Instr) (j : Nat) : ByteArray := fT (fb i j) (fv i j) nilB
def fok (i : Instr) (j : Nat) : Bool := fO (fb i j) (fv i j)
def cat (i : Instr) : Nat → ByteArray
  | 0 => wordB i.op
  | j + 1 => cat i j ++ (spB ++ ftx i j)
def okTo (i : Instr) : Nat → Bool
  | 0 => true
  | j + 1 => okTo i j && fok i j
theorem okTo_le {i : Instr} : ∀ {k j : Nat}, j ≤ k → okTo i k = true → okTo i j = true
  | 0, j, h, _ => by have : j = 0 := by omega
                     subst this; rfl
  | k + 1, j, h, e => by
    simp only [okTo, Bool.and_eq_true] at e; by_cases hj : j = k + 1
    · subst hj; simp [okTo, e]
    · exact okTo_le (by omega) e.1
theorem cat_size (i : Instr) : ∀ j : Nat, (cat i j).size ≤ 8 + j * 4294967300
  | 0 => by have := wordB_size i.op; simpa [cat] using this
  | j + 1 => by
    have h1 := cat_size i j
    have h2 := fT_size (fb i j) (fv i j)
    simp only [cat, ftx, ByteArray.size_append, bsz]; simp; omega
def insT (i : Instr) : ByteArray := if decide (0 ≤ fieldsOf i.op) && restOk i (fieldsOf i.op) then if okTo i (fieldsOf i.op).toNat then cat i (fieldsOf i.op).toNat else noB else noB
theorem fieldsOf_nat {op : Int} (h : 0 ≤ fieldsOf op) : ∃ K : Nat, fieldsOf op = K ∧ K ≤ 3 := by
  refine ⟨(fieldsOf op).toNat, by omega, ?_⟩; unfold fieldsOf; repeat' split
  all_goals omega
theorem insT_no {i : Instr} {K j : Nat} (hK : fieldsOf i.op = K) (hj : j < K) (h : fok i j = false) : insT i = noB := by
  have : okTo i K = false := by
    cases e : okTo i K with
    | false => rfl
    | true =>
      have := okTo_le (show j + 1 ≤ K by omega) e
      simp [okTo, h] at this
  unfold insT; rw [hK, Int.toNat_natCast, this]; simp
theorem insT_yes {i : Instr} {K : Nat} (hK : fieldsOf i.op = K) (hr : restOk i K = true) (h : okTo i K = true) : insT i = cat i K := by
  unfold insT; rw [hK, Int.toNat_natCast, h, hr]; simp
set_option maxHeartbeats 1000000 in
theorem hasCh_s (op : Int) : Fn Tryz.prog 53 [.int .i64 op] (.bool (hasCh op)) := by
  refine Fn.intro Tryz.func53 (by decide) rfl (rs := [.tmp 2]) rfl Tryz.ntmps53 (by simp) ?_; refine SW.rg fun K hK => ?_; simp -implicitDefEqProofs
  repeat (refine And.intro (by clear hK; first | omega | (intros; simp_all; done) | (intros; grind)) ?_)
  refine hK _ ?_; clear hK K; refine SW.rg fun K hK => ?_; simp -implicitDefEqProofs; repeat (refine And.intro (by clear hK; first | omega | (intros; simp_all; done) | (intros; grind)) ?_)
  refine hK _ ?_; clear hK K; refine SW.ret ?_; simp [Ex.then, Ex.ib]
  all_goals first | rfl | (unfold hasCh; rfl)
set_option maxHeartbeats 1000000 in
theorem hasCh_i (op : Int) : Fn Tryz.prog 67 [.int .i64 op] (.bool (hasCh op)) := by
  refine Fn.intro Tryz.func67 (by decide) rfl (rs := [.tmp 2]) rfl Tryz.ntmps67 (by simp) ?_; refine SW.rg fun K hK => ?_; simp -implicitDefEqProofs
  repeat (refine And.intro (by clear hK; first | omega | (intros; simp_all; done) | (intros; grind)) ?_)
  refine hK _ ?_; clear hK K; refine SW.rg fun K hK => ?_; simp -implicitDefEqProofs; repeat (refine And.intro (by clear hK; first | omega | (intros; simp_all; done) | (intros; grind)) ?_)
  refine hK _ ?_; clear hK K; refine SW.ret ?_; simp [Ex.then, Ex.ib]
  all_goals first | rfl | (unfold hasCh; rfl)
set_option maxHeartbeats 1000000 in
theorem l05Num_f (n : Int) (w : ByteArray) : Fn Tryz.prog 52 [.int .i64 n, .bool false, .str w] (.tup [.str (numB n), .bool (isNumB n)]) := by
  refine Fn.intro Tryz.func52 (by decide) rfl (rs := [.tmp 6, .tmp 7]) rfl Tryz.ntmps52 (by simp) ?_; refine SW.rg fun K hK => ?_; simp -implicitDefEqProofs
  repeat (refine And.intro (by clear hK; first | omega | (intros; simp_all; done) | (intros; grind)) ?_)
  refine hK _ ?_; clear hK K; refine SW.seqK fun K1 hK1 => ?_; refine SW.rg fun K hK => ?_; simp -implicitDefEqProofs; repeat (refine And.intro (by clear hK; first | omega | (intros; simp_all; done) | (intros; grind)) ?_)
  refine hK _ ?_; clear hK K; refine SW.cond _ rfl (by simp) ?_ ?_
  case' refine_2 =>
   intro hb1
   first
   | (exfalso; simp at hb1; done)
   | (exfalso; simp at hb1; omega)
   | (
    refine SW.skip ?_; refine hK1 _ ?_; refine SW.rg fun K hK => ?_; simp -implicitDefEqProofs; repeat (refine And.intro (by clear hK; first | omega | (intros; simp_all; done) | (intros; grind)) ?_)
    first
      | refine CallQ.fzE (numT_s n) (by simp) ?_
      | refine CallK.fzE (numT_s n) (by simp) ?_
    simp -implicitDefEqProofs; repeat (refine And.intro (by clear hK; first | omega | (intros; simp_all; done) | (intros; grind)) ?_)
    first
      | refine CallQ.fzE (isNum_s n) (by simp) ?_
      | refine CallK.fzE (isNum_s n) (by simp) ?_
    simp -implicitDefEqProofs; repeat (refine And.intro (by clear hK; first | omega | (intros; simp_all; done) | (intros; grind)) ?_)
    refine hK _ ?_; clear hK K; refine SW.ret ?_
    simp [Ex.then, Ex.ib])
  rotate_right
  case' _ =>
   intro hb1
   first
   | (exfalso; simp at hb1; done)
   | (exfalso; simp at hb1; omega)
   | (
    refine SW.rg fun K hK => ?_; simp -implicitDefEqProofs; repeat (refine And.intro (by clear hK; first | omega | (intros; simp_all; done) | (intros; grind)) ?_)
    refine hK _ ?_; clear hK K; refine SW.ret ?_
    simp [Ex.then, Ex.ib])
theorem l05Num_g (n : Int) (b : Bool) (w : ByteArray) : Fn Tryz.prog 52 [.int .i64 n, .bool b, .str w] (.tup [.str (fT b n w), .bool (fO b n)]) := by
  cases b
  · have h := l05Num_f n w
    simpa [fT, fO] using h
  · have h := l05Num_s n w
    simpa [fT, fO, anyB, okA] using h
set_option maxHeartbeats 1000000 in
theorem insText_s (i : Instr) : Fn Tryz.prog 19 [.agg i.cl] (.str (insT i)) := by
  refine Fn.intro Tryz.func19 (by decide) rfl (rs := [.tmp 2]) rfl Tryz.ntmps19 (by simp) ?_; obtain ⟨op, a, b, c⟩ := i; refine SW.rg fun K hK => ?_; simp -implicitDefEqProofs
  repeat (refine And.intro (by clear hK; first | omega | (intros; simp_all; done) | (intros; grind)) ?_)
  refine hK _ ?_; clear hK K; refine SW.rg fun K hK => ?_; simp -implicitDefEqProofs; repeat (refine And.intro (by clear hK; first | omega | (intros; simp_all; done) | (intros; grind)) ?_)
  first
    | refine CallQ.fzE (fields_s op) (by simp) ?_
    | refine CallK.fzE (fields_s op) (by simp) ?_
  simp -implicitDefEqProofs; repeat (refine And.intro (by clear hK; first | omega | (intros; simp_all; done) | (intros; grind)) ?_)
  refine hK _ ?_; clear hK K; refine SW.seqK fun K1 hK1 => ?_; refine SW.rg fun K hK => ?_; simp -implicitDefEqProofs; repeat (refine And.intro (by clear hK; first | omega | (intros; simp_all; done) | (intros; grind)) ?_)
  first
    | refine CallQG.fzE (by simp) (fun _ => rest_s ⟨op, a, b, c⟩ (fieldsOf op)) (by simp) ?_
    | refine CallG.fzE (by simp) (fun _ => rest_s ⟨op, a, b, c⟩ (fieldsOf op)) (by simp) ?_
    | refine CallQ.fzE (rest_s ⟨op, a, b, c⟩ (fieldsOf op)) (by simp) ?_
    | refine CallK.fzE (rest_s ⟨op, a, b, c⟩ (fieldsOf op)) (by simp) ?_
  simp -implicitDefEqProofs; repeat (refine And.intro (by clear hK; first | omega | (intros; simp_all; done) | (intros; grind)) ?_)
  refine hK _ ?_; clear hK K; refine SW.cond _ rfl (by simp) ?_ ?_
  case' refine_2 =>
   intro hb1
   first
   | (exfalso; simp at hb1; done)
   | (exfalso; simp at hb1; omega)
   | (
    have hf : 0 ≤ fieldsOf op := by simp at hb1; omega
    have hr : restOk ⟨op, a, b, c⟩ (fieldsOf op) = true := by revert hb1; cases restOk ⟨op, a, b, c⟩ (fieldsOf op) <;> simp
    obtain ⟨M, hM, hM3⟩ := fieldsOf_nat hf; rw [hM] at hr; refine SW.skip ?_; refine hK1 _ ?_; refine SW.rg fun K hK => ?_; simp -implicitDefEqProofs
    repeat (refine And.intro (by clear hK; first | omega | (intros; simp_all; done) | (intros; grind)) ?_)
    first
      | refine CallQ.fzE (opWord_s op) (by simp) ?_
      | refine CallK.fzE (opWord_s op) (by simp) ?_
    simp -implicitDefEqProofs; repeat (refine And.intro (by clear hK; first | omega | (intros; simp_all; done) | (intros; grind)) ?_)
    refine hK _ ?_; clear hK K; refine SW.seqK fun K2 hK2 => ?_; refine SW.rg fun K hK => ?_; simp -implicitDefEqProofs [hM]; repeat (refine And.intro (by clear hK; first | omega | (intros; simp_all; done) | (intros; grind)) ?_)
    refine hK _ ?_; clear hK K; refine SW.block ?_
    refine SW.loop (α := Nat) (fun j => ⟨[(33, .int .i64 j), (32, .int .i64 M), (31, .sl 1 0 M), (4, .str (cat ⟨op, a, b, c⟩ j)), (1, .ptr 0 0 0)], [some ⟨4, [[.int .i64 op, .int .i64 a, .int .i64 b, .int .i64 c]]⟩, some ⟨1, [[.int .i64 a], [.int .i64 b], [.int .i64 c]]⟩]⟩) (fun j => j ≤ M ∧ okTo ⟨op, a, b, c⟩ j = true) (fun j => M - j) (0) ?_ ?_ (fun j hx => ?_)
    case' refine_1 =>
     exact ⟨by omega, rfl⟩
    case' refine_2 =>
     exact Wk.cut (by simp) (by simp [subE, cat]) (by simp [cutH]) (by simp [lowE, lowN]) (by simp)
    case' refine_3 =>
     skip
     refine SW.rg fun K hK => ?_; simp -implicitDefEqProofs; repeat (refine And.intro (by clear hK; first | omega | (intros; simp_all; done) | (intros; grind)) ?_)
     refine hK _ ?_; clear hK K; refine SW.seqK fun K3 hK3 => ?_; refine SW.cond _ rfl (by simp) ?_ ?_
     case' refine_2 =>
      intro hb2
      first
      | (exfalso; simp at hb2; done)
      | (exfalso; simp at hb2; omega)
      | (
       have hjk : j = M := by simp at hb2; omega
       have hres : insT ⟨op, a, b, c⟩ = cat ⟨op, a, b, c⟩ j := by rw [hjk]; exact insT_yes hM hr (hjk ▸ hx.2)
       refine SW.exit ?_; simp only [Ex.then, Ex.ib]; try simp only [if_true, if_false, reduceIte]
       refine hK2 _ ?_; refine SW.rg fun K hK => ?_; simp -implicitDefEqProofs; repeat (refine And.intro (by clear hK; first | omega | (intros; simp_all; done) | (intros; grind)) ?_)
       refine hK _ ?_; clear hK K; refine SW.ret ?_; simp [Ex.then, Ex.ib]
       all_goals first
         | (rw [hres]; done)
         | fail)
     rotate_right
     case' _ =>
      intro hb2
      first
      | (exfalso; simp at hb2; done)
      | (exfalso; simp at hb2; omega)
      | (
       have hlt : j < M := by simp at hb2; omega
       have hget : ([[AV.int .i64 a], [.int .i64 b], [.int .i64 c]] : List (List AV))[j]? = some [.int .i64 (fv ⟨op, a, b, c⟩ j)] := by
         rcases j with _ | _ | _ | j
         · rfl
         · rfl
         · rfl
         · omega
       have hgE : ∀ h, ([[AV.int .i64 a], [.int .i64 b], [.int .i64 c]] : List (List AV))[j]'h = [.int .i64 (fv ⟨op, a, b, c⟩ j)] := fun h => (List.getElem?_eq_some_iff.1 hget).2
       have hcs := cat_size ⟨op, a, b, c⟩ j
       have hfs := fT_size (fb ⟨op, a, b, c⟩ j) (fv ⟨op, a, b, c⟩ j)
       have hj3 : j < 3 := by omega
       have hfb : ((j : Int) == 0 && hasCh op) = fb ⟨op, a, b, c⟩ j := by
         simp only [fb]; congr 1; rw [Bool.eq_iff_iff]; simp
       refine SW.skip ?_; refine hK3 _ ?_; refine SW.seqK fun K4 hK4 => ?_; refine SW.block ?_; refine SW.rg fun K hK => ?_; simp -implicitDefEqProofs [hgE, hj3]
       repeat (refine And.intro (by clear hK; first | omega | (intros; simp_all; done) | (intros; grind)) ?_)
       refine hK _ ?_; clear hK K; refine SW.rg fun K hK => ?_; simp -implicitDefEqProofs [hfb]; repeat (refine And.intro (by clear hK; first | omega | (intros; simp_all; done) | (intros; grind)) ?_)
       first
         | refine CallQG.fzE (by simp) (fun _ => hasCh_s op) (by simp) ?_
         | refine CallG.fzE (by simp) (fun _ => hasCh_s op) (by simp) ?_
         | refine CallQ.fzE (hasCh_s op) (by simp) ?_
         | refine CallK.fzE (hasCh_s op) (by simp) ?_
       simp -implicitDefEqProofs [hfb]; repeat (refine And.intro (by clear hK; first | omega | (intros; simp_all; done) | (intros; grind)) ?_)
       first
         | refine CallQ.fzE (l05Num_g (fv ⟨op, a, b, c⟩ j) (fb ⟨op, a, b, c⟩ j) nilB) (by simp) ?_
         | refine CallK.fzE (l05Num_g (fv ⟨op, a, b, c⟩ j) (fb ⟨op, a, b, c⟩ j) nilB) (by simp) ?_
       simp -implicitDefEqProofs [hfb]; repeat (refine And.intro (by clear hK; first | omega | (intros; simp_all; done) | (intros; grind)) ?_)
       refine hK _ ?_; clear hK K; refine SW.seqK fun K5 hK5 => ?_; refine SW.rg fun K hK => ?_; simp -implicitDefEqProofs; repeat (refine And.intro (by clear hK; first | omega | (intros; simp_all; done) | (intros; grind)) ?_)
       refine hK _ ?_; clear hK K; refine SW.cond _ rfl (by simp) ?_ ?_
       case' refine_2 =>
        intro hb3
        first
        | (exfalso; simp at hb3; done)
        | (exfalso; simp at hb3; omega)
        | (
         have hnx : okTo ⟨op, a, b, c⟩ (j + 1) = true := by simp only [okTo, hx.2, Bool.true_and]; simpa [fok] using hb3
         refine SW.skip ?_; refine hK5 _ ?_; refine SW.regionE fun K hK => ?_; simp -implicitDefEqProofs [ByteArray.size_append, bsz]; repeat (refine And.intro (by clear hK; first | omega | (intros; simp_all; done) | (intros; grind)) ?_)
         refine hK _ ?_; clear hK K; refine hK4 _ ?_; refine SW.regionE fun K hK => ?_; simp -implicitDefEqProofs; repeat (refine And.intro (by clear hK; first | omega | (intros; simp_all; done) | (intros; grind)) ?_)
         refine hK _ ?_; clear hK K; refine ⟨j + 1, ⟨by omega, hnx⟩, by omega, ?_⟩
         exact Wk.cut (by simp) (by simp [subE, cat, ftx, fv, fb, ByteArray.append_assoc, wrap1 j (by omega)]) (by simp [cutH]) (by simp [lowE, lowN]) (by simp))
       rotate_right
       case' _ =>
        intro hb3
        first
        | (exfalso; simp at hb3; done)
        | (exfalso; simp at hb3; omega)
        | (
         have hres := insT_no (i := ⟨op, a, b, c⟩) (j := j) hM hlt (by simpa [fok] using hb3)
         refine SW.rg fun K hK => ?_; simp -implicitDefEqProofs; repeat (refine And.intro (by clear hK; first | omega | (intros; simp_all; done) | (intros; grind)) ?_)
         refine hK _ ?_; clear hK K; refine SW.ret ?_; simp [Ex.then, Ex.ib]
         all_goals first
           | (rw [hres]; done)
           | fail)))
  rotate_right
  case' _ =>
   intro hb1
   first
   | (exfalso; simp at hb1; done)
   | (exfalso; simp at hb1; omega)
   | (
    have hres : insT ⟨op, a, b, c⟩ = noB := by
      have hcc : (decide (0 ≤ fieldsOf op) && restOk ⟨op, a, b, c⟩ (fieldsOf op)) = false := by
        cases h2 : restOk ⟨op, a, b, c⟩ (fieldsOf op) with
        | false => simp
        | true => simp [h2] at hb1; simp; omega
      unfold insT; rw [hcc]; simp
    refine SW.rg fun K hK => ?_; simp -implicitDefEqProofs; repeat (refine And.intro (by clear hK; first | omega | (intros; simp_all; done) | (intros; grind)) ?_)
    refine hK _ ?_; clear hK K; refine SW.ret ?_; simp [Ex.then, Ex.ib]
    all_goals first
      | (rw [hres]; done)
      | fail)
end HT
