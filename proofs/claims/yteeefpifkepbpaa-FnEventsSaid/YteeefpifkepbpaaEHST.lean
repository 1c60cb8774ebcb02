import Derived.Test.YteeefpifkepbpaaEHSQ
/-
  My own texts (road H): HST.
-/
set_option linter.unusedSimpArgs false
namespace HS
open Go Go.Proofs HK
def fitD (d : Deed) : Bool := (decide (0 ≤ d.g) && decide (d.g ≤ 9)) && (decide (8 ≤ d.op) && decide (d.op ≤ 15)) && (decide (-1 ≤ d.obj) && decide (d.obj ≤ 99)) && (decide (-3 ≤ d.cas) && decide (d.cas ≤ 99))
def fitL (l : List Deed) : Bool := l.all fitD && decide (l.length ≤ 3000)
theorem fit_no {l : List Deed} {k : Nat} {x : Deed} (h : l[k]? = some x) (hx : fitD x = false) : fitL l = false := by
  have : l.all fitD = false := by
    refine Bool.eq_false_iff.2 fun h9 => ?_; have := List.all_eq_true.1 h9 x (List.mem_of_getElem? h)
    rw [hx] at this; cases this
  simp [fitL, this]
theorem fit_next {l : List Deed} {k : Nat} {x : Deed} (h : l[k]? = some x) (ha : (l.take k).all fitD = true) (hx : fitD x = true) : (l.take (k + 1)).all fitD = true := by
  rw [List.take_add_one, h, List.all_append, ha]; simp [hx]
theorem bitx {a b : Nat} (ha : a < 2 ^ 32) (hb : b < 2 ^ 32) : bitv .xor .i64 (a : Int) (b : Int) = ((a ^^^ b : Nat) : Int) := by
  have hx : a ^^^ b < 2 ^ 32 := Nat.xor_lt_two_pow ha hb
  unfold bitv; simp only [BitVec.ofInt_natCast, BitVec.toNat_xor, BitVec.toNat_ofNat]
  rw [Nat.mod_eq_of_lt (show a < 2 ^ IntKind.bits .i64 by show a < 2 ^ 64; omega), Nat.mod_eq_of_lt (show b < 2 ^ IntKind.bits .i64 by show b < 2 ^ 64; omega)]; exact wrapI _ (by omega) (by omega)
theorem bita {a : Nat} (ha : a < 2 ^ 32) : bitv .and .i64 (a : Int) 1 = ((a % 2 : Nat) : Int) := by
  have e : (1 : Int) = ((1 : Nat) : Int) := rfl
  unfold bitv; rw [e]; simp only [BitVec.ofInt_natCast, BitVec.toNat_and, BitVec.toNat_ofNat]
  rw [Nat.mod_eq_of_lt (show a < 2 ^ IntKind.bits .i64 by show a < 2 ^ 64; omega), Nat.mod_eq_of_lt (show 1 < 2 ^ IntKind.bits .i64 by show 1 < 2 ^ 64; omega), Nat.and_one_is_mod]; exact wrapI _ (by omega) (by omega)
def crcS (c : Nat) : Nat := if c % 2 = 1 then (c / 2) ^^^ 3988292384 else c / 2
def crcI : Nat → Nat → Nat
  | 0, c => c
  | j + 1, c => crcS (crcI j c)
def crcL (c : Nat) (l : List Int) : Nat := l.foldl (fun c x => crcI 8 (c ^^^ x.toNat)) c
def crc (l : List Int) : Nat := crcL 4294967295 l ^^^ 4294967295
theorem crcS_lt {c : Nat} (h : c < 2 ^ 32) : crcS c < 2 ^ 32 := by
  unfold crcS; split
  · exact Nat.xor_lt_two_pow (by omega) (by omega)
  · omega
theorem crcI_lt {c : Nat} (h : c < 2 ^ 32) : ∀ j, crcI j c < 2 ^ 32
  | 0 => h
  | j + 1 => crcS_lt (crcI_lt h j)
theorem crcL_snoc (c : Nat) (l : List Int) (x : Int) : crcL c (l ++ [x]) = crcI 8 (crcL c l ^^^ x.toNat) := by simp [crcL]
theorem crcL_lt : ∀ {l : List Int} {c : Nat}, c < 2 ^ 32 → (∀ x ∈ l, isB x) → crcL c l < 2 ^ 32
  | [], _, h, _ => h
  | x :: l, c, h, hb => by
    have hx := hb x (by simp)
    unfold isB at hx; have h1 : c ^^^ x.toNat < 2 ^ 32 := Nat.xor_lt_two_pow h (by omega)
    exact crcL_lt (l := l) (crcI_lt h1 8) fun y hy => hb y (by simp [hy])
theorem crcL_take {l : List Int} {k : Nat} {x : Int} (c : Nat) (h : l[k]? = some x) : crcL c (l.take (k + 1)) = crcI 8 (crcL c (l.take k) ^^^ x.toNat) := by
  rw [List.take_add_one, h]; exact crcL_snoc _ _ _
def getI (l : List Int) : Nat := l.foldl (fun n x => 256 * n + x.toNat) 0
theorem getI_snoc (l : List Int) (x : Int) : getI (l ++ [x]) = 256 * getI l + x.toNat := by simp [getI]
theorem getI_take {l : List Int} {k : Nat} {x : Int} (h : l[k]? = some x) : getI (l.take (k + 1)) = 256 * getI (l.take k) + x.toNat := by
  rw [List.take_add_one, h]; exact getI_snoc _ _
theorem getI_lt4 {l : List Int} (hb : ∀ x ∈ l, isB x) (h4 : l.length ≤ 4) : getI l < 2 ^ 32 := by
  match l, hb, h4 with
  | [], _, _ => decide
  | [a], hb, _ => have h1 := hb a (by simp); unfold isB at h1; simp only [getI, List.foldl_cons, List.foldl_nil]; omega
  | [a, b], hb, _ => have h1 := hb a (by simp); have h2 := hb b (by simp); unfold isB at h1 h2; simp only [getI, List.foldl_cons, List.foldl_nil]; omega
  | [a, b, c], hb, _ => have h1 := hb a (by simp); have h2 := hb b (by simp); have h3 := hb c (by simp); unfold isB at h1 h2 h3; simp only [getI, List.foldl_cons, List.foldl_nil]; omega
  | [a, b, c, d], hb, _ => have h1 := hb a (by simp); have h2 := hb b (by simp); have h3 := hb c (by simp); have h4 := hb d (by simp); unfold isB at h1 h2 h3 h4; simp only [getI, List.foldl_cons, List.foldl_nil]; omega
theorem getI_ltT {l : List Int} {k : Nat} (hb : ∀ x ∈ l, isB x) (h4 : l.length ≤ 4) : getI (l.take k) < 2 ^ 32 := getI_lt4 (fun x hx => hb x (List.mem_of_mem_take hx)) (by rw [List.length_take]; omega)
set_option maxHeartbeats 1000000 in
theorem within_ok (a lo hi : Int) : Fn Try.prog 82 [.int .i64 a, .int .i64 lo, .int .i64 hi] (.bool (decide (lo ≤ a) && decide (a < hi))) := by
  refine Fn.intro Try.func82 (by decide) rfl (rs := [.tmp 6]) rfl Try.ntmps82 (by simp) ?_; refine SW.rg fun K hK => ?_; simp -implicitDefEqProofs
  repeat (refine And.intro (by clear hK; first | omega | (intros; simp_all; done) | (intros; grind)) ?_)
  refine hK _ ?_; clear hK K; refine SW.rg fun K hK => ?_; simp -implicitDefEqProofs; repeat (refine And.intro (by clear hK; first | omega | (intros; simp_all; done) | (intros; grind)) ?_)
  refine hK _ ?_; clear hK K; refine SW.ret ?_; simp [Ex.then, Ex.ib]
  all_goals simp
set_option maxHeartbeats 1000000 in
theorem fits_i (l : List Deed) (hl : l.length ≤ 2 ^ 40) : Fn Try.prog 48 [.fz (DS l)] (.bool (fitL l)) := by
  refine Fn.intro Try.func48 (by decide) rfl (rs := [.tmp 2]) rfl Try.ntmps48 (by simp) ?_; refine SW.rg fun K hK => ?_; simp -implicitDefEqProofs
  repeat (refine And.intro (by clear hK; first | omega | (intros; simp_all; done) | (intros; grind)) ?_)
  refine hK _ ?_; clear hK K; refine SW.seqK fun K1 hK1 => ?_; refine SW.rg fun K hK => ?_; simp -implicitDefEqProofs; repeat (refine And.intro (by clear hK; first | omega | (intros; simp_all; done) | (intros; grind)) ?_)
  refine hK _ ?_; clear hK K; refine SW.block ?_
  refine SW.loop (α := Nat) (fun k => ⟨[(7, .int .i64 k), (6, .int .i64 l.length), (5, .fz (DS l)), (0, .fz (DS l))], []⟩) (fun k => k ≤ l.length ∧ (l.take k).all fitD = true) (fun k => l.length - k) (0) ?_ ?_ (fun k hx => ?_)
  case' refine_1 =>
   simp
  case' refine_2 =>
   exact Wk.cut (by simp) (by simp [subE]) (by simp [cutH]) (by simp [lowE, lowN]) (by simp)
  case' refine_3 =>
   skip
   refine SW.rg fun K hK => ?_; simp -implicitDefEqProofs; repeat (refine And.intro (by clear hK; first | omega | (intros; simp_all; done) | (intros; grind)) ?_)
   refine hK _ ?_; clear hK K; refine SW.seqK fun K2 hK2 => ?_; refine SW.cond _ rfl (by simp) ?_ ?_
   case' refine_2 =>
    intro hb1
    first
    | (exfalso; simp at hb1; done)
    | (exfalso; simp at hb1; omega)
    | (
     have hk9 : k = l.length := by simp at hb1; omega
     have hres : fitL l = decide (l.length ≤ 3000) := by
       have h8 := hx.2
       rw [hk9, List.take_length] at h8; simp [fitL, h8]
     refine SW.exit ?_; simp only [Ex.then, Ex.ib]; try simp only [if_true, if_false, reduceIte]
     refine hK1 _ ?_; refine SW.rg fun K hK => ?_; simp -implicitDefEqProofs; repeat (refine And.intro (by clear hK; first | omega | (intros; simp_all; done) | (intros; grind)) ?_)
     refine hK _ ?_; clear hK K; refine SW.ret ?_; simp [Ex.then, Ex.ib]
     all_goals first
       | (rw [hres]; done)
       | (rw [hres]; exact decide_eq_decide.2 (by omega))
       | fail)
   rotate_right
   case' _ =>
    intro hb1
    first
    | (exfalso; simp at hb1; done)
    | (exfalso; simp at hb1; omega)
    | (
     have hlt : k < l.length := by simp at hb1; omega
     obtain ⟨x, hxk⟩ : ∃ q, l[k]? = some q := ⟨_, List.getElem?_eq_getElem hlt⟩
     have xE : ∀ h, l[k]'h = x := fun h => (List.getElem?_eq_some_iff.1 hxk).2
     refine SW.skip ?_; refine hK2 _ ?_; refine SW.seqK fun K3 hK3 => ?_; refine SW.block ?_; refine SW.rg fun K hK => ?_; simp -implicitDefEqProofs [hxk]
     repeat (refine And.intro (by clear hK; first | omega | (intros; simp_all; done) | (intros; grind)) ?_)
     refine hK _ ?_; clear hK K; refine SW.rg fun K hK => ?_; simp -implicitDefEqProofs; repeat (refine And.intro (by clear hK; first | omega | (intros; simp_all; done) | (intros; grind)) ?_)
     first
       | refine CallQG.fzE (by simp) (fun _ => within_ok x.g 0 10) (by simp) ?_
       | refine CallG.fzE (by simp) (fun _ => within_ok x.g 0 10) (by simp) ?_
       | refine CallQ.fzE (within_ok x.g 0 10) (by simp) ?_
       | refine CallK.fzE (within_ok x.g 0 10) (by simp) ?_
     simp -implicitDefEqProofs; repeat (refine And.intro (by clear hK; first | omega | (intros; simp_all; done) | (intros; grind)) ?_)
     first
       | refine CallQG.fzE (by simp) (fun _ => shared_i x.op) (by simp) ?_
       | refine CallG.fzE (by simp) (fun _ => shared_i x.op) (by simp) ?_
       | refine CallQ.fzE (shared_i x.op) (by simp) ?_
       | refine CallK.fzE (shared_i x.op) (by simp) ?_
     simp -implicitDefEqProofs; repeat (refine And.intro (by clear hK; first | omega | (intros; simp_all; done) | (intros; grind)) ?_)
     first
       | refine CallQG.fzE (by simp) (fun _ => within_ok x.obj (-1) 100) (by simp) ?_
       | refine CallG.fzE (by simp) (fun _ => within_ok x.obj (-1) 100) (by simp) ?_
       | refine CallQ.fzE (within_ok x.obj (-1) 100) (by simp) ?_
       | refine CallK.fzE (within_ok x.obj (-1) 100) (by simp) ?_
     simp -implicitDefEqProofs; repeat (refine And.intro (by clear hK; first | omega | (intros; simp_all; done) | (intros; grind)) ?_)
     first
       | refine CallQG.fzE (by simp) (fun _ => within_ok x.cas (-3) 100) (by simp) ?_
       | refine CallG.fzE (by simp) (fun _ => within_ok x.cas (-3) 100) (by simp) ?_
       | refine CallQ.fzE (within_ok x.cas (-3) 100) (by simp) ?_
       | refine CallK.fzE (within_ok x.cas (-3) 100) (by simp) ?_
     simp -implicitDefEqProofs; repeat (refine And.intro (by clear hK; first | omega | (intros; simp_all; done) | (intros; grind)) ?_)
     refine hK _ ?_; clear hK K; refine SW.cond _ rfl (by simp) ?_ ?_
     case' refine_2 =>
      intro hb2
      first
      | (exfalso; simp at hb2; done)
      | (exfalso; simp at hb2; omega)
      | (
       have hgood : fitD x = true := by
         simp [fitD]; simp at hb2; omega
       have hnx := fit_next hxk hx.2 hgood
       refine SW.skip ?_; refine hK3 _ ?_; refine SW.regionE fun K hK => ?_; simp -implicitDefEqProofs; repeat (refine And.intro (by clear hK; first | omega | (intros; simp_all; done) | (intros; grind)) ?_)
       refine hK _ ?_; clear hK K; refine ⟨k + 1, ⟨by omega, hnx⟩, by omega, ?_⟩
       exact Wk.cut (by simp) (by simp [subE, wrap1 k (by omega)]) (by simp [cutH]) (by simp [lowE, lowN]) (by simp))
     rotate_right
     case' _ =>
      intro hb2
      first
      | (exfalso; simp at hb2; done)
      | (exfalso; simp at hb2; omega)
      | (
       have hbad : fitD x = false := by
         cases h9 : fitD x with
         | false => rfl
         | true =>
           exfalso; simp [fitD] at h9; simp at hb2; omega
       have hres := fit_no hxk hbad
       refine SW.rg fun K hK => ?_; simp -implicitDefEqProofs; repeat (refine And.intro (by clear hK; first | omega | (intros; simp_all; done) | (intros; grind)) ?_)
       refine hK _ ?_; clear hK K; refine SW.ret ?_; simp [Ex.then, Ex.ib]
       all_goals first
         | (rw [hres]; done)
         | (rw [hres]; exact decide_eq_decide.2 (by omega))
         | fail))
set_option maxHeartbeats 1000000 in
theorem crc_i (l : List Int) (hl : l.length ≤ 2 ^ 40) (hb : ∀ x ∈ l, isB x) : Fn Try.prog 102 [.fz (YS l)] (.int .i64 (crc l : Nat)) := by
  refine Fn.intro Try.func102 (by decide) rfl (rs := [.tmp 2]) rfl Try.ntmps102 (by simp) ?_; refine SW.rg fun K hK => ?_; simp -implicitDefEqProofs
  repeat (refine And.intro (by clear hK; first | omega | (intros; simp_all; done) | (intros; grind)) ?_)
  refine hK _ ?_; clear hK K; refine SW.rg fun K hK => ?_; simp -implicitDefEqProofs; repeat (refine And.intro (by clear hK; first | omega | (intros; simp_all; done) | (intros; grind)) ?_)
  refine hK _ ?_; clear hK K; refine SW.seqK fun K1 hK1 => ?_; refine SW.rg fun K hK => ?_; simp -implicitDefEqProofs; repeat (refine And.intro (by clear hK; first | omega | (intros; simp_all; done) | (intros; grind)) ?_)
  refine hK _ ?_; clear hK K; refine SW.block ?_
  refine SW.loop (α := Nat) (fun k => ⟨[(9, .int .i64 k), (8, .int .i64 l.length), (7, .fz (YS l)), (3, .int .i64 (crcL 4294967295 (l.take k) : Nat))], []⟩) (fun k => k ≤ l.length) (fun k => l.length - k) (0) ?_ ?_ (fun k hx => ?_)
  case' refine_1 =>
   simp
  case' refine_2 =>
   exact Wk.cut (by simp) (by simp [subE, crcL]) (by simp [cutH]) (by simp [lowE, lowN]) (by simp)
  case' refine_3 =>
   skip
   refine SW.rg fun K hK => ?_; simp -implicitDefEqProofs; repeat (refine And.intro (by clear hK; first | omega | (intros; simp_all; done) | (intros; grind)) ?_)
   refine hK _ ?_; clear hK K; refine SW.seqK fun K2 hK2 => ?_; refine SW.cond _ rfl (by simp) ?_ ?_
   case' refine_2 =>
    intro hb1
    first
    | (exfalso; simp at hb1; done)
    | (exfalso; simp at hb1; omega)
    | (
     have hk9 : k = l.length := by simp at hb1; omega
     have hcl := crcL_lt (l := l.take k) (c := 4294967295) (by omega) (fun y hy => hb y (List.mem_of_mem_take hy))
     have hres : crc l = crcL 4294967295 (l.take k) ^^^ 4294967295 := by rw [hk9, List.take_length]; rfl
     have hbx : bitv .xor .i64 ((crcL 4294967295 (l.take k) : Nat) : Int) 4294967295 = ((crcL 4294967295 (l.take k) ^^^ 4294967295 : Nat) : Int) := by simpa using bitx (b := 4294967295) hcl (by omega)
     refine SW.exit ?_; simp only [Ex.then, Ex.ib]; try simp only [if_true, if_false, reduceIte]
     refine hK1 _ ?_; refine SW.rg fun K hK => ?_; simp -implicitDefEqProofs [hbx]; repeat (refine And.intro (by clear hK; first | omega | (intros; simp_all; done) | (intros; grind)) ?_)
     refine hK _ ?_; clear hK K; refine SW.ret ?_; simp [Ex.then, Ex.ib]
     all_goals first
       | (rw [hres]; done)
       | (rw [hres]; simp; done)
       | fail)
   rotate_right
   case' _ =>
    intro hb1
    first
    | (exfalso; simp at hb1; done)
    | (exfalso; simp at hb1; omega)
    | (
     have hlt : k < l.length := by simp at hb1; omega
     obtain ⟨x, hxk⟩ : ∃ q, l[k]? = some q := ⟨_, List.getElem?_eq_getElem hlt⟩
     have xE : ∀ h, l[k]'h = x := fun h => (List.getElem?_eq_some_iff.1 hxk).2
     have hxm := hx
     obtain ⟨X, rfl, hX⟩ := byte_nat (hb x (List.mem_of_getElem? hxk)); have hcl := crcL_lt (l := l.take k) (c := 4294967295) (by omega) (fun y hy => hb y (List.mem_of_mem_take hy))
     have hct := crcL_take 4294967295 hxk
     simp only [Int.toNat_natCast] at hct
     generalize crcL 4294967295 (l.take k) = c at hcl hct
     have hwX := wrapI (X : Int) (by omega) (by omega)
     have hbx := bitx (a := c) (b := X) hcl (by omega)
     have hcx : c ^^^ X < 2 ^ 32 := Nat.xor_lt_two_pow hcl (by omega)
     refine SW.skip ?_; refine hK2 _ ?_; refine SW.seqK fun K3 hK3 => ?_; refine SW.block ?_; refine SW.rg fun K hK => ?_; simp -implicitDefEqProofs [hxk, hwX, hbx]
     repeat (refine And.intro (by clear hK; first | omega | (intros; simp_all; done) | (intros; grind)) ?_)
     refine hK _ ?_; clear hK K; refine SW.rg fun K hK => ?_; simp -implicitDefEqProofs [hxk, hwX, hbx]; repeat (refine And.intro (by clear hK; first | omega | (intros; simp_all; done) | (intros; grind)) ?_)
     refine hK _ ?_; clear hK K; refine SW.rg fun K hK => ?_; simp -implicitDefEqProofs; repeat (refine And.intro (by clear hK; first | omega | (intros; simp_all; done) | (intros; grind)) ?_)
     refine hK _ ?_; clear hK K; refine SW.block ?_
     refine SW.loop (α := Nat) (fun j => ⟨[(17, .int .i64 j), (3, .int .i64 (crcI j (c ^^^ X) : Nat)), (9, .int .i64 k), (8, .int .i64 l.length), (7, .fz (YS l))], []⟩) (fun j => j ≤ 8) (fun j => 8 - j) (0) ?_ ?_ (fun j hx => ?_)
     case' refine_1 =>
      simp
     case' refine_2 =>
      exact Wk.cut (by simp) (by simp [subE, crcI]) (by simp [cutH]) (by simp [lowE, lowN]) (by simp)
     case' refine_3 =>
      skip
      refine SW.rg fun K hK => ?_; simp -implicitDefEqProofs; repeat (refine And.intro (by clear hK; first | omega | (intros; simp_all; done) | (intros; grind)) ?_)
      refine hK _ ?_; clear hK K; refine SW.seqK fun K4 hK4 => ?_; refine SW.cond _ rfl (by simp) ?_ ?_
      case' refine_2 =>
       intro hb2
       first
       | (exfalso; simp at hb2; done)
       | (exfalso; simp at hb2; omega)
       | (
        have hj8 : j = 8 := by simp at hb2; omega
        refine SW.exit ?_; simp only [Ex.then, Ex.ib]; try simp only [if_true, if_false, reduceIte]
        refine hK3 _ ?_; refine SW.regionE fun K hK => ?_; simp -implicitDefEqProofs; repeat (refine And.intro (by clear hK; first | omega | (intros; simp_all; done) | (intros; grind)) ?_)
        refine hK _ ?_; clear hK K; refine ⟨k + 1, by omega, by omega, ?_⟩
        exact Wk.cut (by simp) (by simp [subE, hct, hj8, wrap1 k (by omega)]) (by simp [cutH]) (by simp [lowE, lowN]) (by simp))
      rotate_right
      case' _ =>
       intro hb2
       first
       | (exfalso; simp at hb2; done)
       | (exfalso; simp at hb2; omega)
       | (
        have hj8 : j < 8 := by simp at hb2; omega
        have hCl := crcI_lt hcx j
        have hba := bita hCl
        have hbh : bitv .xor .i64 (((crcI j (c ^^^ X) : Nat) : Int) / 2) 3988292384 = ((crcI j (c ^^^ X) / 2 ^^^ 3988292384 : Nat) : Int) := by simpa using bitx (a := crcI j (c ^^^ X) / 2) (b := 3988292384) (by omega) (by omega)
        have hf2 : ((crcI j (c ^^^ X) : Nat) : Int).fdiv (2 ^ min 1 (IntKind.bits .i64)) = ((crcI j (c ^^^ X) : Nat) : Int) / 2 := by rw [show (2 : Int) ^ min 1 (IntKind.bits .i64) = 2 from rfl]; exact Int.fdiv_eq_ediv_of_nonneg _ (by omega)
        have hw2 := wrapI (((crcI j (c ^^^ X) : Nat) : Int) / 2) (by omega) (by omega)
        have htm := Int.tmod_eq_emod_of_nonneg (b := 2) (show (0 : Int) ≤ (crcI j (c ^^^ X) : Nat) by omega)
        refine SW.skip ?_; refine hK4 _ ?_; refine SW.seqK fun K5 hK5 => ?_; refine SW.block ?_; refine SW.rg fun K hK => ?_; simp -implicitDefEqProofs [hba, hbh, hf2, hw2]
        repeat (refine And.intro (by clear hK; first | omega | (intros; simp_all; done) | (intros; grind)) ?_)
        refine hK _ ?_; clear hK K; refine SW.rg fun K hK => ?_; simp -implicitDefEqProofs [hba, hbh, hf2, hw2]; repeat (refine And.intro (by clear hK; first | omega | (intros; simp_all; done) | (intros; grind)) ?_)
        refine hK _ ?_; clear hK K; refine SW.rg fun K hK => ?_; simp -implicitDefEqProofs; repeat (refine And.intro (by clear hK; first | omega | (intros; simp_all; done) | (intros; grind)) ?_)
        refine hK _ ?_; clear hK K; refine SW.cond _ rfl (by simp) ?_ ?_
        case' refine_2 =>
         intro hb3
         first
         | (exfalso; simp at hb3; done)
         | (exfalso; simp at hb3; omega)
         | (
          have hcs : crcI (j + 1) (c ^^^ X) = crcI j (c ^^^ X) / 2 := if_neg (by simp at hb3; omega)
          refine SW.skip ?_)
        rotate_right
        case' _ =>
         intro hb3
         first
         | (exfalso; simp at hb3; done)
         | (exfalso; simp at hb3; omega)
         | (
          have hcs : crcI (j + 1) (c ^^^ X) = (crcI j (c ^^^ X) / 2) ^^^ 3988292384 := if_pos (by simp at hb3; omega)
          refine SW.regionE fun K hK => ?_; simp -implicitDefEqProofs [hba, hbh, hf2, hw2]; repeat (refine And.intro (by clear hK; first | omega | (intros; simp_all; done) | (intros; grind)) ?_)
          refine hK _ ?_
          clear hK K)
        all_goals (
         refine hK5 _ ?_; refine SW.regionE fun K hK => ?_; simp -implicitDefEqProofs; repeat (refine And.intro (by clear hK; first | omega | (intros; simp_all; done) | (intros; grind)) ?_)
         refine hK _ ?_; clear hK K; refine ⟨j + 1, by omega, by omega, ?_⟩
         exact Wk.cut (by simp) (by simp [subE, hcs, hbh, hf2, hw2, wrap1 j (by omega)]) (by simp [cutH]) (by simp [lowE, lowN]) (by simp))))
set_option maxHeartbeats 1000000 in
theorem get_i (l : List Int) (h4 : l.length ≤ 4) (hb : ∀ x ∈ l, isB x) : Fn Try.prog 103 [.fz (YS l)] (.int .i64 (getI l : Nat)) := by
  refine Fn.intro Try.func103 (by decide) rfl (rs := [.tmp 2]) rfl Try.ntmps103 (by simp) ?_; refine SW.rg fun K hK => ?_; simp -implicitDefEqProofs
  repeat (refine And.intro (by clear hK; first | omega | (intros; simp_all; done) | (intros; grind)) ?_)
  refine hK _ ?_; clear hK K; refine SW.rg fun K hK => ?_; simp -implicitDefEqProofs; repeat (refine And.intro (by clear hK; first | omega | (intros; simp_all; done) | (intros; grind)) ?_)
  refine hK _ ?_; clear hK K; refine SW.seqK fun K1 hK1 => ?_; refine SW.rg fun K hK => ?_; simp -implicitDefEqProofs; repeat (refine And.intro (by clear hK; first | omega | (intros; simp_all; done) | (intros; grind)) ?_)
  refine hK _ ?_; clear hK K; refine SW.block ?_
  refine SW.loop (α := Nat) (fun k => ⟨[(8, .int .i64 k), (7, .int .i64 l.length), (6, .fz (YS l)), (3, .int .i64 (getI (l.take k) : Nat))], []⟩) (fun k => k ≤ l.length) (fun k => l.length - k) (0) ?_ ?_ (fun k hx => ?_)
  case' refine_1 =>
   simp
  case' refine_2 =>
   exact Wk.cut (by simp) (by simp [subE, getI]) (by simp [cutH]) (by simp [lowE, lowN]) (by simp)
  case' refine_3 =>
   skip
   refine SW.rg fun K hK => ?_; simp -implicitDefEqProofs; repeat (refine And.intro (by clear hK; first | omega | (intros; simp_all; done) | (intros; grind)) ?_)
   refine hK _ ?_; clear hK K; refine SW.seqK fun K2 hK2 => ?_; refine SW.cond _ rfl (by simp) ?_ ?_
   case' refine_2 =>
    intro hb1
    first
    | (exfalso; simp at hb1; done)
    | (exfalso; simp at hb1; omega)
    | (
     have hk9 : k = l.length := by simp at hb1; omega
     have hres : getI l = getI (l.take k) := by rw [hk9, List.take_length]
     refine SW.exit ?_; simp only [Ex.then, Ex.ib]; try simp only [if_true, if_false, reduceIte]
     refine hK1 _ ?_; refine SW.rg fun K hK => ?_; simp -implicitDefEqProofs; repeat (refine And.intro (by clear hK; first | omega | (intros; simp_all; done) | (intros; grind)) ?_)
     refine hK _ ?_; clear hK K; refine SW.ret ?_; simp [Ex.then, Ex.ib]
     all_goals first
       | (rw [hres]; done)
       | fail)
   rotate_right
   case' _ =>
    intro hb1
    first
    | (exfalso; simp at hb1; done)
    | (exfalso; simp at hb1; omega)
    | (
     have hlt : k < l.length := by simp at hb1; omega
     obtain ⟨x, hxk⟩ : ∃ q, l[k]? = some q := ⟨_, List.getElem?_eq_getElem hlt⟩
     have xE : ∀ h, l[k]'h = x := fun h => (List.getElem?_eq_some_iff.1 hxk).2
     obtain ⟨X, rfl, hX⟩ := byte_nat (hb x (List.mem_of_getElem? hxk)); have hgl := getI_ltT (k := k + 1) hb h4
     have hct := getI_take hxk
     simp only [Int.toNat_natCast] at hct; have hwX := wrapI (X : Int) (by omega) (by omega)
     have hw1 := wrapI (256 * (getI (l.take k) : Int)) (by omega) (by omega)
     have hw2 := wrapI (256 * (getI (l.take k) : Int) + X) (by omega) (by omega)
     refine SW.skip ?_; refine hK2 _ ?_; refine SW.seqK fun K3 hK3 => ?_; refine SW.block ?_; refine SW.rg fun K hK => ?_; simp -implicitDefEqProofs [hxk]
     repeat (refine And.intro (by clear hK; first | omega | (intros; simp_all; done) | (intros; grind)) ?_)
     refine hK _ ?_; clear hK K; refine SW.regionE fun K hK => ?_; simp -implicitDefEqProofs [hwX, hw1, hw2]; repeat (refine And.intro (by clear hK; first | omega | (intros; simp_all; done) | (intros; grind)) ?_)
     refine hK _ ?_; clear hK K; refine hK3 _ ?_; refine SW.regionE fun K hK => ?_; simp -implicitDefEqProofs; repeat (refine And.intro (by clear hK; first | omega | (intros; simp_all; done) | (intros; grind)) ?_)
     refine hK _ ?_; clear hK K; refine ⟨k + 1, by omega, by omega, ?_⟩
     exact Wk.cut (by simp) (by simp [subE, hct, wrap1 k (by omega)]) (by simp [cutH]) (by simp [lowE, lowN]) (by simp))
end HS
