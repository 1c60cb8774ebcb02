import Derived.Test.YteeefpifkepbpaaHSZ3
import Derived.Test.YteeefpifkepbpaaHSW
import Derived.Test.YteeefpifkepbpaaHST
/-
  My own texts (road H): HSZ4.
-/
set_option linter.unusedSimpArgs false
set_option linter.unusedVariables false
namespace HS
open Go Go.Proofs HK
theorem fit_pack {last : Int} {d : Deed} (h : fitD d = true) (h0 : 0 ≤ last) (h9 : last ≤ 9) : packOk last d = true := by
  simp [fitD] at h; simp [packOk, headOk, wideOk, zigOk, numOk, nsOf]; omega
theorem fit_packL : ∀ {l : List Deed} {last : Int}, l.all fitD = true → 0 ≤ last → last ≤ 9 → packLOk last l = true
  | [], _, _, _, _ => rfl
  | d :: l, last, h, h0, h9 => by
    simp only [List.all_cons, Bool.and_eq_true] at h; have hd := h.1
    simp [fitD] at hd; simp only [packLOk, Bool.and_eq_true]; exact ⟨fit_pack h.1 h0 h9, fit_packL h.2 (by omega) (by omega)⟩
def cnk (l : List Deed) (i : Nat) : List Deed := (l.drop (4 * i)).take 4
theorem cnk_some {l : List Deed} (h : l.all fitD = true) (i : Nat) : someOk (cnk l i) = true := by
  have ha : (cnk l i).all fitD = true := by
    rw [List.all_eq_true] at h ⊢; exact fun x hx => h x (List.mem_of_mem_drop (List.mem_of_mem_take hx))
  have hl : (cnk l i).length ≤ 4 := by unfold cnk; rw [List.length_take]; exact Nat.min_le_left _ _
  have h9 := fit_packL (last := 0) ha (by omega) (by omega)
  simp [someOk, hl, h9]
theorem packB_isB (last : Int) (d : Deed) : ∀ x ∈ packB last d, isB x := fun x hx => by
  unfold packB at hx; rcases List.mem_append.1 hx with h | h
  · exact varB_isB _ x h
  · obtain ⟨n, _, h2⟩ := List.mem_flatMap.1 h
    exact varB_isB _ x h2
theorem packL_isB : ∀ (l : List Deed) (last : Int), ∀ x ∈ packL last l, isB x
  | [], _, x, hx => by simp [packL] at hx
  | d :: l, last, x, hx => by
    unfold packL at hx; rcases List.mem_append.1 hx with h | h
    · exact packB_isB _ _ x h
    · exact packL_isB l _ x h
def hdB (p : Int) : List Int := wordL ++ varB p.toNat
def chs (p : Int) (l : List Deed) (i : Nat) : List (List Int) := hdB p :: (List.range i).map fun j => packL 0 (cnk l j)
@[simp] theorem chs_len (p : Int) (l : List Deed) (i : Nat) : (chs p l i).length = i + 1 := by simp [chs]
@[simp] theorem chs_take (p : Int) (l : List Deed) (i : Nat) : List.take (i + 1) (CF (chs p l i)) = CF (chs p l i) := List.take_of_length_le (by simp)
theorem chs_succ (p : Int) (l : List Deed) (i : Nat) : chs p l (i + 1) = chs p l i ++ [packL 0 (cnk l i)] := by simp [chs, List.range_succ]
theorem chs_ok {p : Int} {l : List Deed} (hp : numOk p = true) (hf : l.all fitD = true) (i : Nat) : okC (chs p l i) := fun d hd => by
  unfold chs at hd; rcases List.mem_cons.1 hd with rfl | hd
  · have h5 := varB_len5 hp
    refine ⟨by simp [hdB, wordL]; omega, fun x hx => ?_⟩; unfold hdB at hx; rcases List.mem_append.1 hx with h | h
    · simp [wordL] at h
      rcases h with rfl | rfl | rfl | rfl | rfl | rfl | rfl <;> exact ⟨by omega, by omega⟩
    · exact varB_isB _ x h
  · obtain ⟨j, _, rfl⟩ := List.mem_map.1 hd
    have := packL_len80 (cnk_some hf j)
    exact ⟨by omega, packL_isB _ _⟩
def logOk (p : Int) (l : List Deed) : Bool := numOk p && fitL l
def rndL (l : List Deed) : Nat := (l.length + 3) / 4
def logB (p : Int) (l : List Deed) : List Int := strm 0 (chs p l (rndL l))
theorem strm_len : ∀ {cs : List (List Int)} {i : Nat}, okC cs → (strm i cs).length ≤ 4015 * cs.length
  | [], _, _ => by simp [strm]
  | d :: cs, i, h => by
    have h1 := (h d (by simp)).1
    have h2 := strm_len (i := i + 1) fun e he => h e (List.mem_cons_of_mem _ he)
    simp [strm]; omega
theorem DS_cnk (l : List Deed) (i : Nat) : (((DS l).drop (4 * i)).take 4) = DS (cnk l i) := by simp [cnk, DS_takeN, DS_dropN]
set_option maxHeartbeats 1000000 in
theorem logOk_s (p : Int) (l : List Deed) (hl : l.length ≤ 2 ^ 40) : Fn Try.prog 83 [LogC p l] (.bool (logOk p l)) := by
  refine Fn.intro Try.func83 (by decide) rfl (rs := [.tmp 2]) rfl Try.ntmps83 (by simp) ?_; refine SW.rg fun K hK => ?_; simp -implicitDefEqProofs; repeat refine ⟨by omega, ?_⟩
  refine hK _ ?_; clear hK K; refine SW.rg fun K hK => ?_; simp -implicitDefEqProofs; iterate 2 (try refine ⟨by omega, ?_⟩)
  first
    | refine CallQ.fzE (num_s p) (by simp) ?_
    | refine CallK.fzE (num_s p) (by simp) ?_
  simp -implicitDefEqProofs; iterate 2 (try refine ⟨by omega, ?_⟩)
  first
    | refine CallQG.fzE (by simp) (fun _ => fits_s l hl) (by simp) ?_
    | refine CallG.fzE (by simp) (fun _ => fits_s l hl) (by simp) ?_
    | refine CallQ.fzE (fits_s l hl) (by simp) ?_
    | refine CallK.fzE (fits_s l hl) (by simp) ?_
  simp -implicitDefEqProofs; repeat refine ⟨by omega, ?_⟩
  refine hK _ ?_; clear hK K; refine SW.ret ?_; simp [Ex.then, Ex.ib]
  all_goals first
    | (simp [logOk]; done)
    | fail
set_option maxHeartbeats 1000000 in
theorem logOk_i (p : Int) (l : List Deed) (hl : l.length ≤ 2 ^ 40) : Fn Try.prog 78 [LogC p l] (.bool (logOk p l)) := by
  refine Fn.intro Try.func78 (by decide) rfl (rs := [.tmp 2]) rfl Try.ntmps78 (by simp) ?_; refine SW.rg fun K hK => ?_; simp -implicitDefEqProofs; repeat refine ⟨by omega, ?_⟩
  refine hK _ ?_; clear hK K; refine SW.rg fun K hK => ?_; simp -implicitDefEqProofs; iterate 2 (try refine ⟨by omega, ?_⟩)
  first
    | refine CallQ.fzE (num_i p) (by simp) ?_
    | refine CallK.fzE (num_i p) (by simp) ?_
  simp -implicitDefEqProofs; iterate 2 (try refine ⟨by omega, ?_⟩)
  first
    | refine CallQG.fzE (by simp) (fun _ => fits_i l hl) (by simp) ?_
    | refine CallG.fzE (by simp) (fun _ => fits_i l hl) (by simp) ?_
    | refine CallQ.fzE (fits_i l hl) (by simp) ?_
    | refine CallK.fzE (fits_i l hl) (by simp) ?_
  simp -implicitDefEqProofs; repeat refine ⟨by omega, ?_⟩
  refine hK _ ?_; clear hK K; refine SW.ret ?_; simp [Ex.then, Ex.ib]
  all_goals first
    | (simp [logOk]; done)
    | fail
set_option maxHeartbeats 1000000 in
theorem logB_sn (p : Int) (l : List Deed) (hl : l.length ≤ 1048576) (hok : logOk p l = false) : Fn Try.prog 51 [LogC p l] (.tup [.nil, .bool false]) := by
  refine Fn.intro Try.func51 (by decide) rfl (rs := [.tmp 2, .tmp 3]) rfl Try.ntmps51 (by simp) ?_; refine SW.rg fun K hK => ?_; simp -implicitDefEqProofs; repeat refine ⟨by omega, ?_⟩
  refine hK _ ?_; clear hK K; refine SW.seqK fun K1 hK1 => ?_; refine SW.rg fun K hK => ?_; simp -implicitDefEqProofs [hok]; iterate 2 (try refine ⟨by omega, ?_⟩)
  first
    | refine CallQ.fzE (logOk_s p l (by omega)) (by simp) ?_
    | refine CallK.fzE (logOk_s p l (by omega)) (by simp) ?_
  simp -implicitDefEqProofs [hok]; repeat refine ⟨by omega, ?_⟩
  refine hK _ ?_; clear hK K; refine SW.cond _ rfl (by simp) ?_ ?_
  case' refine_2 =>
   intro hb1
   first
   | (exfalso; simp at hb1; done)
   | (exfalso; simp at hb1; omega)
   | (
    refine SW.skip ?_; refine hK1 _ ?_; refine SW.rg fun K hK => ?_; simp -implicitDefEqProofs; iterate 2 (try refine ⟨by omega, ?_⟩)
    fail
    simp -implicitDefEqProofs; repeat refine ⟨by omega, ?_⟩
    refine hK _ ?_; clear hK K; refine SW.seqK fun K2 hK2 => ?_; refine SW.rg fun K hK => ?_; simp -implicitDefEqProofs; repeat refine ⟨by omega, ?_⟩
    refine hK _ ?_; clear hK K; refine SW.block ?_; refine SW.loop (α := Unit) (fun x => ⟨[], []⟩) (fun x => True) (fun x => 0) (()) ?_ ?_ (fun x hx => ?_)
    case' refine_1 =>
     simp
    case' refine_2 =>
     fail
    case' refine_3 =>
     skip
     refine SW.seqK fun K3 hK3 => ?_; refine SW.rg fun K hK => ?_; simp -implicitDefEqProofs; repeat refine ⟨by omega, ?_⟩
     refine hK _ ?_; clear hK K; refine SW.cond _ rfl (by simp) ?_ ?_
     case' refine_2 =>
      intro hb2
      first
      | (exfalso; simp at hb2; done)
      | (exfalso; simp at hb2; omega)
      | (
       refine SW.exit ?_; simp only [Ex.then, Ex.ib]; try simp only [if_true, if_false, reduceIte]
       refine hK2 _ ?_; refine SW.rg fun K hK => ?_; simp -implicitDefEqProofs; iterate 2 (try refine ⟨by omega, ?_⟩)
       fail
       simp -implicitDefEqProofs; repeat refine ⟨by omega, ?_⟩
       refine hK _ ?_; clear hK K; refine SW.ret ?_; simp [Ex.then, Ex.ib]
       all_goals fail)
     rotate_right
     case' _ =>
      intro hb2
      first
      | (exfalso; simp at hb2; done)
      | (exfalso; simp at hb2; omega)
      | (
       refine SW.skip ?_; refine hK3 _ ?_; refine SW.seqK fun K4 hK4 => ?_; refine SW.block ?_; refine SW.rg fun K hK => ?_; simp -implicitDefEqProofs; repeat refine ⟨by omega, ?_⟩
       refine hK _ ?_; clear hK K; refine SW.seqK fun K5 hK5 => ?_; refine SW.rg fun K hK => ?_; simp -implicitDefEqProofs; repeat refine ⟨by omega, ?_⟩
       refine hK _ ?_; clear hK K; refine SW.cond _ rfl (by simp) ?_ ?_
       case' refine_2 =>
        intro hb3
        first
        | (exfalso; simp at hb3; done)
        | (exfalso; simp at hb3; omega)
        | (
         refine SW.skip ?_)
       rotate_right
       case' _ =>
        intro hb3
        first
        | (exfalso; simp at hb3; done)
        | (exfalso; simp at hb3; omega)
        | (
         refine SW.regionE fun K hK => ?_; simp -implicitDefEqProofs; repeat refine ⟨by omega, ?_⟩
         refine hK _ ?_
         clear hK K)
       all_goals (
        refine hK5 _ ?_; refine SW.rg fun K hK => ?_; simp -implicitDefEqProofs; iterate 2 (try refine ⟨by omega, ?_⟩)
        fail
        simp -implicitDefEqProofs; repeat refine ⟨by omega, ?_⟩
        refine hK _ ?_; clear hK K; refine SW.regionE fun K hK => ?_; simp -implicitDefEqProofs; repeat refine ⟨by omega, ?_⟩
        refine hK _ ?_; clear hK K; refine hK4 _ ?_; refine SW.regionE fun K hK => ?_; simp -implicitDefEqProofs; repeat refine ⟨by omega, ?_⟩
        refine hK _ ?_; clear hK K
        fail)))
  rotate_right
  case' _ =>
   intro hb1
   first
   | (exfalso; simp at hb1; done)
   | (exfalso; simp at hb1; omega)
   | (
    refine SW.rg fun K hK => ?_; simp -implicitDefEqProofs; repeat refine ⟨by omega, ?_⟩
    refine hK _ ?_; clear hK K; refine SW.ret ?_; simp [Ex.then, Ex.ib]
    all_goals fail)
set_option maxHeartbeats 1000000 in
theorem logB_s (p : Int) (l : List Deed) (hok : logOk p l = true) : Fn Try.prog 51 [LogC p l] (.tup [.own 1 (YS (logB p l)), .bool true]) := by
  refine Fn.intro Try.func51 (by decide) rfl (rs := [.tmp 2, .tmp 3]) rfl Try.ntmps51 (by simp) ?_; have hp : numOk p = true := by simp [logOk] at hok; exact hok.1
  have hf : fitL l = true := by simp [logOk] at hok; exact hok.2
  have hfa : l.all fitD = true := by simp only [fitL, Bool.and_eq_true] at hf; exact hf.1
  have hl : l.length ≤ 3000 := by simp only [fitL, Bool.and_eq_true, decide_eq_true_eq] at hf; exact hf.2
  refine SW.rg fun K hK => ?_; simp -implicitDefEqProofs; repeat (refine And.intro (by clear hK; first | omega | (intros; omega) | (intros; simp_all; done) | (intros; grind)) ?_)
  refine hK _ ?_; clear hK K; refine SW.seqK fun K1 hK1 => ?_; refine SW.rg fun K hK => ?_; simp -implicitDefEqProofs [hok]
  repeat (refine And.intro (by clear hK; first | omega | (intros; omega) | (intros; simp_all; done) | (intros; grind)) ?_)
  first
    | refine CallQ.fzE (logOk_s p l (by omega)) (by simp) ?_
    | refine CallK.fzE (logOk_s p l (by omega)) (by simp) ?_
  simp -implicitDefEqProofs [hok]; repeat (refine And.intro (by clear hK; first | omega | (intros; omega) | (intros; simp_all; done) | (intros; grind)) ?_)
  refine hK _ ?_; clear hK K; refine SW.cond _ rfl (by simp) ?_ ?_
  case' refine_2 =>
   intro hb1
   first
   | (exfalso; simp at hb1; done)
   | (exfalso; simp at hb1; omega)
   | (
    refine SW.skip ?_; refine hK1 _ ?_; refine SW.rg fun K hK => ?_; simp -implicitDefEqProofs; repeat (refine And.intro (by clear hK; first | omega | (intros; omega) | (intros; simp_all; done) | (intros; grind)) ?_)
    first
      | refine CallQ.fzE (head_s p hp) (by simp) ?_
      | refine CallK.fzE (head_s p hp) (by simp) ?_
    simp -implicitDefEqProofs; repeat (refine And.intro (by clear hK; first | omega | (intros; omega) | (intros; simp_all; done) | (intros; grind)) ?_)
    refine hK _ ?_; clear hK K; refine SW.seqK fun K2 hK2 => ?_; refine SW.rg fun K hK => ?_; simp -implicitDefEqProofs; repeat (refine And.intro (by clear hK; first | omega | (intros; omega) | (intros; simp_all; done) | (intros; grind)) ?_)
    refine hK _ ?_; clear hK K; refine SW.block ?_
    refine SW.loop (α := Nat) (fun i => ⟨[(5, .int .i64 (4 * (i : Int))), (4, .sl 1 0 (i + 1)), (1, .ptr 0 0 0)], [some ⟨2, [[.int .i64 p, .fz (DS l)]]⟩, some ⟨1, CF (chs p l i)⟩]⟩) (fun i => i ≤ rndL l) (fun i => rndL l - i) (0) ?_ ?_ (fun i hx => ?_)
    case' refine_1 =>
     exact Nat.zero_le _
    case' refine_2 =>
     exact Wk.cut (by simp) (by simp [subE]) (by simp [cutH, CF, chs, hdB]) (by simp [lowE, lowN]) (by simp [lowB, lowN, CF])
    case' refine_3 =>
     skip
     refine SW.seqK fun K3 hK3 => ?_; refine SW.rg fun K hK => ?_; simp -implicitDefEqProofs; repeat (refine And.intro (by clear hK; first | omega | (intros; omega) | (intros; simp_all; done) | (intros; grind)) ?_)
     refine hK _ ?_; clear hK K; refine SW.cond _ rfl (by simp) ?_ ?_
     case' refine_2 =>
      intro hb2
      first
      | (exfalso; simp at hb2; done)
      | (exfalso; simp at hb2; omega)
      | (
       have hge : ¬ 4 * i < l.length := by simp at hb2; omega
       have hir : i = rndL l := by unfold rndL at hx ⊢; omega
       subst hir; refine SW.exit ?_; simp only [Ex.then, Ex.ib]; try simp only [if_true, if_false, reduceIte]
       refine hK2 _ ?_; refine SW.rg fun K hK => ?_; simp -implicitDefEqProofs; repeat (refine And.intro (by clear hK; first | omega | (intros; omega) | (intros; simp_all; done) | (intros; grind)) ?_)
       refine CallK.imE (strm_s (chs p l (rndL l)) (by simp [rndL]; omega) (chs_ok hp hfa _)) (by simp) (tupB_okI _) ?_; simp -implicitDefEqProofs
       repeat (refine And.intro (by clear hK; first | omega | (intros; omega) | (intros; simp_all; done) | (intros; grind)) ?_)
       refine hK _ ?_; clear hK K; refine SW.ret ?_; simp [Ex.then, Ex.ib]
       all_goals first
         | exact ⟨fun x hx y hy => by obtain ⟨n, rfl⟩ := YS_int hx hy; rfl, rfl⟩
         | fail)
     rotate_right
     case' _ =>
      intro hb2
      first
      | (exfalso; simp at hb2; done)
      | (exfalso; simp at hb2; omega)
      | (
       have hlt : 4 * i < l.length := by simp at hb2; omega
       have hw4 := wrapI (4 * (i : Int) + 4) (by omega) (by omega)
       refine SW.skip ?_; refine hK3 _ ?_; refine SW.seqK fun K4 hK4 => ?_; refine SW.block ?_; refine SW.rg fun K hK => ?_; simp -implicitDefEqProofs [hw4]
       repeat (refine And.intro (by clear hK; first | omega | (intros; omega) | (intros; simp_all; done) | (intros; grind)) ?_)
       refine hK _ ?_; clear hK K; refine SW.seqK fun K5 hK5 => ?_; refine SW.rg fun K hK => ?_; simp -implicitDefEqProofs [hw4]
       repeat (refine And.intro (by clear hK; first | omega | (intros; omega) | (intros; simp_all; done) | (intros; grind)) ?_)
       refine hK _ ?_; clear hK K; refine SW.cond _ rfl (by simp) ?_ ?_
       case' refine_2 =>
        intro hb3
        first
        | (exfalso; simp at hb3; done)
        | (exfalso; simp at hb3; omega)
        | (
         have hle : 4 * i + 4 ≤ l.length := by simp at hb3; omega
         have hcs : List.take (4 * (i : Int) + 4 - 4 * (i : Int)).toNat (List.drop (4 * (i : Int)).toNat (DS l)) = DS (cnk l i) := by
           rw [show (4 * (i : Int) + 4 - 4 * (i : Int)).toNat = 4 by omega, show (4 * (i : Int)).toNat = 4 * i by omega, DS_cnk]
         refine SW.skip ?_)
       rotate_right
       case' _ =>
        intro hb3
        first
        | (exfalso; simp at hb3; done)
        | (exfalso; simp at hb3; omega)
        | (
         have hgt : l.length < 4 * i + 4 := by simp at hb3; omega
         have hcs : List.take ((l.length : Int) - 4 * (i : Int)).toNat (List.drop (4 * (i : Int)).toNat (DS l)) = DS (cnk l i) := by
           rw [show ((l.length : Int) - 4 * (i : Int)).toNat = l.length - 4 * i by omega, show (4 * (i : Int)).toNat = 4 * i by omega, ← DS_cnk, List.take_of_length_le (by simp), List.take_of_length_le (by simp; omega)]
         refine SW.regionE fun K hK => ?_; simp -implicitDefEqProofs; repeat (refine And.intro (by clear hK; first | omega | (intros; omega) | (intros; simp_all; done) | (intros; grind)) ?_)
         refine hK _ ?_
         clear hK K)
       all_goals (
        refine hK5 _ ?_; refine SW.rg fun K hK => ?_; simp -implicitDefEqProofs; repeat (refine And.intro (by clear hK; first | omega | (intros; omega) | (intros; simp_all; done) | (intros; grind)) ?_)
        have et : (4 * (i : Int)).toNat = 4 * i := by omega
        first | refine ⟨⟨by omega, by omega, fun _ => ?_⟩, ?_⟩ | refine ⟨⟨by omega, by omega, by omega, fun _ => ?_⟩, ?_⟩
        · rw [et]; simp [hlt, Deed.c]
        refine CallK.fzE (packSome_sy (cnk l i) (cnk_some hfa i)) (by first | (rw [hcs]; rfl) | fail) ?_; simp -implicitDefEqProofs
        repeat (refine And.intro (by clear hK; first | omega | (intros; omega) | (intros; simp_all; done) | (intros; grind)) ?_)
        refine hK _ ?_; clear hK K; refine SW.regionE fun K hK => ?_; simp -implicitDefEqProofs; repeat (refine And.intro (by clear hK; first | omega | (intros; omega) | (intros; simp_all; done) | (intros; grind)) ?_)
        refine hK _ ?_; clear hK K; refine hK4 _ ?_; refine SW.regionE fun K hK => ?_; simp -implicitDefEqProofs; repeat (refine And.intro (by clear hK; first | omega | (intros; omega) | (intros; simp_all; done) | (intros; grind)) ?_)
        refine hK _ ?_; clear hK K; try simp only [Ex.then, Ex.ib]
        have hi1 : i + 1 ≤ rndL l := by unfold rndL at hx ⊢; omega
        refine ⟨i + 1, hi1, by omega, ?_⟩
        exact Wk.ren [0, 3] (by simp) (by simp) (by simp) (by simp) (by simp [renE, renN, hw4]; try omega) (by simp [renH, chs_succ, CF_snoc]) (by simp [lowE, lowN]) (by simp [lowB, lowN, CF]))))
  rotate_right
  case' _ =>
   intro hb1
   first
   | (exfalso; simp at hb1; done)
   | (exfalso; simp at hb1; omega)
   | (
    refine SW.rg fun K hK => ?_; simp -implicitDefEqProofs; repeat (refine And.intro (by clear hK; first | omega | (intros; omega) | (intros; simp_all; done) | (intros; grind)) ?_)
    refine hK _ ?_; clear hK K; refine SW.ret ?_; simp [Ex.then, Ex.ib]
    all_goals first
      | exact ⟨fun x hx y hy => by obtain ⟨n, rfl⟩ := YS_int hx hy; rfl, rfl⟩
      | fail)
end HS
