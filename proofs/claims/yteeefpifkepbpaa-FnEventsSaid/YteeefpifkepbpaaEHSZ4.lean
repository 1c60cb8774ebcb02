import Derived.Test.YteeefpifkepbpaaEHSZ3
import Derived.Test.YteeefpifkepbpaaEHSW
import Derived.Test.YteeefpifkepbpaaEHST
/-
  My own texts (road H): HSZ4.
-/
set_option linter.unusedSimpArgs false
set_option linter.unusedVariables false
namespace HS
open Go Go.Proofs HK
theorem fit_pack {last : Int} {d : Deed} (h : fitD d = true) (h0 : 0 ≤ last) (h9 : last ≤ 9) : packOk last d = true := by
  simp [fitD] at h; simp [packOk, headOk, wideOk, zigOk, numOk, nsOf]; omega
theorem fit_packL : ∀ {l : List Deed} {last : Int}, l.all fitD = true → 0 ≤ last → last ≤ 9 → packLOk last l = true
  | [], _, _, _, _ => rfl
  | d :: l, last, h, h0, h9 => by
    simp only [List.all_cons, Bool.and_eq_true] at h; have hd := h.1
    simp [fitD] at hd; simp only [packLOk, Bool.and_eq_true]; exact ⟨fit_pack h.1 h0 h9, fit_packL h.2 (by omega) (by omega)⟩
def cnk (l : List Deed) (i : Nat) : List Deed := (l.drop (4 * i)).take 4
theorem cnk_some {l : List Deed} (h : l.all fitD = true) (i : Nat) : someOk (cnk l i) = true := by
  have ha : (cnk l i).all fitD = true := by
    rw [List.all_eq_true] at h ⊢; exact fun x hx => h x (List.mem_of_mem_drop (List.mem_of_mem_take hx))
  have hl : (cnk l i).length ≤ 4 := by unfold cnk; rw [List.length_take]; exact Nat.min_le_left _ _
  have h9 := fit_packL (last := 0) ha (by omega) (by omega)
  simp [someOk, hl, h9]
theorem packB_isB (last : Int) (d : Deed) : ∀ x ∈ packB last d, isB x := fun x hx => by
  unfold packB at hx; rcases List.mem_append.1 hx with h | h
  · exact varB_isB _ x h
  · obtain ⟨n, _, h2⟩ := List.mem_flatMap.1 h
    exact varB_isB _ x h2
theorem packL_isB : ∀ (l : List Deed) (last : Int), ∀ x ∈ packL last l, isB x
  | [], _, x, hx => by simp [packL] at hx
  | d :: l, last, x, hx => by
    unfold packL at hx; rcases List.mem_append.1 hx with h | h
    · exact packB_isB _ _ x h
    · exact packL_isB l _ x h
def hdB (p : Int) : List Int := wordL ++ varB p.toNat
def chs (p : Int) (l : List Deed) (i : Nat) : List (List Int) := hdB p :: (List.range i).map fun j => packL 0 (cnk l j)
@[simp] theorem chs_len (p : Int) (l : List Deed) (i : Nat) : (chs p l i).length = i + 1 := by simp [chs]
@[simp] theorem chs_take (p : Int) (l : List Deed) (i : Nat) : List.take (i + 1) (CF (chs p l i)) = CF (chs p l i) := List.take_of_length_le (by simp)
theorem chs_succ (p : Int) (l : List Deed) (i : Nat) : chs p l (i + 1) = chs p l i ++ [packL 0 (cnk l i)] := by simp [chs, List.range_succ]
theorem chs_ok {p : Int} {l : List Deed} (hp : numOk p = true) (hf : l.all fitD = true) (i : Nat) : okC (chs p l i) := fun d hd => by
  unfold chs at hd; rcases List.mem_cons.1 hd with rfl | hd
  · have h5 := varB_len5 hp
    refine ⟨by simp [hdB, wordL]; omega, fun x hx => ?_⟩; unfold hdB at hx; rcases List.mem_append.1 hx with h | h
    · simp [wordL] at h
      rcases h with rfl | rfl | rfl | rfl | rfl | rfl | rfl <;> exact ⟨by omega, by omega⟩
    · exact varB_isB _ x h
  · obtain ⟨j, _, rfl⟩ := List.mem_map.1 hd
    have := packL_len80 (cnk_some hf j)
    exact ⟨by omega, packL_isB _ _⟩
def logOk (p : Int) (l : List Deed) : Bool := numOk p && fitL l
def rndL (l : List Deed) : Nat := (l.length + 3) / 4
def logB (p : Int) (l : List Deed) : List Int := strm 0 (chs p l (rndL l))
theorem strm_len : ∀ {cs : List (List Int)} {i : Nat}, okC cs → (strm i cs).length ≤ 4015 * cs.length
  | [], _, _ => by simp [strm]
  | d :: cs, i, h => by
    have h1 := (h d (by simp)).1
    have h2 := strm_len (i := i + 1) fun e he => h e (List.mem_cons_of_mem _ he)
    simp [strm]; omega
theorem DS_cnk (l : List Deed) (i : Nat) : (((DS l).drop (4 * i)).take 4) = DS (cnk l i) := by simp [cnk, DS_takeN, DS_dropN]
set_option maxHeartbeats 1000000 in
theorem logOk_i (p : Int) (l : List Deed) (hl : l.length ≤ 2 ^ 40) : Fn Try.prog 78 [LogC p l] (.bool (logOk p l)) := by
  refine Fn.intro Try.func78 (by decide) rfl (rs := [.tmp 2]) rfl Try.ntmps78 (by simp) ?_; refine SW.rg fun K hK => ?_; simp -implicitDefEqProofs; repeat refine ⟨by omega, ?_⟩
  refine hK _ ?_; clear hK K; refine SW.rg fun K hK => ?_; simp -implicitDefEqProofs; iterate 2 (try refine ⟨by omega, ?_⟩)
  first
    | refine CallQ.fzE (num_i p) (by simp) ?_
    | refine CallK.fzE (num_i p) (by simp) ?_
  simp -implicitDefEqProofs; iterate 2 (try refine ⟨by omega, ?_⟩)
  first
    | refine CallQG.fzE (by simp) (fun _ => fits_i l hl) (by simp) ?_
    | refine CallG.fzE (by simp) (fun _ => fits_i l hl) (by simp) ?_
    | refine CallQ.fzE (fits_i l hl) (by simp) ?_
    | refine CallK.fzE (fits_i l hl) (by simp) ?_
  simp -implicitDefEqProofs; repeat refine ⟨by omega, ?_⟩
  refine hK _ ?_; clear hK K; refine SW.ret ?_; simp [Ex.then, Ex.ib]
  all_goals first
    | (simp [logOk]; done)
    | fail
end HS
