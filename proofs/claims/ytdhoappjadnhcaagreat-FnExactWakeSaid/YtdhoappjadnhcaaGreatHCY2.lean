import Derived.Test.YtdhoappjadnhcaaGreatHCY1
/-
  My own texts (road H): HCY2.
-/
set_option maxHeartbeats 8000000
set_option linter.unusedSimpArgs false
set_option linter.unusedVariables false
namespace HT
open Go Go.Proofs HK
theorem count_step {l : List Place} {k : Nat} {x y : Place} (h : l[k]? = some y) : (l.take (k + 1)).count x = (l.take k).count x + (if x = y then 1 else 0) := by
  rw [List.take_add_one, h]; simp only [Option.toList_some, List.count_append, List.count_cons, List.count_nil, Nat.zero_add]
  congr 1
  by_cases e : x = y
  · subst e; simp
  · rw [if_neg e, if_neg]; simpa using fun q => e q.symm
theorem count_le (l : List Place) (x : Place) : l.count x ≤ l.length := List.count_le_length
theorem count_s (l : List Place) (x : Place) (hl : l.length ≤ 2 ^ 40) : Fn Tryz.prog 47 [.fz (PlaceS l), .agg x.cl] (.int .i64 (l.count x : Nat)) := by
  refine Fn.intro Tryz.func47 (by decide) rfl (rs := [.tmp 4]) rfl Tryz.ntmps47 (by simp) ?_; refine SW.rb ?_; refine SW.rb ?_; refine SW.seqK fun K1 hK1 => ?_; refine SW.rb ?_; refine SW.block ?_
  refine SW.loop (α := Nat) (fun k => ⟨[(10, .int .i64 k), (9, .int .i64 l.length), (8, .fz (PlaceS l)), (5, .int .i64 ((l.take k).count x : Nat)), (3, .ptr 0 0 0)], [some ⟨6, [x.cl]⟩]⟩) (fun k => k ≤ l.length) (fun k => l.length - k) (0) ?_ ?_ (fun k hx => ?_)
  case' refine_1 =>
   simp
  case' refine_2 =>
   exact Wk.cut (by simp) (by simp [subE]) (by simp [cutH]) (by simp [lowE, lowN]) (by simp)
  case' refine_3 =>
   skip
   refine SW.rb ?_; refine SW.seqK fun K2 hK2 => ?_; refine SW.cond _ rfl (by simp) ?_ ?_
   case' refine_1 =>
    intro hb1; have hlty : k < l.length := by first | omega | (simp at hb1; omega)
    obtain ⟨y, hyk⟩ : ∃ q, l[k]? = some q := ⟨_, List.getElem?_eq_getElem hlty⟩
    have hec := Place_eqc x y
    simp only [Place.cl] at hec; have hst := count_step (x := x) hyk
    have hcl := Nat.le_trans (count_le (l.take k) x) (List.length_take_le k l)
    refine SW.skip ?_; refine hK2 _ ?_; refine SW.seqK fun K3 hK3 => ?_; refine SW.block ?_; refine SW.rg fun K hK => ?_; simp -implicitDefEqProofs [hyk]
    repeat (refine And.intro (by clear hK; first | omega | (intros; simp_all; done) | (intros; grind)) ?_)
    refine hK _ ?_; clear hK K; refine SW.rg fun K hK => ?_; simp -implicitDefEqProofs [hec]; repeat (refine And.intro (by clear hK; first | omega | (intros; simp_all; done) | (intros; grind)) ?_)
    refine hK _ ?_; clear hK K; refine SW.cond _ rfl (by simp) ?_ ?_
    case' refine_2 =>
     intro hb2
     have he : ¬ x = y := by
       intro h9; subst h9; simp at hb2
     rw [if_neg he, Nat.add_zero] at hst; refine SW.skip ?_
    rotate_right
    case' _ =>
     intro hb2
     have he : x = y := by
       have h9 : decide (x = y) = true := by rw [← Place_eqc]; simpa [eqc] using hb2
       simpa using h9
     rw [if_pos he] at hst; refine SW.eb ?_
    all_goals (
     refine hK3 _ ?_; refine SW.eb ?_; refine ⟨k + 1, by omega, by omega, ?_⟩
     first
       | (have q : x = y := he; exact Wk.cut (by simp) (by simp [subE, wrap1 k (by omega), hst, wrapI (((l.take k).count x : Int) + 1) (by omega) (by omega)]) (by simp [cutH]) (by simp [lowE, lowN]) (by simp))
       | exact Wk.cut (by simp) (by simp [subE, wrap1 k (by omega), hst]) (by simp [cutH]) (by simp [lowE, lowN]) (by simp)
       | fail)
   intro hb1; have hk1 : k = l.length := by simp at hb1; omega
   subst hk1; have htk : List.take l.length l = l := List.take_length
   refine SW.exit ?_; simp only [Ex.then, Ex.ib]; try simp only [if_true, if_false, reduceIte]
   refine hK1 _ ?_; refine SW.rb ?_; refine SW.ret ?_; simp [Ex.then, Ex.ib]
   all_goals first
     | (simp [htk]; done)
     | (simp; done)
     | fail
theorem all_tk {α : Type} {f : α → Bool} {l : List α} {k : Nat} {x : α} (h : l[k]? = some x) : (l.take (k + 1)).all f = ((l.take k).all f && f x) := by
  rw [List.take_add_one, h]; simp
theorem same_s (a b : List Place) (ha : a.length ≤ 2 ^ 40) (hb : b.length ≤ 2 ^ 40) : Fn Tryz.prog 106 [.fz (PlaceS a), .fz (PlaceS b)] (.bool (sameQ a b)) := by
  refine Fn.intro Tryz.func106 (by decide) rfl (rs := [.tmp 4]) rfl Tryz.ntmps106 (by simp) ?_; refine SW.rb ?_; refine SW.seqK fun K1 hK1 => ?_; refine SW.rb ?_; refine SW.block ?_
  refine SW.loop (α := Nat) (fun k => ⟨[(9, .int .i64 k), (8, .int .i64 a.length), (7, .fz (PlaceS a)), (0, .fz (PlaceS a)), (1, .fz (PlaceS b))], []⟩) (fun k => k ≤ a.length ∧ ((a.take k).all fun x => decide (a.count x = b.count x)) = true) (fun k => a.length - k) (0) ?_ ?_ (fun k hx => ?_)
  case' refine_1 =>
   exact ⟨by simp, by simp⟩
  case' refine_2 =>
   exact Wk.cut (by simp) (by simp [subE]) (by simp [cutH]) (by simp [lowE, lowN]) (by simp)
  case' refine_3 =>
   skip
   refine SW.rb ?_; refine SW.seqK fun K2 hK2 => ?_; refine SW.cond _ rfl (by simp) ?_ ?_
   case' refine_1 =>
    intro hb1; have hlty : k < a.length := by first | omega | (simp at hb1; omega)
    obtain ⟨y, hyk⟩ : ∃ q, a[k]? = some q := ⟨_, List.getElem?_eq_getElem hlty⟩
    have hst := all_tk (f := fun x => decide (a.count x = b.count x)) hyk
    refine SW.skip ?_; refine hK2 _ ?_; refine SW.seqK fun K3 hK3 => ?_; refine SW.block ?_; refine SW.rg fun K hK => ?_; simp -implicitDefEqProofs [hyk]
    repeat (refine And.intro (by clear hK; first | omega | (intros; simp_all; done) | (intros; grind)) ?_)
    refine hK _ ?_; clear hK K; refine SW.drawK mixed [.q [(0, false), (1, false), (2, false), (3, false), (4, false), (5, false), (6, false)]] (by kernel_rfl) rfl fun K hK => ?_; simp -implicitDefEqProofs
    repeat (refine And.intro (by clear hK; first | omega | (intros; simp_all; done) | (intros; grind)) ?_)
    first
      | refine CallQ.fzE (count_s a y ha) (by simp) ?_
      | refine CallK.fzE (count_s a y ha) (by simp) ?_
    simp -implicitDefEqProofs; repeat (refine And.intro (by clear hK; first | omega | (intros; simp_all; done) | (intros; grind)) ?_)
    first
      | refine CallQ.fzE (count_s b y hb) (by simp) ?_
      | refine CallK.fzE (count_s b y hb) (by simp) ?_
    simp -implicitDefEqProofs; repeat (refine And.intro (by clear hK; first | omega | (intros; simp_all; done) | (intros; grind)) ?_)
    refine hK _ ?_; clear hK K; refine SW.cond _ rfl (by simp) ?_ ?_
    case' refine_1 =>
     intro hb2; have he : ¬ a.count y = b.count y := by simp at hb2; omega
     have hr : sameQ a b = false := by
       unfold sameQ; rw [Bool.and_eq_false_iff]
       left
       rw [List.all_eq_false]; exact ⟨y, List.mem_of_getElem? hyk, by simpa using he⟩
     refine SW.rb ?_; refine SW.ret ?_; simp [Ex.then, Ex.ib]
     all_goals first
       | (simp [hr]; done)
       | (unfold sameQ; rw [hal]; simp; done)
       | (unfold sameQ; rw [hal, Bool.eq_iff_iff]; simp; omega)
       | fail
    intro hb2; have he : a.count y = b.count y := by simp at hb2; omega
    rw [hx.2] at hst; have hnx : ((a.take (k + 1)).all fun x => decide (a.count x = b.count x)) = true := by rw [hst]; simp [he]
    refine SW.skip ?_; refine hK3 _ ?_; refine SW.eb ?_; refine ⟨k + 1, ⟨by omega, hnx⟩, by omega, ?_⟩; exact Wk.cut (by simp) (by simp [subE, wrap1 k (by omega)]) (by simp [cutH]) (by simp [lowE, lowN]) (by simp)
   intro hb1; have hk1 : k = a.length := by simp at hb1; omega
   have hal : (a.all fun x => decide (a.count x = b.count x)) = true := by have h9 := hx.2; rw [hk1, List.take_length] at h9; exact h9
   refine SW.exit ?_; simp only [Ex.then, Ex.ib]; try simp only [if_true, if_false, reduceIte]
   refine hK1 _ ?_; refine SW.rb ?_; refine SW.ret ?_; simp [Ex.then, Ex.ib]
   all_goals first
     | (simp [hr]; done)
     | (unfold sameQ; rw [hal]; simp; done)
     | (unfold sameQ; rw [hal, Bool.eq_iff_iff]; simp; omega)
     | fail
theorem hvC_len : ∀ (l : List Chan) (k : Nat), (∀ c ∈ l, c.ok) → (hvC k l).length ≤ l.length * 2097152
  | [], _, _ => by simp [hvC]
  | c :: r, k, h => by
    have h1 := hvC_len r (k + 1) (fun x hx => h x (List.mem_cons_of_mem _ hx))
    have h2 := h c (by simp)
    unfold Chan.ok at h2; simp only [hvC, haveC, List.length_append, List.length_map, List.length_cons]; omega
theorem hvM_len : ∀ (l : List Mutex) (k : Nat), (∀ c ∈ l, c.ok) → (hvM k l).length ≤ l.length * 1048576
  | [], _, _ => by simp [hvM]
  | c :: r, k, h => by
    have h1 := hvM_len r (k + 1) (fun x hx => h x (List.mem_cons_of_mem _ hx))
    have h2 := h c (by simp)
    unfold Mutex.ok at h2; simp only [hvM, haveM, List.length_append, List.length_map, List.length_cons]; omega
theorem hvC_lenK {e : Eng} (h : e.ok) (h6 : e.chans.length ≤ 6) (k : Nat) : (hvC 0 (e.chans.take k)).length ≤ 12582912 := by
  have h1 := hvC_len (e.chans.take k) 0 (fun c hc => h.2.2.2.1 c (List.mem_of_mem_take hc))
  have h2 : (e.chans.take k).length ≤ e.chans.length := by simp; omega
  have h3 : (e.chans.take k).length * 2097152 ≤ 6 * 2097152 := Nat.mul_le_mul_right _ (by omega)
  omega
theorem hvM_lenK {e : Eng} (h : e.ok) (h6 : e.mus.length ≤ 4) (k : Nat) : (hvM 0 (e.mus.take k)).length ≤ 4194304 := by
  have h1 := hvM_len (e.mus.take k) 0 (fun c hc => h.2.2.2.2.2 c (List.mem_of_mem_take hc))
  have h2 : (e.mus.take k).length ≤ e.mus.length := by simp; omega
  have h3 : (e.mus.take k).length * 1048576 ≤ 4 * 1048576 := Nat.mul_le_mul_right _ (by omega)
  omega
theorem allW_len {e : Eng} (h : e.ok) (h6 : e.chans.length ≤ 6) (h4 : e.mus.length ≤ 4) : (allW e).length ≤ 16777216 := by
  have h1 := hvC_lenK h h6 e.chans.length
  have h2 := hvM_lenK h h4 e.mus.length
  rw [List.take_length] at h1 h2; unfold allW; rw [List.length_append]; omega
theorem hvC_step {l : List Chan} {k : Nat} {c : Chan} (h : l[k]? = some c) : hvC 0 (l.take (k + 1)) = hvC 0 (l.take k) ++ haveC k c := by
  have hlt := (List.getElem?_eq_some_iff.1 h).1
  rw [List.take_add_one, h]; simp only [Option.toList_some, hvC_snoc, List.length_take, Nat.zero_add]; rw [Nat.min_eq_left (by omega)]
theorem hvM_step {l : List Mutex} {k : Nat} {c : Mutex} (h : l[k]? = some c) : hvM 0 (l.take (k + 1)) = hvM 0 (l.take k) ++ haveM k c := by
  have hlt := (List.getElem?_eq_some_iff.1 h).1
  rw [List.take_add_one, h]; simp only [Option.toList_some, hvM_snoc, List.length_take, Nat.zero_add]; rw [Nat.min_eq_left (by omega)]
end HT
