import Derived.Test.YtdhoappjadnhcaaGreatG7
/-
  My own texts (road H): HCTG.
-/
set_option maxHeartbeats 8000000
set_option linter.unusedSimpArgs false
set_option linter.unusedVariables false
namespace HT
open Go Go.Proofs HK
def caseOk (p : Prog) (n : Int) (x : Case) : Bool := inR x.chan (-1) p.caps.length && regOk x.reg && regOk x.ok && !(x.send && decide (x.ok ≠ 0)) && inR x.to 0 n
def dupF (l : List Case) (x : Case) : Bool := decide (0 ≤ x.chan) && l.any (fun y => decide (y.chan = x.chan))
def casesOk (p : Prog) (n : Int) : List Case → List Case → Bool
  | _, [] => true
  | a, x :: r => caseOk p n x && !dupF a x && casesOk p n (a ++ [x]) r
def selOk (p : Prog) (n : Int) (s : Select) : Bool := casesOk p n [] s.cases && inR s.els (-1) n
theorem casesOk_step {p : Prog} {n : Int} {l : List Case} {k : Nat} {x : Case} (h : l[k]? = some x) :
    casesOk p n (l.take k) (l.drop k) = (caseOk p n x && !dupF (l.take k) x && casesOk p n (l.take (k + 1)) (l.drop (k + 1))) := by
  obtain ⟨hlt, rfl⟩ := List.getElem?_eq_some_iff.1 h; rw [List.drop_eq_getElem_cons hlt, casesOk, List.take_add_one, h]; rfl
theorem dupF_next {l : List Case} {x y : Case} {j : Nat} (h : l[j]? = some y) (hd : dupF (l.take j) x = false) (hn : ¬ (0 ≤ x.chan ∧ x.chan = y.chan)) : dupF (l.take (j + 1)) x = false := by
  rw [List.take_add_one, h]; unfold dupF at hd ⊢; rw [List.any_append]; cases h1 : decide (0 ≤ x.chan)
  · rfl
  · rw [h1, Bool.true_and] at hd
    rw [hd]; simp at h1 ⊢; omega
theorem dupF_at {l : List Case} {x y : Case} {j k : Nat} (h : l[j]? = some y) (hj : j < k) (hn : 0 ≤ x.chan ∧ x.chan = y.chan) : dupF (l.take k) x = true := by
  unfold dupF; rw [Bool.and_eq_true, List.any_eq_true]; refine ⟨by simpa using hn.1, y, ?_, by simp [hn.2]⟩; exact List.mem_of_getElem? (i := j) (by rw [List.getElem?_take, if_pos hj, h])
def mets (l : List Case) : List Int := (l.filter fun x => decide (x.chan ≠ -1)).map (·.chan)
theorem mets_step {l : List Case} {k : Nat} {x : Case} (h : l[k]? = some x) : mets (l.take (k + 1)) = if x.chan = -1 then mets (l.take k) else mets (l.take k) ++ [x.chan] := by
  rw [List.take_add_one, h]; unfold mets; rw [List.filter_append, List.map_append]; by_cases hc : x.chan = -1 <;> simp [hc]
theorem mets_dup {l : List Case} {x : Case} (h : -1 ≤ x.chan) : decide (x.chan ∈ mets l) = dupF l x := by
  rw [Bool.eq_iff_iff]; unfold dupF mets; simp only [decide_eq_true_eq, List.mem_map, List.mem_filter, Bool.and_eq_true, List.any_eq_true]; constructor
  · rintro ⟨y, ⟨h1, h2⟩, h3⟩
    simp at h2; exact ⟨by omega, y, h1, h3⟩
  · rintro ⟨h1, y, h2, h3⟩
    exact ⟨y, ⟨h2, by simp; omega⟩, h3⟩
theorem mets_len (l : List Case) : (mets l).length ≤ l.length := by
  unfold mets; rw [List.length_map]; exact List.length_filter_le _ _
def idxP {α : Type} (p : α → Bool) (l : List α) : Int := if l.all p then -1 else ((l.takeWhile p).length : Int)
theorem idxP_at {α : Type} {p : α → Bool} {l : List α} {k : Nat} {x : α} (ha : (l.take k).all p = true) (h : l[k]? = some x) (hx : p x = false) : idxP p l = k := by
  have hf := all_false h hx
  obtain ⟨hlt, rfl⟩ := List.getElem?_eq_some_iff.1 h; rw [idxP, if_neg (by simp [hf])]
  conv => lhs; rw [← List.take_append_drop k l, List.drop_eq_getElem_cons hlt]
  rw [List.takeWhile_append_of_pos (by simpa using ha), List.takeWhile_cons_of_neg (by simp [hx])]; simp; omega
theorem idxP_nn {α : Type} (p : α → Bool) (l : List α) : decide (0 ≤ idxP p l) = !l.all p := by
  unfold idxP; cases h : l.all p <;> simp
abbrev neI (v : Int) : Int → Bool := fun y => decide (v ≠ y)
theorem all_neI (v : Int) (l : List Int) : (!l.all (neI v)) = decide (v ∈ l) := by
  rw [Bool.eq_iff_iff]; simp
theorem index_ok (l : List Int) (v : Int) (hl : l.length ≤ 2 ^ 40) : Fn Tryz.prog 177 [.fz (IntS l), .int .i64 v] (.int .i64 (idxP (neI v) l)) := by
  refine Fn.intro Tryz.func177 (by decide) rfl (rs := [.tmp 4]) rfl Tryz.ntmps177 (by simp) ?_; refine SW.rc ?_; refine SW.seqK fun K1 hK1 => ?_; refine SW.rc ?_; refine SW.block ?_
  refine SW.loop (α := Nat) (fun k => ⟨[(8, .int .i64 k), (7, .int .i64 l.length), (0, .fz (IntS l)), (1, .int .i64 v)], []⟩) (fun k => k ≤ l.length ∧ (l.take k).all (neI v) = true) (fun k => l.length - k) (0) ?_ ?_ (fun k hx => ?_)
  case' refine_1 =>
   simp
  case' refine_2 =>
   exact Wk.cut (by simp) (by simp [subE]) (by simp [cutH]) (by simp [lowE, lowN]) (by simp)
  case' refine_3 =>
   skip
   refine SW.rc ?_; refine SW.seqK fun K2 hK2 => ?_; refine SW.cond _ rfl (by simp) ?_ ?_
   case' refine_2 =>
    intro hb1; have hk : k = l.length := by simp at hb1; omega
    subst hk; have hid : idxP (neI v) l = -1 := by rw [idxP, if_pos (all_take hx.2)]
    refine SW.exit ?_; simp only [Ex.then, Ex.ib]; try simp only [if_true, if_false, reduceIte]
    refine hK1 _ ?_; refine SW.rc ?_; refine SW.ret ?_; simp [Ex.then, Ex.ib]; rw [hid]
   rotate_right
   case' _ =>
    intro hb1; have hltx : k < l.length := by simp at hb1; omega
    obtain ⟨x, hxk⟩ : ∃ q, l[k]? = some q := ⟨_, List.getElem?_eq_getElem hltx⟩
    refine SW.skip ?_; refine hK2 _ ?_; refine SW.seqK fun K3 hK3 => ?_; refine SW.block ?_; refine SW.rc ?_; refine SW.rg fun K hK => ?_; simp -implicitDefEqProofs [hxk]
    first | refine hK _ ?_ | (refine ⟨?_, hK _ ?_⟩; (first | omega | (clear hK; grind) | (intros; simp_all; done))) | (refine ⟨?_, ?_, hK _ ?_⟩; iterate 2 (first | omega | (clear hK; grind) | (intros; simp_all; done)))
    clear hK K; refine SW.cond _ rfl (by simp) ?_ ?_
    case' refine_2 =>
     intro hb2; have hsx : neI v x = true := by simpa using hb2
     have hnx := all_next hxk hx.2 hsx
     refine SW.skip ?_; refine hK3 _ ?_; refine SW.ec ?_; refine ⟨k + 1, ⟨by omega, hnx⟩, by omega, ?_⟩; exact Wk.cut (by simp) (by simp [subE, wrap1 k (by omega)]) (by simp [cutH]) (by simp [lowE, lowN]) (by simp)
    rotate_right
    case' _ =>
     intro hb2; have hsx : neI v x = false := by simpa using hb2
     have hid := idxP_at hx.2 hxk hsx
     refine SW.rc ?_; refine SW.ret ?_; simp [Ex.then, Ex.ib]; rw [hid]
theorem contains_ok (l : List Int) (v : Int) (hl : l.length ≤ 2 ^ 40) : Fn Tryz.prog 204 [.fz (IntS l), .int .i64 v] (.bool (decide (v ∈ l))) := by
  refine Fn.intro Tryz.func204 (by decide) rfl (rs := [.tmp 4]) rfl Tryz.ntmps204 (by simp) ?_; refine SW.ra ?_; refine SW.rg fun K hK => ?_; simp -implicitDefEqProofs; iterate 2 (try refine ⟨by omega, ?_⟩)
  refine CallK.fzE (index_ok l v hl) (by simp) ?_; simp -implicitDefEqProofs; repeat refine ⟨by omega, ?_⟩
  refine hK _ ?_; clear hK K; refine SW.ret ?_; simp [Ex.then, Ex.ib]
  all_goals (rw [← decide_eq_true_iff (p := v ∈ l), ← all_neI, ← idxP_nn, decide_eq_true_iff])
theorem selOk_s (p : Prog) (n : Int) (s : Select) (h : p.ok) (hs : s.cases.length ≤ 1048576) : Fn Tryz.prog 182 [.agg p.fr, .int .i64 n, .agg s.fr] (.bool (selOk p n s)) := by
  refine Fn.intro Tryz.func182 (by decide) rfl (rs := [.tmp 6]) rfl Tryz.ntmps182 (by simp) ?_; have h1 := h.1
  have hl := hs
  refine SW.rb ?_; refine SW.seqK fun K1 hK1 => ?_; refine SW.rb ?_; refine SW.block ?_
  refine SW.loop (α := Nat) (fun k => ⟨[(14, .int .i64 k), (13, .int .i64 s.cases.length), (12, .fz (CaseS s.cases)), (1, .int .i64 n), (3, .ptr 0 0 0), (5, .ptr 1 0 0)], [some ⟨4, [p.fr]⟩, some ⟨2, [s.fr]⟩]⟩) (fun k => k ≤ s.cases.length ∧ casesOk p n (s.cases.take k) (s.cases.drop k) = casesOk p n [] s.cases) (fun k => s.cases.length - k) (0) ?_ ?_ (fun k hx => ?_)
  case' refine_1 =>
   simp
  case' refine_2 =>
   exact Wk.cut (by simp) (by simp [subE]) (by simp [cutH]) (by simp [lowE, lowN]) (by simp)
  case' refine_3 =>
   skip
   refine SW.rb ?_; refine SW.seqK fun K2 hK2 => ?_; refine SW.cond _ rfl (by simp) ?_ ?_
   case' refine_1 =>
    intro hb1; have hltx : k < s.cases.length := by simp at hb1; omega
    obtain ⟨x, hxk⟩ : ∃ q, s.cases[k]? = some q := ⟨_, List.getElem?_eq_getElem hltx⟩
    have hkl : k ≤ s.cases.length := by omega
    have hg0 := CaseS_lenG s.cases 0 (by omega)
    refine SW.skip ?_; refine hK2 _ ?_; refine SW.seqK fun K3 hK3 => ?_; refine SW.block ?_; refine SW.rg fun K hK => ?_; simp -implicitDefEqProofs [hxk]
    repeat (refine And.intro (by clear hK; first | omega | (intros; simp_all; done) | (intros; grind)) ?_)
    refine hK _ ?_; clear hK K; refine SW.seqK fun K4 hK4 => ?_; refine SW.rg fun K hK => ?_; simp -implicitDefEqProofs; repeat (refine And.intro (by clear hK; first | omega | (intros; simp_all; done) | (intros; grind)) ?_)
    refine CallK.fz (chan_s p _ h) ?_; simp -implicitDefEqProofs; repeat (refine And.intro (by clear hK; first | omega | (intros; simp_all; done) | (intros; grind)) ?_)
    refine CallG.fz (by simp) (fun _ => reg_s _) ?_; simp -implicitDefEqProofs; repeat (refine And.intro (by clear hK; first | omega | (intros; simp_all; done) | (intros; grind)) ?_)
    refine CallG.fz (by simp) (fun _ => reg_s _) ?_; simp -implicitDefEqProofs; repeat (refine And.intro (by clear hK; first | omega | (intros; simp_all; done) | (intros; grind)) ?_)
    refine hK _ ?_; clear hK K; refine SW.cond _ rfl (by simp) ?_ ?_
    case' refine_1 =>
     intro hb2
     have hco : caseOk p n x = false := by
       cases h9 : caseOk p n x with
       | false => rfl
       | true => exfalso; simp [caseOk, inR] at h9 hb2; grind
     have hres : casesOk p n [] s.cases = false := by rw [← hx.2, casesOk_step hxk, hco]; rfl
     refine SW.rb ?_; refine SW.ret ?_; simp [Ex.then, Ex.ib]
     first
       | (simp only [selOk, hres]; done)
       | (simp only [selOk, hres, inR]; rw [Bool.true_and]; done)
       | (simp only [selOk, hres]; rw [Bool.false_and]; done)
       | fail
    intro hb2
    have hco : caseOk p n x = true := by
      cases h9 : caseOk p n x with
      | true => rfl
      | false => exfalso; simp [caseOk, inR] at h9 hb2; grind
    have hxo := hx.2
    refine SW.skip ?_; refine hK4 _ ?_; refine SW.rg fun K hK => ?_; simp -implicitDefEqProofs [hkl, hg0]; repeat (refine And.intro (by clear hK; first | omega | (intros; simp_all; done) | (intros; grind)) ?_)
    refine hK _ ?_; clear hK K; refine SW.block ?_
    refine SW.loop (α := Nat) (fun j => ⟨[(61, .int .i64 j), (60, .int .i64 k), (59, .fz ((CaseS s.cases).take k)), (14, .int .i64 k), (13, .int .i64 s.cases.length), (12, .fz (CaseS s.cases)), (1, .int .i64 n), (3, .ptr 0 0 0), (5, .ptr 1 0 0), (8, .ptr 2 0 0)], [some ⟨4, [p.fr]⟩, some ⟨2, [s.fr]⟩, some ⟨5, [x.cl]⟩]⟩) (fun j => j ≤ k ∧ dupF (s.cases.take j) x = false) (fun j => k - j) (0) ?_ ?_ (fun j hx => ?_)
    case' refine_1 =>
     simp [dupF]
    case' refine_2 =>
     exact Wk.cut (by simp) (by simp [subE]) (by simp [cutH]) (by simp [lowE, lowN]) (by simp)
    case' refine_3 =>
     skip
     refine SW.rb ?_; refine SW.seqK fun K5 hK5 => ?_; refine SW.cond _ rfl (by simp) ?_ ?_
     case' refine_1 =>
      intro hb3; have hjk : j < k := by simpa using hb3
      obtain ⟨y, hyk⟩ : ∃ y, s.cases[j]? = some y := ⟨_, List.getElem?_eq_getElem (by omega)⟩
      refine SW.skip ?_; refine hK5 _ ?_; refine SW.seqK fun K6 hK6 => ?_; refine SW.block ?_; refine SW.rg fun K hK => ?_; simp -implicitDefEqProofs [hyk, hjk]
      repeat (refine And.intro (by clear hK; first | omega | (intros; simp_all; done) | (intros; grind)) ?_)
      refine hK _ ?_; clear hK K; refine SW.rb ?_; refine SW.cond _ rfl (by simp) ?_ ?_
      case' refine_1 =>
       intro hb4; have hdu : dupF (s.cases.take k) x = true := dupF_at hyk hjk (by simpa using hb4)
       have hres : casesOk p n [] s.cases = false := by rw [← hxo, casesOk_step hxk, hco, hdu]; rfl
       refine SW.rb ?_; refine SW.ret ?_; simp [Ex.then, Ex.ib]
       first
         | (simp only [selOk, hres]; done)
         | (simp only [selOk, hres, inR]; rw [Bool.true_and]; done)
         | (simp only [selOk, hres]; rw [Bool.false_and]; done)
         | fail
      intro hb4; have hny := dupF_next hyk hx.2 (by simp at hb4; omega)
      refine SW.skip ?_; refine hK6 _ ?_; refine SW.eb ?_; refine ⟨j + 1, ⟨by omega, hny⟩, by omega, ?_⟩; exact Wk.cut (by simp) (by simp [subE, wrap1 j (by omega)]) (by simp [cutH]) (by simp [lowE, lowN]) (by simp)
     intro hb3; have hj : j = k := by simp at hb3; omega
     subst hj; have hnx : casesOk p n (s.cases.take (j + 1)) (s.cases.drop (j + 1)) = casesOk p n [] s.cases := by rw [← hxo, casesOk_step hxk, hco, hx.2]; rfl
     refine SW.exit ?_; simp only [Ex.then, Ex.ib]; try simp only [if_true, if_false, reduceIte]
     refine hK3 _ ?_; refine SW.eb ?_; refine ⟨j + 1, ⟨by omega, hnx⟩, by omega, ?_⟩; exact Wk.cut (by simp) (by simp [subE, wrap1 j (by omega)]) (by simp [cutH]) (by simp [lowE, lowN]) (by simp)
   intro hb1; have hk : k = s.cases.length := by simp at hb1; omega
   subst hk; have hres : casesOk p n [] s.cases = true := by rw [← hx.2, List.drop_length]; rfl
   refine SW.exit ?_; simp only [Ex.then, Ex.ib]; try simp only [if_true, if_false, reduceIte]
   refine hK1 _ ?_; refine SW.rb ?_; refine SW.ret ?_; simp [Ex.then, Ex.ib]
   first
     | (simp only [selOk, hres]; done)
     | (simp only [selOk, hres, inR]; rw [Bool.true_and]; done)
     | (simp only [selOk, hres]; rw [Bool.false_and]; done)
     | fail
theorem selOk_i (p : Prog) (n : Int) (s : Select) (h : p.ok) (hs : s.cases.length ≤ 1048576) : Fn Tryz.prog 196 [.agg p.fr, .int .i64 n, .agg s.fr] (.bool (selOk p n s)) := by
  refine Fn.intro Tryz.func196 (by decide) rfl (rs := [.tmp 6]) rfl Tryz.ntmps196 (by simp) ?_; have h1 := h.1
  have hl := hs
  refine SW.rb ?_; refine SW.rb ?_; refine SW.seqK fun K1 hK1 => ?_; refine SW.rb ?_; refine SW.block ?_
  refine SW.loop (α := Nat) (fun k => ⟨[(14, .int .i64 k), (13, .int .i64 s.cases.length), (12, .fz (CaseS s.cases)), (1, .int .i64 n), (7, .sl 2 0 (mets (s.cases.take k)).length), (3, .ptr 0 0 0), (5, .ptr 1 0 0)], [some ⟨4, [p.fr]⟩, some ⟨2, [s.fr]⟩, some ⟨1, IntS (mets (s.cases.take k))⟩]⟩) (fun k => k ≤ s.cases.length ∧ casesOk p n (s.cases.take k) (s.cases.drop k) = casesOk p n [] s.cases) (fun k => s.cases.length - k) (0) ?_ ?_ (fun k hx => ?_)
  case' refine_1 =>
   simp
  case' refine_2 =>
   exact Wk.cut (by simp) (by simp [subE, mets]) (by simp [cutH, mets]) (by simp [lowE, lowN]) (by simp)
  case' refine_3 =>
   skip
   refine SW.rb ?_; refine SW.seqK fun K2 hK2 => ?_; refine SW.cond _ rfl (by simp) ?_ ?_
   case' refine_1 =>
    intro hb1; have hltx : k < s.cases.length := by simp at hb1; omega
    obtain ⟨x, hxk⟩ : ∃ q, s.cases[k]? = some q := ⟨_, List.getElem?_eq_getElem hltx⟩
    have hme := mets_len (s.cases.take k)
    have hmi : (s.cases.take k).length ≤ s.cases.length := by simp; omega
    have hms := mets_step hxk
    refine SW.skip ?_; refine hK2 _ ?_; refine SW.seqK fun K3 hK3 => ?_; refine SW.block ?_; refine SW.rg fun K hK => ?_; simp -implicitDefEqProofs [hxk]
    repeat (refine And.intro (by clear hK; first | omega | (intros; simp_all; done) | (intros; grind)) ?_)
    refine hK _ ?_; clear hK K; refine SW.seqK fun K4 hK4 => ?_; refine SW.rg fun K hK => ?_; simp -implicitDefEqProofs; repeat (refine And.intro (by clear hK; first | omega | (intros; simp_all; done) | (intros; grind)) ?_)
    refine CallK.fz (chan_i p _) ?_; simp -implicitDefEqProofs; repeat (refine And.intro (by clear hK; first | omega | (intros; simp_all; done) | (intros; grind)) ?_)
    refine CallG.fz (by simp) (fun _ => reg_i _) ?_; simp -implicitDefEqProofs; repeat (refine And.intro (by clear hK; first | omega | (intros; simp_all; done) | (intros; grind)) ?_)
    refine CallG.fz (by simp) (fun _ => reg_i _) ?_; simp -implicitDefEqProofs; repeat (refine And.intro (by clear hK; first | omega | (intros; simp_all; done) | (intros; grind)) ?_)
    refine CallG.fz (by simp) (fun _ => within_ok _ _ _) ?_; simp -implicitDefEqProofs; repeat (refine And.intro (by clear hK; first | omega | (intros; simp_all; done) | (intros; grind)) ?_)
    first
      | refine CallQG.fzE (by simp) (fun _ => contains_ok (mets (s.cases.take k)) x.chan (by omega)) (by simp) ?_
      | refine CallG.fzE (by simp) (fun _ => contains_ok (mets (s.cases.take k)) x.chan (by omega)) (by simp) ?_
      | refine CallQ.fzE (contains_ok (mets (s.cases.take k)) x.chan (by omega)) (by simp) ?_
      | refine CallK.fzE (contains_ok (mets (s.cases.take k)) x.chan (by omega)) (by simp) ?_
    simp -implicitDefEqProofs; repeat (refine And.intro (by clear hK; first | omega | (intros; simp_all; done) | (intros; grind)) ?_)
    refine hK _ ?_; clear hK K; refine SW.cond _ rfl (by simp) ?_ ?_
    case' refine_1 =>
     intro hb2
     have hres : casesOk p n [] s.cases = false := by
       rw [← hx.2, casesOk_step hxk]
       cases hc : caseOk p n x with
       | false => rfl
       | true =>
         have hge : -1 ≤ x.chan := by simp [caseOk, inR] at hc; omega
         have hdu : dupF (s.cases.take k) x = true := by rw [← mets_dup hge]; simp [caseOk, inR] at hc hb2 ⊢; grind
         rw [hdu]; rfl
     refine SW.rb ?_; refine SW.ret ?_; simp [Ex.then, Ex.ib]
     first
       | (simp only [selOk, hres]; done)
       | (simp only [selOk, hres, inR]; rw [Bool.true_and]; done)
       | (simp only [selOk, hres]; rw [Bool.false_and]; done)
       | fail
    intro hb2
    have hco : caseOk p n x = true := by
      cases h9 : caseOk p n x with
      | true => rfl
      | false => exfalso; simp [caseOk, inR] at h9 hb2; grind
    have hge : -1 ≤ x.chan := by simp [caseOk, inR] at hco; omega
    have hnd : dupF (s.cases.take k) x = false := by rw [← mets_dup hge]; simp at hb2 ⊢; exact hb2.2
    have hnx : casesOk p n (s.cases.take (k + 1)) (s.cases.drop (k + 1)) = casesOk p n [] s.cases := by rw [← hx.2, casesOk_step hxk, hco, hnd]; rfl
    refine SW.skip ?_; refine hK4 _ ?_; refine SW.rb ?_; refine SW.cond _ rfl (by simp) ?_ ?_
    case' refine_2 =>
     intro hb3; have heq : x.chan = -1 := by simpa using hb3
     simp [heq] at hms; refine SW.skip ?_
    rotate_right
    case' _ =>
     intro hb3; have hne : x.chan ≠ -1 := by simpa using hb3
     simp [hne] at hms; refine SW.eb ?_
    all_goals (
     refine hK3 _ ?_; refine SW.eb ?_; refine ⟨k + 1, ⟨by omega, hnx⟩, by omega, ?_⟩
     first
       | (have q : x.chan ≠ -1 := hne; exact Wk.ren [0, 1, 5] (by simp) (by simp) (by simp) (by simp) (by simp [renE, renN, wrap1 k (by omega), hms]) (by simp [renH, hms, IntS_app, IntS]) (by simp [lowE, lowN]) (by simp))
       | exact Wk.cut (by simp) (by simp [subE, wrap1 k (by omega), hms]) (by simp [cutH, hms]) (by simp [lowE, lowN]) (by simp))
   intro hb1; have hk : k = s.cases.length := by simp at hb1; omega
   subst hk; have hres : casesOk p n [] s.cases = true := by rw [← hx.2, List.drop_length]; rfl
   refine SW.exit ?_; simp only [Ex.then, Ex.ib]; try simp only [if_true, if_false, reduceIte]
   refine hK1 _ ?_; refine SW.rg fun K hK => ?_; simp -implicitDefEqProofs; repeat (refine And.intro (by clear hK; first | omega | (intros; simp_all; done) | (intros; grind)) ?_)
   refine CallK.fz (within_ok _ _ _) ?_; simp -implicitDefEqProofs; repeat (refine And.intro (by clear hK; first | omega | (intros; simp_all; done) | (intros; grind)) ?_)
   refine hK _ ?_; clear hK K; refine SW.ret ?_; simp [Ex.then, Ex.ib]
   first
     | (simp only [selOk, hres]; done)
     | (simp only [selOk, hres, inR]; rw [Bool.true_and]; done)
     | (simp only [selOk, hres]; rw [Bool.false_and]; done)
     | fail
end HT
