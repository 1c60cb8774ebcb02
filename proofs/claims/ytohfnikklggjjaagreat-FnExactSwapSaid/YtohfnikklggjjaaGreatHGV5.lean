import Derived.Test.YtohfnikklggjjaaGreatHGV4
/-
  My own texts (road H): HGV5.
-/
set_option linter.unusedSimpArgs false
set_option linter.unusedVariables false
namespace HT
open Go Go.Proofs HK
theorem kinO_len {p : Prog} {ch : Int} (hp : ∀ s ∈ p.sels, s.cases.length ≤ 4) (k : Nat) (hk : k ≤ p.sels.length) : ((p.sels.take k).foldl (kinStep ch) [ch]).length ≤ 1 + 4 * p.sels.length := by
  have h := kinF_len ch (p.sels.take k) [ch] (fun s hs => hp s (List.mem_of_mem_take hs))
  have h2 : (p.sels.take k).length ≤ p.sels.length := by simp; omega
  simp only [List.length_singleton] at h; omega
theorem csO_len {o : List Int} {b : Bool} {l : List Case} (hl : l.length ≤ 4) (j : Nat) : ((l.take j).foldl (csStep b) o).length ≤ o.length + 4 := by
  have h := csF_len b (l.take j) o
  have h2 : (l.take j).length ≤ l.length := by simp; omega
  omega
theorem csStep_y {b : Bool} {o : List Int} {x : Case} (h : b = true ∧ 0 ≤ x.chan) : csStep b o x = into x.chan o := by simp [csStep, h]
theorem csStep_n {b : Bool} {o : List Int} {x : Case} (h : ¬ (b = true ∧ 0 ≤ x.chan)) : csStep b o x = o := by
  unfold csStep; rw [if_neg (by simpa using h)]
set_option maxHeartbeats 1000000 in
theorem kinl_s (p : Prog) (ch : Int) (h : p.ok) (hp : progOk p = true) : Fn Tryz.prog 72 [.agg p.fr, .int .i64 ch] (.own 1 (IntS (kin p ch))) := by
  refine Fn.intro Tryz.func72 (by decide) rfl (rs := [.tmp 4]) rfl Tryz.ntmps72 (by simp) ?_; have hp4 := sel4 hp
  have h1 := h.1
  have h2 := h.2.1
  refine SW.rg fun K hK => ?_; simp -implicitDefEqProofs; repeat (refine And.intro (by clear hK; first | omega | (intros; simp_all; done) | (intros; grind)) ?_)
  refine hK _ ?_; clear hK K; refine SW.rg fun K hK => ?_; simp -implicitDefEqProofs; repeat (refine And.intro (by clear hK; first | omega | (intros; simp_all; done) | (intros; grind)) ?_)
  refine hK _ ?_; clear hK K; refine SW.seqK fun K1 hK1 => ?_; refine SW.rg fun K hK => ?_; simp -implicitDefEqProofs; repeat (refine And.intro (by clear hK; first | omega | (intros; simp_all; done) | (intros; grind)) ?_)
  refine hK _ ?_; clear hK K; refine SW.cond _ rfl (by simp) ?_ ?_
  case' refine_2 =>
   intro hb1
   first
   | (exfalso; simp at hb1; done)
   | (exfalso; simp at hb1; omega)
   | (
    have h0 : 0 ≤ ch ∧ ch < p.caps.length := by
      simp at hb1; omega
    have hin : inCh p ch = true := by
      simp [inCh]; omega
    have hr : kin p ch = p.sels.foldl (kinStep ch) [ch] := by
      unfold kin; rw [if_pos hin, kinS_eq h0.1]
    refine SW.skip ?_; refine hK1 _ ?_; refine SW.rg fun K hK => ?_; simp -implicitDefEqProofs; repeat (refine And.intro (by clear hK; first | omega | (intros; simp_all; done) | (intros; grind)) ?_)
    refine hK _ ?_; clear hK K; refine SW.seqK fun K2 hK2 => ?_; refine SW.rg fun K hK => ?_; simp -implicitDefEqProofs; repeat (refine And.intro (by clear hK; first | omega | (intros; simp_all; done) | (intros; grind)) ?_)
    refine hK _ ?_; clear hK K; refine SW.block ?_
    refine SW.loop (α := Nat) (fun k => ⟨[(31, .int .i64 k), (30, .int .i64 p.sels.length), (29, .fz (SelectSf p.sels)), (1, .int .i64 ch), (5, .sl 0 0 (List.foldl (kinStep ch) [ch] (List.take k p.sels)).length)], [some ⟨1, IntS (List.foldl (kinStep ch) [ch] (List.take k p.sels))⟩]⟩) (fun k => k ≤ p.sels.length) (fun k => p.sels.length - k) (0) ?_ ?_ (fun k hx => ?_)
    case' refine_1 =>
     simp
    case' refine_2 =>
     exact Wk.ren [3] (by simp) (by simp) (by simp) (by simp) (by simp [renE, renN]) (by simp [renH, IntS]) (by simp [lowE, lowN]) (by simp)
    case' refine_3 =>
     have hkl := kinO_len (ch := ch) hp4 k hx
     have hk0 := hx
     refine SW.rg fun K hK => ?_; simp -implicitDefEqProofs; repeat (refine And.intro (by clear hK; first | omega | (intros; simp_all; done) | (intros; grind)) ?_)
     refine hK _ ?_; clear hK K; refine SW.seqK fun K3 hK3 => ?_; refine SW.cond _ rfl (by simp) ?_ ?_
     case' refine_2 =>
      intro hb2
      first
      | (exfalso; simp at hb2; done)
      | (exfalso; simp at hb2; omega)
      | (
       have hk1 : k = p.sels.length := by simp at hb2; omega
       subst hk1; have htk : List.take p.sels.length p.sels = p.sels := List.take_length
       refine SW.exit ?_; simp only [Ex.then, Ex.ib]; try simp only [if_true, if_false, reduceIte]
       refine hK2 _ ?_; refine SW.rg fun K hK => ?_; simp -implicitDefEqProofs; repeat (refine And.intro (by clear hK; first | omega | (intros; simp_all; done) | (intros; grind)) ?_)
       refine hK _ ?_; clear hK K; refine SW.ret ?_; simp [Ex.then, Ex.ib, -strN]
       all_goals first
         | (rw [hr]; done)
         | (rw [hr]; rfl)
         | (rw [hr]; exact ⟨IntS_strM _, rfl⟩)
         | fail)
     rotate_right
     case' _ =>
      intro hb2
      first
      | (exfalso; simp at hb2; done)
      | (exfalso; simp at hb2; omega)
      | (
       have hlts : k < p.sels.length := by first | omega | (simp at hb2; omega)
       obtain ⟨s, hsk⟩ : ∃ q, p.sels[k]? = some q := ⟨_, List.getElem?_eq_getElem hlts⟩
       have hs4 := hp4 s (List.mem_of_getElem? hsk)
       have hko := foldl_step (f := kinStep ch) (o := [ch]) hsk
       refine SW.skip ?_; refine hK3 _ ?_; refine SW.seqK fun K4 hK4 => ?_; refine SW.block ?_; refine SW.rg fun K hK => ?_; simp -implicitDefEqProofs [hsk]
       repeat (refine And.intro (by clear hK; first | omega | (intros; simp_all; done) | (intros; grind)) ?_)
       refine hK _ ?_; clear hK K; refine SW.rg fun K hK => ?_; simp -implicitDefEqProofs; repeat (refine And.intro (by clear hK; first | omega | (intros; simp_all; done) | (intros; grind)) ?_)
       refine hK _ ?_; clear hK K; refine SW.seqK fun K5 hK5 => ?_; refine SW.rg fun K hK => ?_; simp -implicitDefEqProofs; repeat (refine And.intro (by clear hK; first | omega | (intros; simp_all; done) | (intros; grind)) ?_)
       refine hK _ ?_; clear hK K; refine SW.block ?_
       refine SW.loop (α := Nat) (fun j => ⟨[(38, .int .i64 j), (37, .int .i64 s.cases.length), (36, .fz (CaseS s.cases)), (8, .bool ((s.cases.take j).any fun x => decide (x.chan = ch))), (7, .ptr 1 0 0), (31, .int .i64 k), (30, .int .i64 p.sels.length), (29, .fz (SelectSf p.sels)), (1, .int .i64 ch), (5, .sl 0 0 (List.foldl (kinStep ch) [ch] (List.take k p.sels)).length)], [some ⟨1, IntS (List.foldl (kinStep ch) [ch] (List.take k p.sels))⟩, some ⟨2, [s.fr]⟩]⟩) (fun j => j ≤ s.cases.length) (fun j => s.cases.length - j) (0) ?_ ?_ (fun j hx => ?_)
       case' refine_1 =>
        simp
       case' refine_2 =>
        exact Wk.cut (by simp) (by simp [subE]) (by simp [cutH]) (by simp [lowE, lowN]) (by simp)
       case' refine_3 =>
        skip
        refine SW.rg fun K hK => ?_; simp -implicitDefEqProofs; repeat (refine And.intro (by clear hK; first | omega | (intros; simp_all; done) | (intros; grind)) ?_)
        refine hK _ ?_; clear hK K; refine SW.seqK fun K6 hK6 => ?_; refine SW.cond _ rfl (by simp) ?_ ?_
        case' refine_2 =>
         intro hb3
         first
         | (exfalso; simp at hb3; done)
         | (exfalso; simp at hb3; omega)
         | (
          have hj1 : j = s.cases.length := by simp at hb3; omega
          subst hj1; have htj : List.take s.cases.length s.cases = s.cases := List.take_length
          refine SW.exit ?_; simp only [Ex.then, Ex.ib]; try simp only [if_true, if_false, reduceIte]
          refine hK5 _ ?_; refine SW.rg fun K hK => ?_; simp -implicitDefEqProofs; repeat (refine And.intro (by clear hK; first | omega | (intros; simp_all; done) | (intros; grind)) ?_)
          refine hK _ ?_; clear hK K; refine SW.block ?_
          refine SW.loop (α := Nat) (fun j => ⟨[(53, .int .i64 j), (52, .int .i64 s.cases.length), (51, .fz (CaseS s.cases)), (8, .bool (hereC ch s.cases)), (31, .int .i64 k), (30, .int .i64 p.sels.length), (29, .fz (SelectSf p.sels)), (1, .int .i64 ch), (5, .sl 0 0 (List.foldl (csStep (hereC ch s.cases)) (List.foldl (kinStep ch) [ch] (List.take k p.sels)) (List.take j s.cases)).length)], [some ⟨1, IntS (List.foldl (csStep (hereC ch s.cases)) (List.foldl (kinStep ch) [ch] (List.take k p.sels)) (List.take j s.cases))⟩]⟩) (fun j => j ≤ s.cases.length) (fun j => s.cases.length - j) (0) ?_ ?_ (fun j hx => ?_)
          case' refine_1 =>
           simp
          case' refine_2 =>
           exact Wk.cut (by simp) (by simp [subE, hereC]) (by simp [cutH]) (by simp [lowE, lowN]) (by simp)
          case' refine_3 =>
           skip
           refine SW.rg fun K hK => ?_; simp -implicitDefEqProofs; repeat (refine And.intro (by clear hK; first | omega | (intros; simp_all; done) | (intros; grind)) ?_)
           refine hK _ ?_; clear hK K; refine SW.seqK fun K7 hK7 => ?_; refine SW.cond _ rfl (by simp) ?_ ?_
           case' refine_2 =>
            intro hb4
            first
            | (exfalso; simp at hb4; done)
            | (exfalso; simp at hb4; omega)
            | (
             have hj1 : j = s.cases.length := by simp at hb4; omega
             subst hj1; have htj : List.take s.cases.length s.cases = s.cases := List.take_length
             refine SW.exit ?_; simp only [Ex.then, Ex.ib]; try simp only [if_true, if_false, reduceIte]
             refine hK4 _ ?_; refine SW.regionE fun K hK => ?_; simp -implicitDefEqProofs; repeat (refine And.intro (by clear hK; first | omega | (intros; simp_all; done) | (intros; grind)) ?_)
             refine hK _ ?_; clear hK K; refine ⟨k + 1, by omega, by omega, ?_⟩
             exact Wk.cut (by simp) (by simp [subE, wrap1 k (by omega), hko, kinStep]) (by simp [cutH, hko, kinStep]) (by simp [lowE, lowN]) (by simp))
           rotate_right
           case' _ =>
            intro hb4
            first
            | (exfalso; simp at hb4; done)
            | (exfalso; simp at hb4; omega)
            | (
             have hltx : j < s.cases.length := by first | omega | (simp at hb4; omega)
             obtain ⟨x, hxk⟩ : ∃ q, s.cases[j]? = some q := ⟨_, List.getElem?_eq_getElem hltx⟩
             have hst := foldl_step (f := csStep (hereC ch s.cases)) (o := (List.foldl (kinStep ch) [ch] (List.take k p.sels))) hxk
             have hcl := csO_len (o := (List.foldl (kinStep ch) [ch] (List.take k p.sels))) (b := hereC ch s.cases) hs4 j
             refine SW.skip ?_; refine hK7 _ ?_; refine SW.seqK fun K8 hK8 => ?_; refine SW.block ?_; refine SW.rg fun K hK => ?_; simp -implicitDefEqProofs [hxk]
             repeat (refine And.intro (by clear hK; first | omega | (intros; simp_all; done) | (intros; grind)) ?_)
             refine hK _ ?_; clear hK K; refine SW.rg fun K hK => ?_; simp -implicitDefEqProofs; repeat (refine And.intro (by clear hK; first | omega | (intros; simp_all; done) | (intros; grind)) ?_)
             refine hK _ ?_; clear hK K; refine SW.cond _ rfl (by simp) ?_ ?_
             case' refine_2 =>
              intro hb5
              first
              | (exfalso; simp at hb5; done)
              | (exfalso; simp at hb5; omega)
              | (
               have hc : ¬ (hereC ch s.cases = true ∧ 0 ≤ x.chan) := by simpa using hb5
               rw [csStep_n hc] at hst
               refine SW.skip ?_)
             rotate_right
             case' _ =>
              intro hb5
              first
              | (exfalso; simp at hb5; done)
              | (exfalso; simp at hb5; omega)
              | (
               have hc : hereC ch s.cases = true ∧ 0 ≤ x.chan := by simpa using hb5
               rw [csStep_y hc] at hst; refine SW.regionE fun K hK => ?_; simp -implicitDefEqProofs; repeat (refine And.intro (by clear hK; first | omega | (intros; simp_all; done) | (intros; grind)) ?_)
               refine CallK.imE (into_s x.chan (List.foldl (csStep (hereC ch s.cases)) (List.foldl (kinStep ch) [ch] (List.take k p.sels)) (List.take j s.cases)) (by omega)) (by simp) (IntS_okI _) ?_; simp -implicitDefEqProofs
               repeat (refine And.intro (by clear hK; first | omega | (intros; simp_all; done) | (intros; grind)) ?_)
               refine hK _ ?_
               clear hK K)
             all_goals (
              refine hK8 _ ?_; refine SW.regionE fun K hK => ?_; simp -implicitDefEqProofs; repeat (refine And.intro (by clear hK; first | omega | (intros; simp_all; done) | (intros; grind)) ?_)
              refine hK _ ?_; clear hK K; refine ⟨j + 1, by omega, by omega, ?_⟩
              first
                | (have q : hereC ch s.cases = true ∧ 0 ≤ x.chan := hc; exact Wk.ren [2] (by simp) (by simp) (by simp) (by simp) (by simp [renE, renN, wrap1 j (by omega), hst]) (by simp [renH, hst]) (by simp [lowE, lowN]) (by simp))
                | exact Wk.cut (by simp) (by simp [subE, wrap1 j (by omega), hst]) (by simp [cutH, hst]) (by simp [lowE, lowN]) (by simp))))
        rotate_right
        case' _ =>
         intro hb3
         first
         | (exfalso; simp at hb3; done)
         | (exfalso; simp at hb3; omega)
         | (
          have hltx : j < s.cases.length := by first | omega | (simp at hb3; omega)
          obtain ⟨x, hxk⟩ : ∃ q, s.cases[j]? = some q := ⟨_, List.getElem?_eq_getElem hltx⟩
          have hst := any_step (f := fun x : Case => decide (x.chan = ch)) hxk
          have hbd : (x.chan == ch) = decide (x.chan = ch) := by rw [Bool.eq_iff_iff]; simp
          refine SW.skip ?_; refine hK6 _ ?_; refine SW.seqK fun K9 hK9 => ?_; refine SW.block ?_; refine SW.rg fun K hK => ?_; simp -implicitDefEqProofs [hxk]
          repeat (refine And.intro (by clear hK; first | omega | (intros; simp_all; done) | (intros; grind)) ?_)
          refine hK _ ?_; clear hK K; refine SW.regionE fun K hK => ?_; simp -implicitDefEqProofs; repeat (refine And.intro (by clear hK; first | omega | (intros; simp_all; done) | (intros; grind)) ?_)
          refine hK _ ?_; clear hK K; refine hK9 _ ?_; refine SW.regionE fun K hK => ?_; simp -implicitDefEqProofs; repeat (refine And.intro (by clear hK; first | omega | (intros; simp_all; done) | (intros; grind)) ?_)
          refine hK _ ?_; clear hK K; refine ⟨j + 1, by omega, by omega, ?_⟩
          exact Wk.cut (by simp) (by simp [subE, wrap1 j (by omega), hst, hbd]) (by simp [cutH]) (by simp [lowE, lowN]) (by simp))))
  rotate_right
  case' _ =>
   intro hb1
   first
   | (exfalso; simp at hb1; done)
   | (exfalso; simp at hb1; omega)
   | (
    have hin : inCh p ch = false := by
      simp [inCh]; simp at hb1; omega
    have hr : kin p ch = [] := by simp [kin, hin]
    refine SW.rg fun K hK => ?_; simp -implicitDefEqProofs; repeat (refine And.intro (by clear hK; first | omega | (intros; simp_all; done) | (intros; grind)) ?_)
    refine hK _ ?_; clear hK K; refine SW.ret ?_; simp [Ex.then, Ex.ib, -strN]
    all_goals first
      | (rw [hr]; done)
      | (rw [hr]; rfl)
      | (rw [hr]; exact ⟨IntS_strM _, rfl⟩)
      | fail)
end HT
