import Derived.Test.YtohfnikklggjjaaGreatHGV5
/-
  My own texts (road H): HGV6.
-/
set_option linter.unusedSimpArgs false
set_option linter.unusedVariables false
namespace HT
open Go Go.Proofs HK
theorem kinA_lenK {p : Prog} {ch : Int} (hp : ∀ s ∈ p.sels, s.cases.length ≤ 4) (k : Nat) (hk : k ≤ p.sels.length) : (kinA (p.sels.take k) ch).length ≤ 1 + 4 * p.sels.length := by
  have h := kinA_len ch (p.sels.take k) (fun s hs => hp s (List.mem_of_mem_take hs))
  have h2 : (p.sels.take k).length ≤ p.sels.length := by simp; omega
  omega
theorem IntS_takeL (a t : List Int) : List.take a.length (IntS (a ++ t)) = IntS a := by
  rw [IntS_app, List.take_left' (by simp)]
theorem chans_lenK {l : List Case} (hl : l.length ≤ 4) (j : Nat) : (chans (l.take j)).length ≤ 4 := by
  have h := chans_len (l.take j)
  have h2 : (l.take j).length ≤ l.length := by simp; omega
  omega
set_option maxHeartbeats 1000000 in
theorem kin_iY (p : Prog) (ch : Int) (h : p.ok) (hp : progOk p = true) (hin : inCh p ch = true) : Fn Tryz.prog 60 [.agg p.fr, .int .i64 ch] (.own 1 (IntS (kin p ch))) := by
  refine Fn.intro Tryz.func60 (by decide) rfl (rs := [.tmp 4]) rfl Tryz.ntmps60 (by simp) ?_; have hp4 := sel4 hp
  have h1 := h.1
  have h2 := h.2.1
  have h0 : 0 ≤ ch ∧ ch < p.caps.length := by simpa [inCh] using hin
  have hr : kin p ch = rising (kinA p.sels ch) := by unfold kin; rw [if_pos hin]
  refine SW.rg fun K hK => ?_; simp -implicitDefEqProofs; repeat (refine And.intro (by clear hK; first | omega | (intros; simp_all; done) | (intros; grind)) ?_)
  refine hK _ ?_; clear hK K; refine SW.seqK fun K1 hK1 => ?_; refine SW.rg fun K hK => ?_; simp -implicitDefEqProofs [hp, h0.1, h0.2]; repeat (refine And.intro (by clear hK; first | omega | (intros; simp_all; done) | (intros; grind)) ?_)
  first
    | refine CallQ.fzE (progOk_i p h) (by simp) ?_
    | refine CallK.fzE (progOk_i p h) (by simp) ?_
  simp -implicitDefEqProofs [hp, h0.1, h0.2]; repeat (refine And.intro (by clear hK; first | omega | (intros; simp_all; done) | (intros; grind)) ?_)
  first
    | refine CallQG.fzE (by simp) (fun _ => within_ok ch 0 p.caps.length) (by simp) ?_
    | refine CallG.fzE (by simp) (fun _ => within_ok ch 0 p.caps.length) (by simp) ?_
    | refine CallQ.fzE (within_ok ch 0 p.caps.length) (by simp) ?_
    | refine CallK.fzE (within_ok ch 0 p.caps.length) (by simp) ?_
  simp -implicitDefEqProofs [hp, h0.1, h0.2]; repeat (refine And.intro (by clear hK; first | omega | (intros; simp_all; done) | (intros; grind)) ?_)
  refine hK _ ?_; clear hK K; refine SW.cond _ rfl (by simp) ?_ ?_
  case' refine_2 =>
   intro hb1
   first
   | (exfalso; simp at hb1; done)
   | (exfalso; simp at hb1; omega)
   | (
    refine SW.skip ?_; refine hK1 _ ?_; refine SW.rg fun K hK => ?_; simp -implicitDefEqProofs; repeat (refine And.intro (by clear hK; first | omega | (intros; simp_all; done) | (intros; grind)) ?_)
    refine hK _ ?_; clear hK K; refine SW.seqK fun K2 hK2 => ?_; refine SW.rg fun K hK => ?_; simp -implicitDefEqProofs; repeat (refine And.intro (by clear hK; first | omega | (intros; simp_all; done) | (intros; grind)) ?_)
    refine hK _ ?_; clear hK K; refine SW.block ?_
    refine SW.loop (α := Nat) (fun k => ⟨[(27, .int .i64 k), (26, .int .i64 p.sels.length), (25, .fz (SelectSf p.sels)), (1, .int .i64 ch), (5, .sl 0 0 (kinA (List.take k p.sels) ch).length)], [some ⟨1, IntS (kinA (List.take k p.sels) ch)⟩]⟩) (fun k => k ≤ p.sels.length) (fun k => p.sels.length - k) (0) ?_ ?_ (fun k hx => ?_)
    case' refine_1 =>
     simp
    case' refine_2 =>
     exact Wk.ren [1] (by simp) (by simp) (by simp) (by simp) (by simp [renE, renN, kinA]) (by simp [renH, IntS, kinA]) (by simp [lowE, lowN]) (by simp)
    case' refine_3 =>
     have hkl := kinA_lenK (ch := ch) hp4 k hx
     have hk0 := hx
     refine SW.rg fun K hK => ?_; simp -implicitDefEqProofs; repeat (refine And.intro (by clear hK; first | omega | (intros; simp_all; done) | (intros; grind)) ?_)
     refine hK _ ?_; clear hK K; refine SW.seqK fun K3 hK3 => ?_; refine SW.cond _ rfl (by simp) ?_ ?_
     case' refine_2 =>
      intro hb2
      first
      | (exfalso; simp at hb2; done)
      | (exfalso; simp at hb2; omega)
      | (
       have hk1 : k = p.sels.length := by simp at hb2; omega
       subst hk1; have htk : List.take p.sels.length p.sels = p.sels := List.take_length
       rw [htk] at hkl; refine SW.exit ?_; simp only [Ex.then, Ex.ib]; try simp only [if_true, if_false, reduceIte]
       refine hK2 _ ?_; refine SW.rg fun K hK => ?_; simp -implicitDefEqProofs [frameH, merge, fids, renB, List.range_succ]; repeat (refine And.intro (by clear hK; first | omega | (intros; simp_all; done) | (intros; grind)) ?_)
       refine CallS.mono (CallS.frame [0] (rising_ok (kinA p.sels ch) (by omega)) (by simp) (by simp [lowN]) (by simp) (by simp) (by simp [renH]) (by simp) (by simp) ?_) ?_
       · rintro o h' ⟨t, rfl, rfl⟩
         exact ⟨by simp, by simp [IntS_nfz], by simp [lowN], by simp [nfz, strN]⟩
       rintro o h' ⟨o0, h0, ⟨t, rfl, rfl⟩, rfl, rfl⟩
       simp -implicitDefEqProofs [frameH, merge, fids, renB, List.range_succ]; repeat (refine And.intro (by clear hK; first | omega | (intros; simp_all; done) | (intros; grind)) ?_)
       refine hK _ ?_; clear hK K; refine SW.ret ?_; simp [Ex.then, Ex.ib, -strN]
       all_goals first
         | (rw [hr]; done)
         | (rw [hr, IntS_takeL]; exact ⟨IntS_strM _, rfl⟩)
         | fail)
     rotate_right
     case' _ =>
      intro hb2
      first
      | (exfalso; simp at hb2; done)
      | (exfalso; simp at hb2; omega)
      | (
       have hlts : k < p.sels.length := by first | omega | (simp at hb2; omega)
       obtain ⟨s, hsk⟩ : ∃ q, p.sels[k]? = some q := ⟨_, List.getElem?_eq_getElem hlts⟩
       have hs4 := hp4 s (List.mem_of_getElem? hsk)
       have hko := kinA_step (ch := ch) hsk
       refine SW.skip ?_; refine hK3 _ ?_; refine SW.seqK fun K4 hK4 => ?_; refine SW.block ?_; refine SW.rg fun K hK => ?_; simp -implicitDefEqProofs [hsk]
       repeat (refine And.intro (by clear hK; first | omega | (intros; simp_all; done) | (intros; grind)) ?_)
       refine hK _ ?_; clear hK K; refine SW.rg fun K hK => ?_; simp -implicitDefEqProofs; repeat (refine And.intro (by clear hK; first | omega | (intros; simp_all; done) | (intros; grind)) ?_)
       refine hK _ ?_; clear hK K; refine SW.seqK fun K5 hK5 => ?_; refine SW.rg fun K hK => ?_; simp -implicitDefEqProofs; repeat (refine And.intro (by clear hK; first | omega | (intros; simp_all; done) | (intros; grind)) ?_)
       refine hK _ ?_; clear hK K; refine SW.block ?_
       refine SW.loop (α := Nat) (fun j => ⟨[(35, .int .i64 j), (34, .int .i64 s.cases.length), (33, .fz (CaseS s.cases)), (8, .sl 1 0 (chans (List.take j s.cases)).length), (27, .int .i64 k), (26, .int .i64 p.sels.length), (25, .fz (SelectSf p.sels)), (1, .int .i64 ch), (5, .sl 0 0 (kinA (List.take k p.sels) ch).length)], [some ⟨1, IntS (kinA (List.take k p.sels) ch)⟩, some ⟨1, IntS (chans (List.take j s.cases))⟩]⟩) (fun j => j ≤ s.cases.length) (fun j => s.cases.length - j) (0) ?_ ?_ (fun j hx => ?_)
       case' refine_1 =>
        simp
       case' refine_2 =>
        exact Wk.ren [0, 2] (by simp) (by simp) (by simp) (by simp) (by simp [renE, renN, chans]) (by simp [renH, chans]) (by simp [lowE, lowN]) (by simp)
       case' refine_3 =>
        skip
        refine SW.rg fun K hK => ?_; simp -implicitDefEqProofs; repeat (refine And.intro (by clear hK; first | omega | (intros; simp_all; done) | (intros; grind)) ?_)
        refine hK _ ?_; clear hK K; refine SW.seqK fun K6 hK6 => ?_; refine SW.cond _ rfl (by simp) ?_ ?_
        case' refine_2 =>
         intro hb3
         first
         | (exfalso; simp at hb3; done)
         | (exfalso; simp at hb3; omega)
         | (
          have hj1 : j = s.cases.length := by simp at hb3; omega
          subst hj1; have htj : List.take s.cases.length s.cases = s.cases := List.take_length
          have hcl := chans_len s.cases
          refine SW.exit ?_; simp only [Ex.then, Ex.ib]; try simp only [if_true, if_false, reduceIte]
          refine hK5 _ ?_; refine SW.rg fun K hK => ?_; simp -implicitDefEqProofs; repeat (refine And.intro (by clear hK; first | omega | (intros; simp_all; done) | (intros; grind)) ?_)
          first
            | refine CallQ.fzE (contains_ok (chans s.cases) ch (by omega)) (by simp) ?_
            | refine CallK.fzE (contains_ok (chans s.cases) ch (by omega)) (by simp) ?_
          simp -implicitDefEqProofs; repeat (refine And.intro (by clear hK; first | omega | (intros; simp_all; done) | (intros; grind)) ?_)
          refine hK _ ?_; clear hK K; refine SW.cond _ rfl (by simp) ?_ ?_
          case' refine_2 =>
           intro hb4
           first
           | (exfalso; simp at hb4; done)
           | (exfalso; simp at hb4; omega)
           | (
            have hc : ¬ ch ∈ chans s.cases := by simpa using hb4
            rw [if_neg hc, List.append_nil] at hko
            refine SW.skip ?_)
          rotate_right
          case' _ =>
           intro hb4
           first
           | (exfalso; simp at hb4; done)
           | (exfalso; simp at hb4; omega)
           | (
            have hc : ch ∈ chans s.cases := by simpa using hb4
            rw [if_pos hc] at hko; refine SW.regionE fun K hK => ?_; simp -implicitDefEqProofs; refine ⟨⟨fun e he => IntS_len he, ?_, by omega⟩, hK _ ?_⟩
            · intro x hx y hy
              obtain ⟨n, _, rfl⟩ := List.mem_map.1 hx; simp only [List.mem_singleton] at hy; subst hy; exact ⟨rfl, rfl⟩
            clear hK K))
        rotate_right
        case' _ =>
         intro hb3
         first
         | (exfalso; simp at hb3; done)
         | (exfalso; simp at hb3; omega)
         | (
          have hltx : j < s.cases.length := by first | omega | (simp at hb3; omega)
          obtain ⟨x, hxk⟩ : ∃ q, s.cases[j]? = some q := ⟨_, List.getElem?_eq_getElem hltx⟩
          have hst := chans_step hxk
          have hcl := chans_lenK hs4 j
          refine SW.skip ?_; refine hK6 _ ?_; refine SW.seqK fun K7 hK7 => ?_; refine SW.block ?_; refine SW.rg fun K hK => ?_; simp -implicitDefEqProofs [hxk]
          repeat (refine And.intro (by clear hK; first | omega | (intros; simp_all; done) | (intros; grind)) ?_)
          refine hK _ ?_; clear hK K; refine SW.rg fun K hK => ?_; simp -implicitDefEqProofs; repeat (refine And.intro (by clear hK; first | omega | (intros; simp_all; done) | (intros; grind)) ?_)
          refine hK _ ?_; clear hK K; refine SW.cond _ rfl (by simp) ?_ ?_
          case' refine_2 =>
           intro hb5
           first
           | (exfalso; simp at hb5; done)
           | (exfalso; simp at hb5; omega)
           | (
            have hc : ¬ 0 ≤ x.chan := by simpa using hb5
            rw [if_neg hc] at hst
            refine SW.skip ?_)
          rotate_right
          case' _ =>
           intro hb5
           first
           | (exfalso; simp at hb5; done)
           | (exfalso; simp at hb5; omega)
           | (
            have hc : 0 ≤ x.chan := by simpa using hb5
            rw [if_pos hc] at hst; refine SW.regionE fun K hK => ?_; simp -implicitDefEqProofs; repeat (refine And.intro (by clear hK; first | omega | (intros; simp_all; done) | (intros; grind)) ?_)
            refine hK _ ?_
            clear hK K)
          all_goals (
           refine hK7 _ ?_; refine SW.regionE fun K hK => ?_; simp -implicitDefEqProofs; repeat (refine And.intro (by clear hK; first | omega | (intros; simp_all; done) | (intros; grind)) ?_)
           refine hK _ ?_; clear hK K; refine ⟨j + 1, by omega, by omega, ?_⟩
           first
             | (have q : 0 ≤ x.chan := hc; exact Wk.ren [0, 4] (by simp) (by simp) (by simp) (by simp) (by simp [renE, renN, wrap1 j (by omega), hst]) (by simp [renH, hst, IntS_snoc]) (by simp [lowE, lowN]) (by simp))
             | exact Wk.cut (by simp) (by simp [subE, wrap1 j (by omega), hst]) (by simp [cutH, hst]) (by simp [lowE, lowN]) (by simp)))
       all_goals (
        refine hK4 _ ?_; refine SW.regionE fun K hK => ?_; simp -implicitDefEqProofs; repeat (refine And.intro (by clear hK; first | omega | (intros; simp_all; done) | (intros; grind)) ?_)
        refine hK _ ?_; clear hK K; refine ⟨k + 1, by omega, by omega, ?_⟩
        first
          | (have q : ch ∈ chans s.cases := hc; exact Wk.ren [2] (by simp) (by simp) (by simp) (by simp) (by simp [renE, renN, wrap1 k (by omega), hko]) (by simp [renH, hko, IntS_app]) (by simp [lowE, lowN]) (by simp))
          | exact Wk.cut (by simp) (by simp [subE, wrap1 k (by omega), hko]) (by simp [cutH, hko]) (by simp [lowE, lowN]) (by simp))))
  rotate_right
  case' _ =>
   intro hb1
   first
   | (exfalso; simp at hb1; done)
   | (exfalso; simp at hb1; omega)
   | (
    refine SW.rg fun K hK => ?_; simp -implicitDefEqProofs; repeat (refine And.intro (by clear hK; first | omega | (intros; simp_all; done) | (intros; grind)) ?_)
    refine hK _ ?_; clear hK K; refine SW.ret ?_; simp [Ex.then, Ex.ib, -strN]
    all_goals first
      | (rw [hr]; done)
      | (rw [hr, IntS_takeL]; exact ⟨IntS_strM _, rfl⟩)
      | fail)
end HT
