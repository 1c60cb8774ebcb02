import Derived.Test.YteeefpifkepbpaaEHSY1
import Derived.Test.YteeefpifkepbpaaEHSY2
import Derived.Test.YteeefpifkepbpaaEHSZ5
/-
  My own texts (road H): HSY3.
-/
set_option linter.unusedSimpArgs false
set_option linter.unusedVariables false
namespace HS
open Go Go.Proofs HK
theorem frame_isB (i : Nat) {d : List Int} (hd : ∀ x ∈ d, isB x) : ∀ x ∈ frameB i d, isB x := fun x hx => by
  unfold frameB hd15 hd11 at hx; simp only [List.mem_append] at hx; rcases hx with ((h | h) | h) | h
  · exact hd3_isB _ _ x h
  · exact putB_isB _ _ x h
  · exact putB_isB _ _ x h
  · exact hd x h
theorem strm_isB : ∀ {cs : List (List Int)} {i : Nat}, okC cs → ∀ x ∈ strm i cs, isB x
  | [], i, _, x, hx => by simp [strm] at hx
  | d :: cs, i, h, x, hx => by
    rcases List.mem_append.1 (show x ∈ frameB i d ++ strm (i + 1) cs from hx) with h1 | h1
    · exact frame_isB i (h d (by simp)).2 x h1
    · exact strm_isB (fun e he => h e (List.mem_cons_of_mem _ he)) x h1
theorem logRead_L (p : Int) (l : List Deed) (h : logOk p l = true) (h9 : l.length ≤ 9) : HK.Fn Try.prog 47 [.fz (YS (logB p l))] (.tup [.agg [.int .i64 p, .own 4 (DS l)], .int .i64 0]) := by
  have h' := h
  simp only [logOk, fitL, Bool.and_eq_true, decide_eq_true_eq] at h'; have hr : rndL l ≤ 3 := by unfold rndL; omega
  have hc := chs_ok h'.1 h'.2.1 (rndL l)
  have hlen := strm_len (i := 0) hc
  have hcl : (chs p l (rndL l)).length = rndL l + 1 := by simp [chs]
  have := logRead_i (logB p l) (by unfold logB; omega) (strm_isB hc)
  rw [logR_logB h] at this; exact this
theorem rdE_i (last : Int) (d : Deed) (h : packOk last d = true) : HK.Fn Try.prog 40 [.fz (YS (1 :: packB last d)), .int .i64 1, .int .i64 last] (.tup [.agg d.c, .int .i64 ((1 + (packB last d).length : Nat) : Int), .bool true]) := by
  have h1 := readE_pack [1] [] h (i := 1) rfl
  rw [List.append_nil] at h1
  have := readEvent_impl (1 :: packB last d) 1 last (by have := packB_len h; simp; omega) (fun x hx => by
    rcases List.mem_cons.1 hx with rfl | hx
    · exact ⟨by omega, by omega⟩
    · exact packB_isB _ _ x hx)
  rw [show (readE (1 :: packB last d) 1 last) = some (d, 1 + (packB last d).length) from h1] at this; exact this
set_option maxHeartbeats 4000000 in
theorem law_events (code : List Int) (_hb : ∀ x ∈ code, isB x) : Fn Try.prog 10 [.fz (YS code)] (.bool true) := by
  refine Fn.intro Try.func10 (by decide) rfl (rs := [.tmp 2]) rfl Try.ntmps10 (by simp) ?_; refine SW.rg fun K hK => ?_; simp -implicitDefEqProofs
  repeat (refine And.intro (by clear hK; first | omega | (intros; omega) | (intros; simp_all; done) | (intros; grind)) ?_)
  refine hK _ ?_; clear hK K; refine SW.seqK fun K1 hK1 => ?_; refine SW.rg fun K hK => ?_; simp -implicitDefEqProofs; repeat (refine And.intro (by clear hK; first | omega | (intros; omega) | (intros; simp_all; done) | (intros; grind)) ?_)
  refine hK _ ?_; clear hK K; refine SW.cond _ rfl (by simp) ?_ ?_
  case' refine_2 =>
   intro hb1; have hl : code.length ≤ 1048576 := by simp at hb1; omega
   first
   | (exfalso; simp at hb1; done)
   | (exfalso; simp at hb1; omega)
   | (
    refine SW.skip ?_; refine hK1 _ ?_; refine SW.rg fun K hK => ?_; simp -implicitDefEqProofs; repeat (refine And.intro (by clear hK; first | omega | (intros; omega) | (intros; simp_all; done) | (intros; grind)) ?_)
    refine CallS.mono (some_ok code (by omega)) ?_
    rintro o h' ⟨l, c1, hl9, hfa, rfl, rfl⟩
    simp -implicitDefEqProofs; repeat (refine And.intro (by clear hK; first | omega | (intros; omega) | (intros; simp_all; done) | (intros; grind)) ?_)
    refine hK _ ?_; clear hK K; refine SW.rg fun K hK => ?_; simp -implicitDefEqProofs; repeat (refine And.intro (by clear hK; first | omega | (intros; omega) | (intros; simp_all; done) | (intros; grind)) ?_)
    refine CallS.mono (num_ok code (by omega) [some c1, some ⟨4, DS l⟩]) ?_
    rintro o h' ⟨p, c2, hp0, hp1, rfl, rfl⟩
    have hok : logOk p l = true := by
      simp only [logOk, numOk, fitL, hfa, Bool.and_eq_true, decide_eq_true_eq, true_and]; omega
    have hfl : fitL l = true := by
      simp only [fitL, hfa, Bool.and_eq_true, decide_eq_true_eq, true_and]; omega
    simp -implicitDefEqProofs; repeat (refine And.intro (by clear hK; first | omega | (intros; omega) | (intros; simp_all; done) | (intros; grind)) ?_)
    refine hK _ ?_; clear hK K; refine SW.rg fun K hK => ?_; simp -implicitDefEqProofs; repeat (refine And.intro (by clear hK; first | omega | (intros; omega) | (intros; simp_all; done) | (intros; grind)) ?_)
    refine CallK.imE (logB_i p l hok) (by simp) (tupB_okI _) ?_; simp -implicitDefEqProofs; repeat (refine And.intro (by clear hK; first | omega | (intros; omega) | (intros; simp_all; done) | (intros; grind)) ?_)
    refine hK _ ?_; clear hK K; refine SW.rg fun K hK => ?_; simp -implicitDefEqProofs; repeat (refine And.intro (by clear hK; first | omega | (intros; omega) | (intros; simp_all; done) | (intros; grind)) ?_)
    refine CallK.imE (logRead_L p l hok hl9) (by simp) (by simp) ?_; simp -implicitDefEqProofs; repeat (refine And.intro (by clear hK; first | omega | (intros; omega) | (intros; simp_all; done) | (intros; grind)) ?_)
    refine hK _ ?_; clear hK K; refine SW.seqK fun K2 hK2 => ?_; refine SW.rg fun K hK => ?_; simp -implicitDefEqProofs [hfl]
    repeat (refine And.intro (by clear hK; first | omega | (intros; omega) | (intros; simp_all; done) | (intros; grind)) ?_)
    first
      | refine CallQG.fzE (by simp) (fun _ => fits_i l (by omega)) (by simp) ?_
      | refine CallG.fzE (by simp) (fun _ => fits_i l (by omega)) (by simp) ?_
      | refine CallQ.fzE (fits_i l (by omega)) (by simp) ?_
      | refine CallK.fzE (fits_i l (by omega)) (by simp) ?_
    simp -implicitDefEqProofs [hfl]; repeat (refine And.intro (by clear hK; first | omega | (intros; omega) | (intros; simp_all; done) | (intros; grind)) ?_)
    refine hK _ ?_; clear hK K; refine SW.cond _ rfl (by simp) ?_ ?_
    case' refine_2 =>
     intro hb2
     first
     | (exfalso; simp at hb2; done)
     | (exfalso; simp at hb2; omega)
     | (
      refine SW.skip ?_; refine hK2 _ ?_; refine SW.rg fun K hK => ?_; simp -implicitDefEqProofs; repeat (refine And.intro (by clear hK; first | omega | (intros; omega) | (intros; simp_all; done) | (intros; grind)) ?_)
      refine hK _ ?_; clear hK K; refine SW.seqK fun K3 hK3 => ?_; refine SW.rg fun K hK => ?_; simp -implicitDefEqProofs
      repeat (refine And.intro (by clear hK; first | omega | (intros; omega) | (intros; simp_all; done) | (intros; grind)) ?_)
      refine hK _ ?_; clear hK K; refine SW.block ?_
      refine SW.loop (α := Nat × Int) (fun x => ⟨[(64, .int .i64 (x.1 : Nat)), (63, .int .i64 l.length), (62, .sl 1 0 l.length), (9, .int .i64 x.2), (7, .ptr 6 0 0)], [none, some ⟨4, DS l⟩, none, none, none, some ⟨4, DS l⟩, some ⟨2, [[.int .i64 p, .sl 5 0 l.length]]⟩]⟩) (fun x => x.1 ≤ l.length ∧ 0 ≤ x.2 ∧ x.2 ≤ 9) (fun x => l.length - x.1) ((0, 0)) ?_ ?_ (fun x hx => ?_)
      case' refine_1 =>
       exact ⟨by simp, by simp, by simp⟩
      case' refine_2 =>
       exact Wk.cut (by simp) (by simp [subE]) (by simp [cutH]) (by simp [lowE, lowN]) (by simp [lowB, lowN]; intro x hx y hy; obtain ⟨n, rfl⟩ := DS_int hx hy; rfl)
      case' refine_3 =>
       skip
       refine SW.rg fun K hK => ?_; simp -implicitDefEqProofs; repeat (refine And.intro (by clear hK; first | omega | (intros; omega) | (intros; simp_all; done) | (intros; grind)) ?_)
       refine hK _ ?_; clear hK K; refine SW.seqK fun K4 hK4 => ?_; refine SW.cond _ rfl (by simp) ?_ ?_
       case' refine_2 =>
        intro hb3
        first
        | (exfalso; simp at hb3; done)
        | (exfalso; simp at hb3; omega)
        | (
         refine SW.exit ?_; simp only [Ex.then, Ex.ib]; try simp only [if_true, if_false, reduceIte]
         refine hK3 _ ?_; refine SW.rg fun K hK => ?_; simp -implicitDefEqProofs; repeat (refine And.intro (by clear hK; first | omega | (intros; omega) | (intros; simp_all; done) | (intros; grind)) ?_)
         refine hK _ ?_; clear hK K; refine SW.ret ?_; simp [Ex.then, Ex.ib]
         all_goals first
           | done
           | fail)
       rotate_right
       case' _ =>
        intro hb3
        first
        | (exfalso; simp at hb3; done)
        | (exfalso; simp at hb3; omega)
        | (
         have hlt : x.1 < l.length := by simp at hb3; omega
         obtain ⟨d, hxk⟩ : ∃ q, l[x.1]? = some q := ⟨_, List.getElem?_eq_getElem hlt⟩
         have hfd := List.all_eq_true.1 hfa d (List.mem_of_getElem? hxk)
         have hpk := fit_pack hfd hx.2.1 hx.2.2
         refine SW.skip ?_; refine hK4 _ ?_; refine SW.seqK fun K5 hK5 => ?_; refine SW.block ?_; refine SW.rg fun K hK => ?_; simp -implicitDefEqProofs [hxk]
         repeat (refine And.intro (by clear hK; first | omega | (intros; omega) | (intros; simp_all; done) | (intros; grind)) ?_)
         refine hK _ ?_; clear hK K; refine SW.rg fun K hK => ?_; simp -implicitDefEqProofs; repeat (refine And.intro (by clear hK; first | omega | (intros; omega) | (intros; simp_all; done) | (intros; grind)) ?_)
         refine CallK.imE (packEvent_iy [1] x.2 d (by simp) hpk) (by simp [YS]) (tupB_okI _) ?_; simp -implicitDefEqProofs
         repeat (refine And.intro (by clear hK; first | omega | (intros; omega) | (intros; simp_all; done) | (intros; grind)) ?_)
         refine hK _ ?_; clear hK K; refine SW.rg fun K hK => ?_; simp -implicitDefEqProofs; repeat (refine And.intro (by clear hK; first | omega | (intros; omega) | (intros; simp_all; done) | (intros; grind)) ?_)
         refine CallK.imE (rdE_i x.2 d hpk) (by simp; exact List.take_of_length_le (by simp)) (by simp) ?_; simp -implicitDefEqProofs
         repeat (refine And.intro (by clear hK; first | omega | (intros; omega) | (intros; simp_all; done) | (intros; grind)) ?_)
         refine hK _ ?_; clear hK K; refine SW.seqK fun K6 hK6 => ?_
         refine SW.drawK mixed [.q [(0, false), (1, false), (2, false), (3, false), (4, false), (5, false), (6, false), (7, false), (8, false), (9, false), (10, false), (11, false), (12, false), (13, false), (14, false), (15, false), (16, false), (17, false), (18, false), (19, false), (20, false), (21, false), (22, false), (23, false), (24, false), (25, false)]] (by kernel_rfl) rfl fun K hK => ?_
         simp -implicitDefEqProofs [hxk]; refine ⟨hlt, by kernel_rfl, hK _ ?_⟩; clear hK K; refine SW.cond _ rfl (by simp) ?_ ?_
         case' refine_2 =>
          intro hb4
          first
          | (exfalso; simp at hb4; done)
          | (exfalso; simp at hb4; omega)
          | (
           refine SW.skip ?_; refine hK6 _ ?_; refine SW.regionE fun K hK => ?_; simp -implicitDefEqProofs; repeat (refine And.intro (by clear hK; first | omega | (intros; omega) | (intros; simp_all; done) | (intros; grind)) ?_)
           refine hK _ ?_; clear hK K; refine hK5 _ ?_; refine SW.regionE fun K hK => ?_; simp -implicitDefEqProofs; repeat (refine And.intro (by clear hK; first | omega | (intros; omega) | (intros; simp_all; done) | (intros; grind)) ?_)
           refine hK _ ?_; clear hK K
           have hgd : 0 ≤ d.g ∧ d.g ≤ 9 := by
             simp only [fitD, Bool.and_eq_true, decide_eq_true_eq] at hfd; exact hfd.1.1.1
           refine ⟨(x.1 + 1, d.g), ⟨by simp only []; omega, hgd⟩, by simp only []; omega, ?_⟩
           exact Wk.cut (by simp) (by simp [subE, wrap1 x.1 (by omega)]) (by simp [cutH]) (by simp [lowE, lowN]) (by simp [lowB, lowN]; intro x hx y hy; obtain ⟨n, rfl⟩ := DS_int hx hy; rfl))
         rotate_right
         case' _ =>
          intro hb4
          first
          | (exfalso; simp at hb4; done)
          | (exfalso; simp at hb4; omega)
          | (
           refine SW.rg fun K hK => ?_; simp -implicitDefEqProofs; repeat (refine And.intro (by clear hK; first | omega | (intros; omega) | (intros; simp_all; done) | (intros; grind)) ?_)
           refine hK _ ?_; clear hK K; refine SW.ret ?_; simp [Ex.then, Ex.ib]
           all_goals first
             | done
             | fail)))
    rotate_right
    case' _ =>
     intro hb2
     first
     | (exfalso; simp at hb2; done)
     | (exfalso; simp at hb2; omega)
     | (
      refine SW.rg fun K hK => ?_; simp -implicitDefEqProofs; repeat (refine And.intro (by clear hK; first | omega | (intros; omega) | (intros; simp_all; done) | (intros; grind)) ?_)
      refine hK _ ?_; clear hK K; refine SW.ret ?_; simp [Ex.then, Ex.ib]
      all_goals first
        | done
        | fail))
  rotate_right
  case' _ =>
   intro hb1
   first
   | (exfalso; simp at hb1; done)
   | (exfalso; simp at hb1; omega)
   | (
    refine SW.rg fun K hK => ?_; simp -implicitDefEqProofs; repeat (refine And.intro (by clear hK; first | omega | (intros; omega) | (intros; simp_all; done) | (intros; grind)) ?_)
    refine hK _ ?_; clear hK K; refine SW.ret ?_; simp [Ex.then, Ex.ib]
    all_goals first
      | done
      | fail)
end HS
