import Derived.Test.YtdhoappjadnhcaaGreatHCY3
/-
  My own texts (road H): HCY4.
-/
set_option maxHeartbeats 8000000
set_option linter.unusedSimpArgs false
set_option linter.unusedVariables false
namespace HT
open Go Go.Proofs HK
theorem chansFit_step {p : Prog} {l : List Chan} {k : Nat} {c : Chan} (h : l[k]? = some c) : chansFit p k (l.drop k) = (chanFit p k c && chansFit p (k + 1) (l.drop (k + 1))) := by
  obtain ⟨hlt, rfl⟩ := List.getElem?_eq_some_iff.1 h; rw [List.drop_eq_getElem_cons hlt, chansFit]
theorem want_step {p : Prog} {l : List Gor} {k : Nat} {g : Gor} (h : l[k]? = some g) : want p 0 (l.take (k + 1)) = want p 0 (l.take k) ++ wantG p k g := by
  have hlt := (List.getElem?_eq_some_iff.1 h).1
  rw [List.take_add_one, h]; simp only [Option.toList_some, want_snoc, List.length_take, Nat.zero_add]; rw [Nat.min_eq_left (by omega)]
theorem wantG_len {p : Prog} {k : Nat} {g : Gor} (h : p.ok) : (wantG p k g).length ≤ 1048576 := by
  unfold wantG; split
  · exact pls_len h
  · simp
theorem want_len {p : Prog} (h : p.ok) : ∀ (l : List Gor) (k : Nat), (want p k l).length ≤ l.length * 1048576
  | [], _ => by simp [want]
  | g :: r, k => by
    have h1 := want_len h r (k + 1)
    have h2 := wantG_len (k := k) (g := g) h
    simp only [want, List.length_append, List.length_cons]; omega
theorem want_lenK {p : Prog} {l : List Gor} (h : p.ok) (h10 : l.length ≤ 10) (k : Nat) : (want p 0 (l.take k)).length ≤ 10485760 := by
  have h1 := want_len h (l.take k) 0
  have h2 : (l.take k).length ≤ l.length := by simp; omega
  have h3 : (l.take k).length * 1048576 ≤ 10 * 1048576 := Nat.mul_le_mul_right _ (by omega)
  omega
theorem objects_s (p : Prog) (e : Eng) (h : p.ok) (he : e.ok) : Fn Tryz.prog 102 [.agg p.fr, .agg e.fr] (.bool (engObj p e)) := by
  refine Fn.intro Tryz.func102 (by decide) rfl (rs := [.tmp 4]) rfl Tryz.ntmps102 (by simp) ?_; have h1 := he.1
  have h2 := he.2.2.1
  have h3 := he.2.2.2.2.1
  have h4 := h.1
  obtain ⟨hd, hhd⟩ : ∃ hd, hd = (decide (e.chans.length = p.caps.length) && decide ((e.mus.length : Int) = p.mus)) := ⟨_, rfl⟩
  have hen : engObj p e = (hd && chansFit p 0 e.chans && e.mus.all (muFit e)) := by unfold engObj; rw [hhd]
  refine SW.rb ?_; refine SW.seqK fun K1 hK1 => ?_; refine SW.rb ?_; refine SW.cond _ rfl (by simp) ?_ ?_
  case' refine_1 =>
   intro hb1
   have hh : hd = false := by
     rw [hhd, Bool.eq_false_iff]; intro h9; simp at h9; simp [h9] at hb1
   have hr : engObj p e = false := by rw [hen, hh]; rfl
   refine SW.rb ?_; refine SW.ret ?_; simp [Ex.then, Ex.ib]
   all_goals first
     | (simp [hr]; done)
     | fail
  intro hb1
  have hh : hd = true := by
    rw [hhd]; simp at hb1 ⊢; omega
  rw [hh, Bool.true_and] at hen
  have hcl : e.chans.length = p.caps.length := by
    rw [hh] at hhd; simp at hhd; omega
  refine SW.skip ?_; refine hK1 _ ?_; refine SW.seqK fun K2 hK2 => ?_; refine SW.rb ?_; refine SW.block ?_
  refine SW.loop (α := Nat) (fun k => ⟨[(27, .int .i64 k), (26, .int .i64 e.chans.length), (25, .fz (ChanSf e.chans)), (2, .ptr 0 0 0), (3, .ptr 1 0 0)], [some ⟨4, [p.fr]⟩, some ⟨3, [e.fr]⟩]⟩) (fun k => k ≤ e.chans.length ∧ chansFit p 0 e.chans = chansFit p k (e.chans.drop k)) (fun k => e.chans.length - k) (0) ?_ ?_ (fun k hx => ?_)
  case' refine_1 =>
   exact ⟨by simp, by simp⟩
  case' refine_2 =>
   exact Wk.cut (by simp) (by simp [subE]) (by simp [cutH]) (by simp [lowE, lowN]) (by simp)
  case' refine_3 =>
   skip
   refine SW.rb ?_; refine SW.seqK fun K3 hK3 => ?_; refine SW.cond _ rfl (by simp) ?_ ?_
   case' refine_1 =>
    intro hb2; have hltc : k < e.chans.length := by first | omega | (simp at hb2; omega)
    obtain ⟨c, hck⟩ : ∃ q, e.chans[k]? = some q := ⟨_, List.getElem?_eq_getElem hltc⟩
    have hco := he.2.2.2.1 c (List.mem_of_getElem? hck)
    have hst := chansFit_step (p := p) hck
    obtain ⟨n, hnk⟩ : ∃ q, p.caps[k]? = some q := ⟨_, List.getElem?_eq_getElem (by omega)⟩
    have hnE : ∀ q, p.caps[k]'q = n := fun q => (List.getElem?_eq_some_iff.1 hnk).2
    have hnl : k < p.caps.length := by omega
    have hcf : chanFit p k c = (chanOk c && decide (c.cap = n)) := by unfold chanFit; rw [hnk]
    refine SW.skip ?_; refine hK3 _ ?_; refine SW.seqK fun K7 hK7 => ?_; refine SW.block ?_; refine SW.rg fun K hK => ?_; simp -implicitDefEqProofs [hck]
    repeat (refine And.intro (by clear hK; first | omega | (intros; simp_all; done) | (intros; grind)) ?_)
    refine hK _ ?_; clear hK K
    refine SW.drawK mixed [.q [(0, false), (1, false), (2, false), (3, false), (4, false), (5, false), (6, false), (7, false), (8, false), (9, false), (10, false), (11, false), (12, false)]] (by kernel_rfl) rfl fun K hK => ?_
    simp -implicitDefEqProofs [hnk, hnE, hnl]; repeat (refine And.intro (by clear hK; first | omega | (intros; simp_all; done) | (intros; grind)) ?_)
    first
      | refine CallQ.fzE (chanOk_s c hco) (by simp) ?_
      | refine CallK.fzE (chanOk_s c hco) (by simp) ?_
    simp -implicitDefEqProofs [hnk, hnE, hnl]; repeat (refine And.intro (by clear hK; first | omega | (intros; simp_all; done) | (intros; grind)) ?_)
    refine hK _ ?_; clear hK K; refine SW.cond _ rfl (by simp) ?_ ?_
    case' refine_1 =>
     intro hb5
     have hmf : chanFit p k c = false := by
       rw [hcf]; simp at hb5 ⊢; grind
     have hr : engObj p e = false := by
       rw [hen, hx.2, hst, hmf]; rfl
     refine SW.rb ?_; refine SW.ret ?_; simp [Ex.then, Ex.ib]
     all_goals first
       | (simp [hr]; done)
       | fail
    intro hb5
    have hmf : chanFit p k c = true := by
      rw [hcf]; simp at hb5 ⊢; grind
    rw [hmf, Bool.true_and] at hst; refine SW.skip ?_; refine hK7 _ ?_; refine SW.eb ?_; refine ⟨k + 1, ⟨by omega, by rw [hx.2, hst]⟩, by omega, ?_⟩
    exact Wk.cut (by simp) (by simp [subE, wrap1 k (by omega)]) (by simp [cutH]) (by simp [lowE, lowN]) (by simp)
   intro hb2; have hk1 : k = e.chans.length := by simp at hb2; omega
   have hcf : chansFit p 0 e.chans = true := by rw [hx.2, hk1, List.drop_length]; rfl
   rw [hcf, Bool.true_and] at hen; refine SW.exit ?_; simp only [Ex.then, Ex.ib]; try simp only [if_true, if_false, reduceIte]
   refine hK2 _ ?_; refine SW.seqK fun K4 hK4 => ?_; refine SW.rb ?_; refine SW.block ?_
   refine SW.loop (α := Nat) (fun k => ⟨[(49, .int .i64 k), (48, .int .i64 e.mus.length), (47, .fz (MutexSf e.mus)), (2, .ptr 0 0 0), (3, .ptr 1 0 0)], [some ⟨4, [p.fr]⟩, some ⟨3, [e.fr]⟩]⟩) (fun k => k ≤ e.mus.length ∧ (e.mus.take k).all (muFit e) = true) (fun k => e.mus.length - k) (0) ?_ ?_ (fun k hx => ?_)
   case' refine_1 =>
    exact ⟨by simp, by simp⟩
   case' refine_2 =>
    exact Wk.cut (by simp) (by simp [subE]) (by simp [cutH]) (by simp [lowE, lowN]) (by simp)
   case' refine_3 =>
    skip
    refine SW.rb ?_; refine SW.seqK fun K5 hK5 => ?_; refine SW.cond _ rfl (by simp) ?_ ?_
    case' refine_1 =>
     intro hb3; have hltc : k < e.mus.length := by first | omega | (simp at hb3; omega)
     obtain ⟨c, hck⟩ : ∃ q, e.mus[k]? = some q := ⟨_, List.getElem?_eq_getElem hltc⟩
     have hco := he.2.2.2.2.2 c (List.mem_of_getElem? hck)
     have hst := all_tk (f := muFit e) hck
     refine SW.skip ?_; refine hK5 _ ?_; refine SW.seqK fun K6 hK6 => ?_; refine SW.block ?_; refine SW.rg fun K hK => ?_; simp -implicitDefEqProofs [hck]
     repeat (refine And.intro (by clear hK; first | omega | (intros; simp_all; done) | (intros; grind)) ?_)
     refine hK _ ?_; clear hK K; refine SW.rg fun K hK => ?_; simp -implicitDefEqProofs; repeat (refine And.intro (by clear hK; first | omega | (intros; simp_all; done) | (intros; grind)) ?_)
     first
       | refine CallQ.fzE (mutexOk_s c hco) (by simp) ?_
       | refine CallK.fzE (mutexOk_s c hco) (by simp) ?_
     simp -implicitDefEqProofs; repeat (refine And.intro (by clear hK; first | omega | (intros; simp_all; done) | (intros; grind)) ?_)
     refine hK _ ?_; clear hK K; refine SW.cond _ rfl (by simp) ?_ ?_
     case' refine_1 =>
      intro hb4
      have hmf : muFit e c = false := by
        unfold muFit; simp at hb4 ⊢; grind
      have hr : engObj p e = false := by
        rw [hen, List.all_eq_false]; exact ⟨c, List.mem_of_getElem? hck, by rw [hmf]; simp⟩
      refine SW.rb ?_; refine SW.ret ?_; simp [Ex.then, Ex.ib]
      all_goals first
        | (simp [hr]; done)
        | fail
     intro hb4
     have hmf : muFit e c = true := by
       unfold muFit; simp at hb4 ⊢; grind
     rw [hx.2, hmf] at hst; refine SW.skip ?_; refine hK6 _ ?_; refine SW.eb ?_; refine ⟨k + 1, ⟨by omega, by rw [hst]; rfl⟩, by omega, ?_⟩
     exact Wk.cut (by simp) (by simp [subE, wrap1 k (by omega)]) (by simp [cutH]) (by simp [lowE, lowN]) (by simp)
    intro hb3; have hk1 : k = e.mus.length := by simp at hb3; omega
    have hr : engObj p e = true := by rw [hen]; have h9 := hx.2; rw [hk1, List.take_length] at h9; exact h9
    refine SW.exit ?_; simp only [Ex.then, Ex.ib]; try simp only [if_true, if_false, reduceIte]
    refine hK4 _ ?_; refine SW.rb ?_; refine SW.ret ?_; simp [Ex.then, Ex.ib]
    all_goals first
      | (simp [hr]; done)
      | fail
theorem engOk_s (p : Prog) (e : Eng) (h : p.ok) (he : e.ok) : Fn Tryz.prog 44 [.agg p.fr, .agg e.fr] (.bool (engOk p e)) := by
  refine Fn.intro Tryz.func44 (by decide) rfl (rs := [.tmp 4]) rfl Tryz.ntmps44 (by simp) ?_; have h1 := he.1
  have h2 := he.2.2.1
  have h3 := he.2.2.2.2.1
  have h4 := h.1
  obtain ⟨hd, hhd⟩ : ∃ hd, hd = (progOk p && decide (1 ≤ e.gs.length) && decide (e.gs.length ≤ 10) && engObj p e) := ⟨_, rfl⟩
  have hen : engOk p e = (hd && e.gs.all (gFit p) && sameQ (want p 0 e.gs) (allW e)) := by unfold engOk; rw [hhd]
  refine SW.rb ?_; refine SW.seqK fun K1 hK1 => ?_; refine SW.rg fun K hK => ?_; simp -implicitDefEqProofs; repeat (refine And.intro (by clear hK; first | omega | (intros; simp_all; done) | (intros; grind)) ?_)
  first
    | refine CallQ.fzE (progOk_s p h) (by simp) ?_
    | refine CallK.fzE (progOk_s p h) (by simp) ?_
  simp -implicitDefEqProofs; repeat (refine And.intro (by clear hK; first | omega | (intros; simp_all; done) | (intros; grind)) ?_)
  refine CallG.fzE (by simp) (fun _ => objects_s p e h he) (by simp) ?_; simp -implicitDefEqProofs; repeat (refine And.intro (by clear hK; first | omega | (intros; simp_all; done) | (intros; grind)) ?_)
  refine hK _ ?_; clear hK K; refine SW.cond _ rfl (by simp) ?_ ?_
  case' refine_1 =>
   intro hb1
   have hh : hd = false := by
     rw [hhd, Bool.eq_false_iff]; intro h9; simp at h9; simp [h9] at hb1; omega
   have hr : engOk p e = false := by rw [hen, hh]; rfl
   refine SW.rb ?_; refine SW.ret ?_; simp [Ex.then, Ex.ib]
   all_goals first
     | (simp [hr]; done)
     | (simp [hen]; done)
     | fail
  intro hb1
  have hh : hd = true := by
    rw [hhd]; simp at hb1 ⊢; grind
  rw [hh, Bool.true_and] at hen; rw [hh] at hhd; have hhd2 := hhd.symm
  simp only [Bool.and_eq_true, decide_eq_true_eq] at hhd2; obtain ⟨⟨⟨hpo, hg1⟩, hg10⟩, heo⟩ := hhd2; have heo2 := heo
  simp only [engObj, Bool.and_eq_true, decide_eq_true_eq] at heo2; have hpo2 := hpo
  simp only [progOk, headOk, Bool.and_eq_true, decide_eq_true_eq] at hpo2; have hv1 : e.chans.length ≤ 6 := by omega
  have hv2 : e.mus.length ≤ 4 := by omega
  have hal := allW_len he hv1 hv2
  refine SW.skip ?_; refine hK1 _ ?_; refine SW.rb ?_; refine SW.seqK fun K2 hK2 => ?_; refine SW.rb ?_; refine SW.block ?_
  refine SW.loop (α := Nat) (fun k => ⟨[(33, .int .i64 k), (32, .int .i64 e.gs.length), (31, .fz (GorSf e.gs)), (5, .sl 2 0 (want p 0 (List.take k e.gs)).length), (2, .ptr 0 0 0), (3, .ptr 1 0 0)], [some ⟨4, [p.fr]⟩, some ⟨3, [e.fr]⟩, some ⟨6, PlaceS (want p 0 (List.take k e.gs))⟩]⟩) (fun k => k ≤ e.gs.length ∧ (e.gs.take k).all (gFit p) = true) (fun k => e.gs.length - k) (0) ?_ ?_ (fun k hx => ?_)
  case' refine_1 =>
   exact ⟨by simp, by simp⟩
  case' refine_2 =>
   exact Wk.cut (by simp) (by simp [subE, want]) (by simp [cutH, want]) (by simp [lowE, lowN]) (by simp)
  case' refine_3 =>
   have hwk := want_lenK h hg10 k
   refine SW.rb ?_; refine SW.seqK fun K3 hK3 => ?_; refine SW.cond _ rfl (by simp) ?_ ?_
   case' refine_1 =>
    intro hb2; have hltc : k < e.gs.length := by first | omega | (simp at hb2; omega)
    obtain ⟨c, hck⟩ : ∃ q, e.gs[k]? = some q := ⟨_, List.getElem?_eq_getElem hltc⟩
    have hco := he.2.1 c (List.mem_of_getElem? hck)
    have hst := all_tk (f := gFit p) hck
    have hws := want_step (p := p) hck
    have hwl := wantG_len (p := p) (k := k) (g := c) h
    refine SW.skip ?_; refine hK3 _ ?_; refine SW.seqK fun K4 hK4 => ?_; refine SW.block ?_; refine SW.rg fun K hK => ?_; simp -implicitDefEqProofs [hck]
    repeat (refine And.intro (by clear hK; first | omega | (intros; simp_all; done) | (intros; grind)) ?_)
    refine hK _ ?_; clear hK K; refine SW.seqK fun K5 hK5 => ?_; refine SW.rg fun K hK => ?_; simp -implicitDefEqProofs; repeat (refine And.intro (by clear hK; first | omega | (intros; simp_all; done) | (intros; grind)) ?_)
    first
      | refine CallQ.fzE (gorIn_s p c h hco) (by simp) ?_
      | refine CallK.fzE (gorIn_s p c h hco) (by simp) ?_
    simp -implicitDefEqProofs; repeat (refine And.intro (by clear hK; first | omega | (intros; simp_all; done) | (intros; grind)) ?_)
    refine hK _ ?_; clear hK K; refine SW.cond _ rfl (by simp) ?_ ?_
    case' refine_1 =>
     intro hb3; have hgi : gorIn p c = false := by simpa using hb3
     have hr : engOk p e = false := by
       rw [hen, Bool.and_eq_false_iff]
       left
       rw [List.all_eq_false]; exact ⟨c, List.mem_of_getElem? hck, by simp [gFit, hgi]⟩
     refine SW.rb ?_; refine SW.ret ?_; simp [Ex.then, Ex.ib]
     all_goals first
       | (simp [hr]; done)
       | (simp [hen]; done)
       | fail
    intro hb3; have hgi : gorIn p c = true := by simpa using hb3
    have hat : atOk p c := gor_at (by simp [gorOk, hpo, hgi])
    have hg6 : c.regs.length = 6 := by
      have h8 := hgi
      simp only [gorIn, gorHead, Bool.and_eq_true, decide_eq_true_eq] at h8; omega
    refine SW.skip ?_; refine hK5 _ ?_; refine SW.seqK fun K6 hK6 => ?_; refine SW.rb ?_; refine SW.cond _ rfl (by simp) ?_ ?_
    case' refine_2 =>
     intro hb4; have hs2 : c.state = 2 := by simpa using hb4
     refine SW.skip ?_; refine hK6 _ ?_; refine SW.seqK fun K7 hK7 => ?_; refine SW.rg fun K hK => ?_; simp -implicitDefEqProofs; repeat (refine And.intro (by clear hK; first | omega | (intros; simp_all; done) | (intros; grind)) ?_)
     first
       | refine CallQ.fzE (may_s p c h hpo hat) (by simp) ?_
       | refine CallK.fzE (may_s p c h hpo hat) (by simp) ?_
     simp -implicitDefEqProofs; repeat (refine And.intro (by clear hK; first | omega | (intros; simp_all; done) | (intros; grind)) ?_)
     refine hK _ ?_; clear hK K; refine SW.cond _ rfl (by simp) ?_ ?_
     case' refine_1 =>
      intro hb5; have hmw : mayW p c = false := by simpa using hb5
      have hr : engOk p e = false := by
        rw [hen, Bool.and_eq_false_iff]
        left
        rw [List.all_eq_false]; exact ⟨c, List.mem_of_getElem? hck, by simp [gFit, hgi, hs2, hmw]⟩
      refine SW.rb ?_; refine SW.ret ?_; simp [Ex.then, Ex.ib]
      all_goals first
        | (simp [hr]; done)
        | (simp [hen]; done)
        | fail
     intro hb5; have hmw : mayW p c = true := by simpa using hb5
     have hgf : gFit p c = true := by simp [gFit, hgi, hs2, hmw]
     have hwg : wantG p k c = pls p c k := by simp [wantG, hs2]
     rw [hwg] at hws hwl; rw [hx.2, hgf] at hst; refine SW.skip ?_; refine hK7 _ ?_; refine SW.regionE fun K hK => ?_; simp -implicitDefEqProofs
     repeat (refine And.intro (by clear hK; first | omega | (intros; simp_all; done) | (intros; grind)) ?_)
     refine CallK.imE (places_s p c k h hpo hat hg6) (by simp) (PlaceS_okI _) ?_; simp -implicitDefEqProofs; refine ⟨⟨fun e he => PlaceS_len he, ?_, by omega⟩, hK _ ?_⟩
     · intro x hx y hy
       obtain ⟨n, _, rfl⟩ := List.mem_map.1 hx; simp at hy; rcases hy with rfl | rfl | rfl | rfl | rfl | rfl <;> exact ⟨rfl, rfl⟩
     clear hK K
    rotate_right
    case' _ =>
     intro hb4; have hs2 : ¬ c.state = 2 := by simpa using hb4
     have hgf : gFit p c = true := by simp [gFit, hgi, hs2]
     have hwg : wantG p k c = [] := by simp [wantG, hs2]
     rw [hwg, List.append_nil] at hws; rw [hx.2, hgf] at hst; refine SW.exit ?_; simp only [Ex.then, Ex.ib]; try simp only [if_true, if_false, reduceIte]
    all_goals (
     refine hK4 _ ?_; refine SW.eb ?_; refine ⟨k + 1, ⟨by omega, by rw [hst]; rfl⟩, by omega, ?_⟩
     first
       | (have q : ¬ c.state = 2 := hs2; exact Wk.cut (by simp) (by simp [subE, wrap1 k (by omega), hws]) (by simp [cutH, hws]) (by simp [lowE, lowN]) (by simp))
       | exact Wk.ren [0, 1, 5] (by simp) (by simp) (by simp) (by simp) (by simp [renE, renN, wrap1 k (by omega), hws]) (by simp [renH, hws, PlaceS_app]) (by simp [lowE, lowN]) (by simp)
       | fail)
   intro hb2; have hk1 : k = e.gs.length := by simp at hb2; omega
   subst hk1; have htk : List.take e.gs.length e.gs = e.gs := List.take_length
   rw [htk] at hwk; have h9 := hx.2
   rw [htk] at h9; rw [h9, Bool.true_and] at hen; refine SW.exit ?_; simp only [Ex.then, Ex.ib]; try simp only [if_true, if_false, reduceIte]
   refine hK2 _ ?_; refine SW.rg fun K hK => ?_; simp -implicitDefEqProofs; repeat (refine And.intro (by clear hK; first | omega | (intros; simp_all; done) | (intros; grind)) ?_)
   first
     | refine CallQ.fzE (all_s e he hv1 hv2) (by simp) ?_
     | refine CallK.fzE (all_s e he hv1 hv2) (by simp) ?_
   simp -implicitDefEqProofs; repeat (refine And.intro (by clear hK; first | omega | (intros; simp_all; done) | (intros; grind)) ?_)
   first
     | refine CallQ.fzE (same_s (want p 0 e.gs) (allW e) (by omega) (by omega)) (by simp) ?_
     | refine CallK.fzE (same_s (want p 0 e.gs) (allW e) (by omega) (by omega)) (by simp) ?_
   simp -implicitDefEqProofs; repeat (refine And.intro (by clear hK; first | omega | (intros; simp_all; done) | (intros; grind)) ?_)
   refine hK _ ?_; clear hK K; refine SW.ret ?_; simp [Ex.then, Ex.ib]
   all_goals first
     | (simp [hr]; done)
     | (simp [hen]; done)
     | fail
end HT
