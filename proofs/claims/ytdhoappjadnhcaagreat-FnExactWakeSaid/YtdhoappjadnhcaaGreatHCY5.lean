import Derived.Test.YtdhoappjadnhcaaGreatHCY4
import Derived.Test.YtdhoappjadnhcaaGreatG2d
/-
  My own texts (road H): HCY5.
-/
set_option maxHeartbeats 8000000
set_option linter.unusedSimpArgs false
set_option linter.unusedVariables false
namespace HT
open Go Go.Proofs HK
def isSt : Option TypeDesc → Bool
  | some (.struct _) => true
  | _ => false
theorem isSt_ex {x : Option TypeDesc} (h : isSt x = true) : ∃ fs, x = some (.struct fs) := by
  unfold isSt at h; split at h
  · exact ⟨_, rfl⟩
  · cases h
theorem Fn.ownNilP {P : Program} {f : FuncId} {args : List AV} (sz : Nat) (h : HK.Fn P f args .nil) : HK.Fn P f args (.own sz []) :=
  ⟨h.1, fun w vs hc => (h.2 w vs hc).mono fun e w' ⟨v, S, e1, hv, h3, h4, h5⟩ => by
    cases hv
    exact ⟨_, _, e1, .own0 _ _, h3, h4, h5⟩⟩
theorem place_key : KeyOk Tryz.prog 100 Place.cl := ⟨⟨4, by omega, fun x => by
    have h : tkinds Tryz.prog 4 100 = some [1, 0, 1, 0, 0, 0] := by kernel_rfl
    rw [h]; rfl⟩, isSt_ex (by kernel_rfl), fun x y => by simp [eqk], Place_eqc, fun x => by simp [basic]⟩
theorem map_ty : Tryz.prog.underlying 187 = some (.map 100 3) := by kernel_rfl
theorem map_z : ∀ w : World, (zeroValue 3).run Tryz.prog w = .ok (.int .i64 0) w := zeroV (by kernel_rfl)
theorem plsG_i (p : Prog) (g : Gor) (k : Nat) (h : p.ok) (hg : g.ok) (hk : gorOk p g = true) : HK.Fn Tryz.prog 59 [.agg p.fr, .agg g.fr, .int .i64 k] (.own 6 (PlaceS (wantG p k g))) := by
  by_cases hs : g.state = 2
  · have hc : plsOk p g k = true := by simp [plsOk, hk, hs]
    have := placesY_i p g k h hg hc
    unfold wantG
    rwa [if_pos hs]
  · have hc : plsOk p g k = false := by simp [plsOk, hs]
    have := placesN_i p g k h hg hc
    unfold wantG; rw [if_neg hs]; exact Fn.ownNilP 6 this
theorem cnt_put {l : List (Place × Int)} {y : Place} {f : Place → Int} {v : Int} (h : ∀ x, getQ l x = f x) (d : Int) (hv : v = f y + d) : ∀ x, getQ (putQ l y v) x = f x + (if x = y then d else 0) := by
  intro x; rw [getQ_put]; split
  · rename_i e; subst e; exact hv
  · rw [h]; omega
theorem engOk_i (p : Prog) (e : Eng) (h : p.ok) (he : e.ok) : Fn Tryz.prog 56 [.agg p.fr, .agg e.fr] (.bool (engOk p e)) := by
  refine Fn.intro Tryz.func56 (by decide) rfl (rs := [.tmp 4]) rfl Tryz.ntmps56 (by simp) ?_; have h1 := he.1
  have h2 := he.2.2.1
  have h3 := he.2.2.2.2.1
  have h4 := h.1
  obtain ⟨hd, hhd⟩ : ∃ hd, hd = (progOk p && decide (1 ≤ e.gs.length) && decide (e.gs.length ≤ 10) && decide (e.chans.length = p.caps.length) && decide ((e.mus.length : Int) = p.mus)) := ⟨_, rfl⟩
  have hen : engOk p e = (hd && chansFit p 0 e.chans && e.mus.all (muFit e) && e.gs.all (gFit p) && sameQ (want p 0 e.gs) (allW e)) := by unfold engOk engObj; rw [hhd]; simp only [Bool.and_assoc]
  refine SW.rb ?_; refine SW.seqK fun K1 hK1 => ?_; refine SW.rg fun K hK => ?_; simp -implicitDefEqProofs; repeat (refine And.intro (by clear hK; first | omega | (intros; simp_all; done) | (intros; grind)) ?_)
  first
    | refine CallQ.fzE (progOk_i p h) (by simp) ?_
    | refine CallK.fzE (progOk_i p h) (by simp) ?_
  simp -implicitDefEqProofs; repeat (refine And.intro (by clear hK; first | omega | (intros; simp_all; done) | (intros; grind)) ?_)
  refine hK _ ?_; clear hK K; refine SW.cond _ rfl (by simp) ?_ ?_
  case' refine_1 =>
   intro hb1
   have hh : hd = false := by
     rw [hhd, Bool.eq_false_iff]; intro h9; simp at h9; simp [h9] at hb1; omega
   have hr : engOk p e = false := by rw [hen, hh]; rfl
   refine SW.rb ?_; refine SW.ret ?_; simp [Ex.then, Ex.ib, Em.then, Em.inBlock]
   all_goals first
     | (simp [hr]; done)
     | fail
  intro hb1
  have hh : hd = true := by
    rw [hhd]; simp at hb1 ⊢; grind
  rw [hh, Bool.true_and] at hen; rw [hh] at hhd; have hhd2 := hhd.symm
  simp only [Bool.and_eq_true, decide_eq_true_eq] at hhd2; obtain ⟨⟨⟨⟨hpo, hg1⟩, hg10⟩, hcl⟩, hml⟩ := hhd2; have hpo2 := hpo
  simp only [progOk, headOk, Bool.and_eq_true, decide_eq_true_eq] at hpo2; have hv1 : e.chans.length ≤ 6 := by omega
  have hv2 : e.mus.length ≤ 4 := by omega
  have hal := allW_len he hv1 hv2
  have hwK := want_lenK h hg10
  refine SW.skip ?_; refine hK1 _ ?_; refine SW.mapK (by decide) (by decide) fun r => ?_; rw [← mapO_nil Place.cl]; refine SM.seqK fun K2 hK2 => ?_; refine SM.regionK fun K hK => ?_; simp -implicitDefEqProofs
  repeat (refine And.intro (by clear hK; first | omega | (intros; simp_all; done) | (intros; grind)) ?_)
  refine hK _ ?_; clear hK K; refine SM.block ?_
  refine SM.loop (α := Nat × List (Place × Int)) (fun z => ⟨[(58, .int .i64 (z.1 : Nat)), (57, .int .i64 e.gs.length), (56, .fz (GorSf e.gs)), (5, .con (.map (some r))), (2, .ptr 0 0 0), (3, .ptr 1 0 0)], [some ⟨4, [p.fr]⟩, some ⟨3, [e.fr]⟩]⟩) (fun z => [(r, mapO Place.cl z.2)]) (fun z => z.1 ≤ e.gs.length ∧ (e.gs.take z.1).all (gFit p) = true ∧ NQ z.2 ∧ ∀ x, getQ z.2 x = ((want p 0 (e.gs.take z.1)).count x : Int)) (fun z => e.gs.length - z.1) ((0, [])) ?_ (by rfl) ?_ (fun z hx => ?_)
  case' refine_1 =>
   exact ⟨by simp, by simp, NQ.nil, fun x => by simp [want, getQ_nil]⟩
  case' refine_2 =>
   exact Wk.cut (by simp) (by simp [subE]) (by simp [cutH]) (by simp [lowE, lowN]) (by simp)
  case' refine_3 =>
   obtain ⟨k, l⟩ := z; obtain ⟨hk0, hgl, hnq, hcn⟩ := hx; simp only [] at hk0 hgl hnq hcn ⊢; refine SM.regionK fun K hK => ?_; simp -implicitDefEqProofs
   repeat (refine And.intro (by clear hK; first | omega | (intros; simp_all; done) | (intros; grind)) ?_)
   refine hK _ ?_; clear hK K; refine SM.seqK fun K3 hK3 => ?_; refine SM.cond _ rfl (by simp) ?_ ?_
   case' refine_1 =>
    intro hb2; have hltc : k < e.gs.length := by first | omega | (simp at hb2; omega)
    obtain ⟨c, hck⟩ : ∃ q, e.gs[k]? = some q := ⟨_, List.getElem?_eq_getElem hltc⟩
    have hco := he.2.1 c (List.mem_of_getElem? hck)
    have hst := all_tk (f := gFit p) hck
    have hws := want_step (p := p) hck
    have hwl := wantG_len (p := p) (k := k) (g := c) h
    refine SM.skip ?_; refine hK3 _ _ ?_; refine SM.seqK fun K21 hK21 => ?_; refine SM.block ?_; refine SM.regionK fun K hK => ?_; simp -implicitDefEqProofs [hck]
    repeat (refine And.intro (by clear hK; first | omega | (intros; simp_all; done) | (intros; grind)) ?_)
    refine hK _ ?_; clear hK K; refine SM.seqK fun K22 hK22 => ?_; refine SM.regionK fun K hK => ?_; simp -implicitDefEqProofs; repeat (refine And.intro (by clear hK; first | omega | (intros; simp_all; done) | (intros; grind)) ?_)
    first
      | refine CallQ.fzE (gorOk_i p c h hco) (by simp) ?_
      | refine CallK.fzE (gorOk_i p c h hco) (by simp) ?_
    simp -implicitDefEqProofs; repeat (refine And.intro (by clear hK; first | omega | (intros; simp_all; done) | (intros; grind)) ?_)
    refine CallG.fzE (by simp) (fun hgg => may_i p c h hco (show gorOk p c = true from by have h9 : gorOk p c = true ∧ c.state = 2 := (by simpa using hgg); exact h9.1)) (by simp) ?_; simp -implicitDefEqProofs
    repeat (refine And.intro (by clear hK; first | omega | (intros; simp_all; done) | (intros; grind)) ?_)
    refine hK _ ?_; clear hK K; refine SM.cond _ rfl (by simp) ?_ ?_
    case' refine_1 =>
     intro hb12
     have hmf : gFit p c = false := by
       unfold gFit; simp [gorOk, hpo] at hb12 ⊢; grind
     have hr : engOk p e = false := by
       rw [hen, Bool.eq_false_iff]; intro h9; simp only [Bool.and_eq_true] at h9; have h8 := List.all_eq_true.1 h9.1.2 c (List.mem_of_getElem? hck)
       rw [hmf] at h8; cases h8
     refine SM.regionK fun K hK => ?_; simp -implicitDefEqProofs; repeat (refine And.intro (by clear hK; first | omega | (intros; simp_all; done) | (intros; grind)) ?_)
     refine hK _ ?_; clear hK K; refine SM.ret ?_; simp [Em.then, Em.inBlock, Em.then, Em.inBlock]
     all_goals first
       | (simp [hr]; done)
       | fail
    intro hb12
    have hmf : gFit p c = true := by
      unfold gFit; simp [gorOk, hpo] at hb12 ⊢; grind
    have hgo : gorOk p c = true := by
      have h9 := hmf
      simp only [gFit, Bool.and_eq_true] at h9; simp [gorOk, hpo, h9.1]
    rw [hgl, hmf] at hst; refine SM.skip ?_; refine hK22 _ _ ?_; refine SM.regionK fun K hK => ?_; simp -implicitDefEqProofs; repeat (refine And.intro (by clear hK; first | omega | (intros; simp_all; done) | (intros; grind)) ?_)
    first
      | refine CallQ.fzE (plsG_i p c k h hco hgo) (by simp) ?_
      | refine CallK.fzE (plsG_i p c k h hco hgo) (by simp) ?_
    simp -implicitDefEqProofs; repeat (refine And.intro (by clear hK; first | omega | (intros; simp_all; done) | (intros; grind)) ?_)
    refine hK _ ?_; clear hK K; refine SM.block ?_
    refine SM.loop (α := Nat × List (Place × Int)) (fun z => ⟨[(83, .int .i64 (z.1 : Nat)), (82, .int .i64 (wantG p k c).length), (81, .fz (PlaceS (wantG p k c))), (58, .int .i64 (k : Nat)), (57, .int .i64 e.gs.length), (56, .fz (GorSf e.gs)), (5, .con (.map (some r))), (2, .ptr 0 0 0), (3, .ptr 1 0 0)], [some ⟨4, [p.fr]⟩, some ⟨3, [e.fr]⟩]⟩) (fun z => [(r, mapO Place.cl z.2)]) (fun z => z.1 ≤ (wantG p k c).length ∧ NQ z.2 ∧ ∀ x, getQ z.2 x = ((want p 0 (e.gs.take k)).count x : Int) + (((wantG p k c).take z.1).count x : Int)) (fun z => (wantG p k c).length - z.1) ((0, l)) ?_ (by rfl) ?_ (fun z hx => ?_)
    case' refine_1 =>
     exact ⟨by simp, hnq, fun x => by simp only []; rw [hcn]; simp⟩
    case' refine_2 =>
     exact Wk.cut (by simp) (by simp [subE]) (by simp [cutH]) (by simp [lowE, lowN]) (by simp)
    case' refine_3 =>
     obtain ⟨j, l2⟩ := z; obtain ⟨hj0, hnq2, hcn2⟩ := hx; simp only [] at hj0 hnq2 hcn2 ⊢; refine SM.regionK fun K hK => ?_; simp -implicitDefEqProofs
     repeat (refine And.intro (by clear hK; first | omega | (intros; simp_all; done) | (intros; grind)) ?_)
     refine hK _ ?_; clear hK K; refine SM.seqK fun K23 hK23 => ?_; refine SM.cond _ rfl (by simp) ?_ ?_
     case' refine_1 =>
      intro hb13; have hlty : j < (wantG p k c).length := by first | omega | (simp at hb13; omega)
      obtain ⟨y, hyk⟩ : ∃ q, (wantG p k c)[j]? = some q := ⟨_, List.getElem?_eq_getElem hlty⟩
      have hcs := fun x => count_step (x := x) hyk
      have hcb1 := count_le (want p 0 (e.gs.take k)) y
      have hcb2 := count_le ((wantG p k c).take j) y
      have hcb4 := List.length_take_le j (wantG p k c)
      have hwk1 := hwK k
      have hcnP := cnt_put (y := y) (v := IntKind.i64.wrap (getQ l2 y + 1)) hcn2 1 (by rw [hcn2]; exact wrapI _ (by omega) (by omega))
      refine SM.skip ?_; refine hK23 _ _ ?_; refine SM.seqK fun K24 hK24 => ?_; refine SM.block ?_; refine SM.regionK fun K hK => ?_; simp -implicitDefEqProofs [hyk]
      repeat (refine And.intro (by clear hK; first | omega | (intros; simp_all; done) | (intros; grind)) ?_)
      refine hK _ ?_; clear hK K
      refine SM.countE mixed 2 (g1 := []) (g2 := []) (r := r) (l := l2) y (IntKind.i64.wrap (getQ l2 y + 1)) place_key map_ty map_z ⟨⟨_, _, _, rfl⟩, ⟨_, _, _, rfl⟩, ⟨_, _, _, rfl⟩, ⟨_, _, _, rfl⟩, ⟨_, _, _, rfl⟩⟩ (by kernel_rfl) (by decide) (by decide) (by decide) (by decide) (by decide) (.inl ⟨rfl, rfl⟩) (fun J hJ => ?_)
      simp -implicitDefEqProofs; refine hJ _ (by simp) (by simp [sendP, recvP, muP]) (by simp) (by simp) (by simp) (by simp) ?_; refine hK24 _ _ ?_; refine SM.regionE fun K hK => ?_; simp -implicitDefEqProofs
      repeat (refine And.intro (by clear hK; first | omega | (intros; simp_all; done) | (intros; grind)) ?_)
      refine hK _ ?_; clear hK K; try simp only [Em.then, Em.inBlock, Ex.then, Ex.ib]
      refine ⟨(j + 1, putQ l2 (y) (IntKind.i64.wrap (getQ l2 (y) + 1))), ⟨by simp only []; omega, hnq2.put, ?_⟩, by simp only []; omega, rfl, ?_⟩
      · intro x
        simp only []; rw [hcnP x, hcs x]; by_cases hxy : x = y
        · rw [if_pos hxy, if_pos hxy]; omega
        · rw [if_neg hxy, if_neg hxy]; omega
      · simp only []
        exact Wk.cut (by simp) (by simp [subE, wrap1 j (by omega)]) (by simp [cutH]) (by simp [lowE, lowN]) (by simp)
     intro hb13; have hj1 : j = (wantG p k c).length := by simp at hb13; omega
     subst hj1
     have hcn3 : ∀ x, getQ l2 x = ((want p 0 (e.gs.take (k + 1))).count x : Int) := by
       intro x; rw [hcn2, hws, List.take_length, List.count_append]; omega
     refine SM.exit ?_; simp only [Em.then, Em.inBlock]; try simp only [if_true, if_false, reduceIte]
     refine hK21 _ _ ?_; refine SM.regionE fun K hK => ?_; simp -implicitDefEqProofs; repeat (refine And.intro (by clear hK; first | omega | (intros; simp_all; done) | (intros; grind)) ?_)
     refine hK _ ?_; clear hK K; try simp only [Em.then, Em.inBlock, Ex.then, Ex.ib]
     refine ⟨(k + 1, l2), ⟨by simp only []; omega, by simp only []; rw [hst]; rfl, hnq2, hcn3⟩, by simp only []; omega, rfl, ?_⟩; simp only []
     exact Wk.cut (by simp) (by simp [subE, wrap1 k (by omega)]) (by simp [cutH]) (by simp [lowE, lowN]) (by simp)
   intro hb2; have hk1 : k = e.gs.length := by simp at hb2; omega
   subst hk1; rw [List.take_length] at hgl hcn; have hwk := hwK e.gs.length
   rw [List.take_length] at hwk; refine SM.exit ?_; simp only [Em.then, Em.inBlock]; try simp only [if_true, if_false, reduceIte]
   refine hK2 _ _ ?_; refine SM.seqK fun K4 hK4 => ?_; refine SM.regionK fun K hK => ?_; simp -implicitDefEqProofs; repeat (refine And.intro (by clear hK; first | omega | (intros; simp_all; done) | (intros; grind)) ?_)
   refine hK _ ?_; clear hK K; refine SM.block ?_
   refine SM.loop (α := Nat × List (Place × Int)) (fun z => ⟨[(98, .int .i64 (z.1 : Nat)), (97, .int .i64 e.chans.length), (96, .fz (ChanSf e.chans)), (5, .con (.map (some r))), (2, .ptr 0 0 0), (3, .ptr 1 0 0)], [some ⟨4, [p.fr]⟩, some ⟨3, [e.fr]⟩]⟩) (fun z => [(r, mapO Place.cl z.2)]) (fun z => z.1 ≤ e.chans.length ∧ chansFit p 0 e.chans = chansFit p z.1 (e.chans.drop z.1) ∧ NQ z.2 ∧ ∀ x, getQ z.2 x = ((want p 0 e.gs).count x : Int) - ((hvC 0 (e.chans.take z.1)).count x : Int)) (fun z => e.chans.length - z.1) ((0, l)) ?_ (by rfl) ?_ (fun z hx => ?_)
   case' refine_1 =>
    exact ⟨by simp, by simp, hnq, fun x => by simp only []; rw [hcn]; simp [hvC]⟩
   case' refine_2 =>
    exact Wk.cut (by simp) (by simp [subE]) (by simp [cutH]) (by simp [lowE, lowN]) (by simp)
   case' refine_3 =>
    obtain ⟨k, l⟩ := z; obtain ⟨hk0, hcf0, hnq, hcn⟩ := hx; simp only [] at hk0 hcf0 hnq hcn ⊢; refine SM.regionK fun K hK => ?_; simp -implicitDefEqProofs
    repeat (refine And.intro (by clear hK; first | omega | (intros; simp_all; done) | (intros; grind)) ?_)
    refine hK _ ?_; clear hK K; refine SM.seqK fun K5 hK5 => ?_; refine SM.cond _ rfl (by simp) ?_ ?_
    case' refine_1 =>
     intro hb3; have hltc : k < e.chans.length := by first | omega | (simp at hb3; omega)
     obtain ⟨c, hck⟩ : ∃ q, e.chans[k]? = some q := ⟨_, List.getElem?_eq_getElem hltc⟩
     have hco := he.2.2.2.1 c (List.mem_of_getElem? hck)
     have hco2 := hco
     unfold Chan.ok at hco2; have hst := chansFit_step (p := p) hck
     obtain ⟨n, hnk⟩ : ∃ q, p.caps[k]? = some q := ⟨_, List.getElem?_eq_getElem (by omega)⟩
     have hnE : ∀ q, p.caps[k]'q = n := fun q => (List.getElem?_eq_some_iff.1 hnk).2
     have hnl : k < p.caps.length := by omega
     have hcf : chanFit p k c = (chanOk c && decide (c.cap = n)) := by unfold chanFit; rw [hnk]
     have hhs := hvC_step hck
     simp only [haveC] at hhs; have hlk := hvC_lenK he hv1 k
     refine SM.skip ?_; refine hK5 _ _ ?_; refine SM.seqK fun K14 hK14 => ?_; refine SM.block ?_; refine SM.regionK fun K hK => ?_; simp -implicitDefEqProofs [hck]
     repeat (refine And.intro (by clear hK; first | omega | (intros; simp_all; done) | (intros; grind)) ?_)
     refine hK _ ?_; clear hK K; refine SM.seqK fun K15 hK15 => ?_
     refine SM.drawK mixed [.q [(0, false), (1, false), (2, false), (3, false), (4, false), (5, false), (6, false), (7, false), (8, false), (9, false), (10, false), (11, false), (12, false)]] (by kernel_rfl) rfl fun K hK => ?_
     simp -implicitDefEqProofs [hnk, hnE, hnl]; repeat (refine And.intro (by clear hK; first | omega | (intros; simp_all; done) | (intros; grind)) ?_)
     first
       | refine CallQ.fzE (chanOk_i c hco) (by simp) ?_
       | refine CallK.fzE (chanOk_i c hco) (by simp) ?_
     simp -implicitDefEqProofs [hnk, hnE, hnl]; repeat (refine And.intro (by clear hK; first | omega | (intros; simp_all; done) | (intros; grind)) ?_)
     refine hK _ ?_; clear hK K; refine SM.cond _ rfl (by simp) ?_ ?_
     case' refine_1 =>
      intro hb9
      have hmf : chanFit p k c = false := by
        rw [hcf]; simp at hb9 ⊢; grind
      have hr : engOk p e = false := by
        rw [hen, hcf0, hst, hmf]; rfl
      refine SM.regionK fun K hK => ?_; simp -implicitDefEqProofs; repeat (refine And.intro (by clear hK; first | omega | (intros; simp_all; done) | (intros; grind)) ?_)
      refine hK _ ?_; clear hK K; refine SM.ret ?_; simp [Em.then, Em.inBlock, Em.then, Em.inBlock]
      all_goals first
        | (simp [hr]; done)
        | fail
     intro hb9
     have hmf : chanFit p k c = true := by
       rw [hcf]; simp at hb9 ⊢; grind
     rw [hmf, Bool.true_and] at hst; refine SM.skip ?_; refine hK15 _ _ ?_; refine SM.seqK fun K16 hK16 => ?_; refine SM.regionK fun K hK => ?_; simp -implicitDefEqProofs
     repeat (refine And.intro (by clear hK; first | omega | (intros; simp_all; done) | (intros; grind)) ?_)
     refine hK _ ?_; clear hK K; refine SM.block ?_
     refine SM.loop (α := Nat × List (Place × Int)) (fun z => ⟨[(119, .int .i64 (z.1 : Nat)), (118, .int .i64 c.sends.length), (117, .fz (WaiterS c.sends)), (10, .int .i64 k), (11, .ptr 2 0 0), (98, .int .i64 (k : Nat)), (97, .int .i64 e.chans.length), (96, .fz (ChanSf e.chans)), (5, .con (.map (some r))), (2, .ptr 0 0 0), (3, .ptr 1 0 0)], [some ⟨4, [p.fr]⟩, some ⟨3, [e.fr]⟩, some ⟨5, [c.fr]⟩]⟩) (fun z => [(r, mapO Place.cl z.2)]) (fun z => z.1 ≤ c.sends.length ∧ NQ z.2 ∧ ∀ x, getQ z.2 x = ((want p 0 e.gs).count x : Int) - ((hvC 0 (e.chans.take k)).count x : Int) - ((List.take z.1 (List.map (sendP k) c.sends)).count x : Int)) (fun z => c.sends.length - z.1) ((0, l)) ?_ (by rfl) ?_ (fun z hx => ?_)
     case' refine_1 =>
      exact ⟨by simp, hnq, fun x => by simp only []; rw [hcn]; simp⟩
     case' refine_2 =>
      exact Wk.cut (by simp) (by simp [subE]) (by simp [cutH]) (by simp [lowE, lowN]) (by simp)
     case' refine_3 =>
      obtain ⟨j, l2⟩ := z; obtain ⟨hj0, hnq2, hcn2⟩ := hx; simp only [] at hj0 hnq2 hcn2 ⊢; refine SM.regionK fun K hK => ?_; simp -implicitDefEqProofs
      repeat (refine And.intro (by clear hK; first | omega | (intros; simp_all; done) | (intros; grind)) ?_)
      refine hK _ ?_; clear hK K; refine SM.seqK fun K17 hK17 => ?_; refine SM.cond _ rfl (by simp) ?_ ?_
      case' refine_1 =>
       intro hb10; have hlty : j < c.sends.length := by first | omega | (simp at hb10; omega)
       obtain ⟨y, hyk⟩ : ∃ q, c.sends[j]? = some q := ⟨_, List.getElem?_eq_getElem hlty⟩
       have hyP : (List.map (sendP k) c.sends)[j]? = some (sendP k y) := by rw [List.getElem?_map, hyk]; rfl
       have hcs := fun x => count_step (x := x) hyP
       have hcb1 := count_le (want p 0 e.gs) (sendP k y)
       have hcb2 := count_le (List.take j (List.map (sendP k) c.sends)) (sendP k y)
       have hcb4 := List.length_take_le j (List.map (sendP k) c.sends)
       have hcb5 := count_le (hvC 0 e.chans) (sendP k y)
       have hcb6 := count_le (hvC 0 (e.chans.take k)) (sendP k y)
       have hcb7 := count_le (hvM 0 (e.mus.take k)) (sendP k y)
       have hcnP := cnt_put (y := sendP k y) (v := IntKind.i64.wrap (getQ l2 (sendP k y) - 1)) hcn2 (-1) (by rw [hcn2]; exact wrapI _ (by omega) (by omega))
       refine SM.skip ?_; refine hK17 _ _ ?_; refine SM.seqK fun K20 hK20 => ?_; refine SM.block ?_; refine SM.regionK fun K hK => ?_; simp -implicitDefEqProofs [hyk]
       repeat (refine And.intro (by clear hK; first | omega | (intros; simp_all; done) | (intros; grind)) ?_)
       refine hK _ ?_; clear hK K
       refine SM.countE mixed 4 (g1 := []) (g2 := []) (r := r) (l := l2) (sendP k y) (IntKind.i64.wrap (getQ l2 (sendP k y) - 1)) place_key map_ty map_z ⟨⟨_, _, _, rfl⟩, ⟨_, _, _, rfl⟩, ⟨_, _, _, rfl⟩, ⟨_, _, _, rfl⟩, ⟨_, _, _, rfl⟩⟩ (by kernel_rfl) (by decide) (by decide) (by decide) (by decide) (by decide) (.inr ⟨rfl, rfl⟩) (fun J hJ => ?_)
       simp -implicitDefEqProofs; refine hJ _ (by simp) (by simp [sendP, recvP, muP]) (by simp) (by simp) (by simp) (by simp) ?_; refine hK20 _ _ ?_; refine SM.regionE fun K hK => ?_; simp -implicitDefEqProofs
       repeat (refine And.intro (by clear hK; first | omega | (intros; simp_all; done) | (intros; grind)) ?_)
       refine hK _ ?_; clear hK K; try simp only [Em.then, Em.inBlock, Ex.then, Ex.ib]
       refine ⟨(j + 1, putQ l2 (sendP k y) (IntKind.i64.wrap (getQ l2 (sendP k y) - 1))), ⟨by simp only []; omega, hnq2.put, ?_⟩, by simp only []; omega, rfl, ?_⟩
       · intro x
         simp only []; rw [hcnP x, hcs x]; by_cases hxy : x = sendP k y
         · rw [if_pos hxy, if_pos hxy]; omega
         · rw [if_neg hxy, if_neg hxy]; omega
       · simp only []
         exact Wk.cut (by simp) (by simp [subE, wrap1 j (by omega)]) (by simp [cutH]) (by simp [lowE, lowN]) (by simp)
      intro hb10; have hj1 : j = c.sends.length := by simp at hb10; omega
      subst hj1; have htj : List.take c.sends.length (List.map (sendP k) c.sends) = List.map (sendP k) c.sends := List.take_of_length_le (by simp)
      refine SM.exit ?_; simp only [Em.then, Em.inBlock]; try simp only [if_true, if_false, reduceIte]
      refine hK16 _ _ ?_; refine SM.regionK fun K hK => ?_; simp -implicitDefEqProofs; repeat (refine And.intro (by clear hK; first | omega | (intros; simp_all; done) | (intros; grind)) ?_)
      refine hK _ ?_; clear hK K; refine SM.block ?_
      refine SM.loop (α := Nat × List (Place × Int)) (fun z => ⟨[(135, .int .i64 (z.1 : Nat)), (134, .int .i64 c.recvs.length), (133, .fz (WaiterS c.recvs)), (10, .int .i64 k), (98, .int .i64 (k : Nat)), (97, .int .i64 e.chans.length), (96, .fz (ChanSf e.chans)), (5, .con (.map (some r))), (2, .ptr 0 0 0), (3, .ptr 1 0 0)], [some ⟨4, [p.fr]⟩, some ⟨3, [e.fr]⟩]⟩) (fun z => [(r, mapO Place.cl z.2)]) (fun z => z.1 ≤ c.recvs.length ∧ NQ z.2 ∧ ∀ x, getQ z.2 x = ((want p 0 e.gs).count x : Int) - ((hvC 0 (e.chans.take k)).count x : Int) - ((List.map (sendP k) c.sends).count x : Int) - ((List.take z.1 (List.map (recvP k) c.recvs)).count x : Int)) (fun z => c.recvs.length - z.1) ((0, l2)) ?_ (by rfl) ?_ (fun z hx => ?_)
      case' refine_1 =>
       exact ⟨by simp, hnq2, fun x => by simp only []; rw [hcn2, htj]; simp⟩
      case' refine_2 =>
       exact Wk.cut (by simp) (by simp [subE]) (by simp [cutH]) (by simp [lowE, lowN]) (by simp)
      case' refine_3 =>
       obtain ⟨j, l3⟩ := z; obtain ⟨hj0, hnq3, hcn3⟩ := hx; simp only [] at hj0 hnq3 hcn3 ⊢; refine SM.regionK fun K hK => ?_; simp -implicitDefEqProofs
       repeat (refine And.intro (by clear hK; first | omega | (intros; simp_all; done) | (intros; grind)) ?_)
       refine hK _ ?_; clear hK K; refine SM.seqK fun K18 hK18 => ?_; refine SM.cond _ rfl (by simp) ?_ ?_
       case' refine_1 =>
        intro hb11; have hlty : j < c.recvs.length := by first | omega | (simp at hb11; omega)
        obtain ⟨y, hyk⟩ : ∃ q, c.recvs[j]? = some q := ⟨_, List.getElem?_eq_getElem hlty⟩
        have hyP : (List.map (recvP k) c.recvs)[j]? = some (recvP k y) := by rw [List.getElem?_map, hyk]; rfl
        have hcs := fun x => count_step (x := x) hyP
        have hcb1 := count_le (want p 0 e.gs) (recvP k y)
        have hcb2 := count_le (List.take j (List.map (recvP k) c.recvs)) (recvP k y)
        have hcb4 := List.length_take_le j (List.map (recvP k) c.recvs)
        have hcb5 := count_le (hvC 0 e.chans) (recvP k y)
        have hcb6 := count_le (hvC 0 (e.chans.take k)) (recvP k y)
        have hcb7 := count_le (hvM 0 (e.mus.take k)) (recvP k y)
        have hcb3 := count_le (List.map (sendP k) c.sends) (recvP k y)
        rw [List.length_map] at hcb3; have hcnP := cnt_put (y := recvP k y) (v := IntKind.i64.wrap (getQ l3 (recvP k y) - 1)) hcn3 (-1) (by rw [hcn3]; exact wrapI _ (by omega) (by omega))
        refine SM.skip ?_; refine hK18 _ _ ?_; refine SM.seqK fun K19 hK19 => ?_; refine SM.block ?_; refine SM.regionK fun K hK => ?_; simp -implicitDefEqProofs [hyk]
        repeat (refine And.intro (by clear hK; first | omega | (intros; simp_all; done) | (intros; grind)) ?_)
        refine hK _ ?_; clear hK K
        refine SM.countE mixed 4 (g1 := []) (g2 := []) (r := r) (l := l3) (recvP k y) (IntKind.i64.wrap (getQ l3 (recvP k y) - 1)) place_key map_ty map_z ⟨⟨_, _, _, rfl⟩, ⟨_, _, _, rfl⟩, ⟨_, _, _, rfl⟩, ⟨_, _, _, rfl⟩, ⟨_, _, _, rfl⟩⟩ (by kernel_rfl) (by decide) (by decide) (by decide) (by decide) (by decide) (.inr ⟨rfl, rfl⟩) (fun J hJ => ?_)
        simp -implicitDefEqProofs; refine hJ _ (by simp) (by simp [sendP, recvP, muP]) (by simp) (by simp) (by simp) (by simp) ?_; refine hK19 _ _ ?_; refine SM.regionE fun K hK => ?_; simp -implicitDefEqProofs
        repeat (refine And.intro (by clear hK; first | omega | (intros; simp_all; done) | (intros; grind)) ?_)
        refine hK _ ?_; clear hK K; try simp only [Em.then, Em.inBlock, Ex.then, Ex.ib]
        refine ⟨(j + 1, putQ l3 (recvP k y) (IntKind.i64.wrap (getQ l3 (recvP k y) - 1))), ⟨by simp only []; omega, hnq3.put, ?_⟩, by simp only []; omega, rfl, ?_⟩
        · intro x
          simp only []; rw [hcnP x, hcs x]; by_cases hxy : x = recvP k y
          · rw [if_pos hxy, if_pos hxy]; omega
          · rw [if_neg hxy, if_neg hxy]; omega
        · simp only []
          exact Wk.cut (by simp) (by simp [subE, wrap1 j (by omega)]) (by simp [cutH]) (by simp [lowE, lowN]) (by simp)
       intro hb11; have hj1 : j = c.recvs.length := by simp at hb11; omega
       subst hj1; have htj2 : List.take c.recvs.length (List.map (recvP k) c.recvs) = List.map (recvP k) c.recvs := List.take_of_length_le (by simp)
       have hcn4 : ∀ x, getQ l3 x = ((want p 0 e.gs).count x : Int) - ((hvC 0 (e.chans.take (k + 1))).count x : Int) := by
         intro x; rw [hcn3, hhs, htj2, List.count_append, List.count_append]; omega
       refine SM.exit ?_; simp only [Em.then, Em.inBlock]; try simp only [if_true, if_false, reduceIte]
       refine hK14 _ _ ?_; refine SM.regionE fun K hK => ?_; simp -implicitDefEqProofs; repeat (refine And.intro (by clear hK; first | omega | (intros; simp_all; done) | (intros; grind)) ?_)
       refine hK _ ?_; clear hK K; try simp only [Em.then, Em.inBlock, Ex.then, Ex.ib]
       refine ⟨(k + 1, l3), ⟨by simp only []; omega, by simp only []; rw [hcf0, hst], hnq3, hcn4⟩, by simp only []; omega, rfl, ?_⟩; simp only []
       exact Wk.cut (by simp) (by simp [subE, wrap1 k (by omega)]) (by simp [cutH]) (by simp [lowE, lowN]) (by simp)
    intro hb3; have hk1 : k = e.chans.length := by simp at hb3; omega
    subst hk1; rw [List.take_length] at hcn; have hcf1 : chansFit p 0 e.chans = true := by rw [hcf0, List.drop_length]; rfl
    refine SM.exit ?_; simp only [Em.then, Em.inBlock]; try simp only [if_true, if_false, reduceIte]
    refine hK4 _ _ ?_; refine SM.seqK fun K6 hK6 => ?_; refine SM.regionK fun K hK => ?_; simp -implicitDefEqProofs; repeat (refine And.intro (by clear hK; first | omega | (intros; simp_all; done) | (intros; grind)) ?_)
    refine hK _ ?_; clear hK K; refine SM.block ?_
    refine SM.loop (α := Nat × List (Place × Int)) (fun z => ⟨[(152, .int .i64 (z.1 : Nat)), (151, .int .i64 e.mus.length), (150, .fz (MutexSf e.mus)), (5, .con (.map (some r))), (2, .ptr 0 0 0), (3, .ptr 1 0 0)], [some ⟨4, [p.fr]⟩, some ⟨3, [e.fr]⟩]⟩) (fun z => [(r, mapO Place.cl z.2)]) (fun z => z.1 ≤ e.mus.length ∧ (e.mus.take z.1).all (muFit e) = true ∧ NQ z.2 ∧ ∀ x, getQ z.2 x = ((want p 0 e.gs).count x : Int) - ((hvC 0 e.chans).count x : Int) - ((hvM 0 (e.mus.take z.1)).count x : Int)) (fun z => e.mus.length - z.1) ((0, l)) ?_ (by rfl) ?_ (fun z hx => ?_)
    case' refine_1 =>
     exact ⟨by simp, by simp, hnq, fun x => by simp only []; rw [hcn]; simp [hvM]⟩
    case' refine_2 =>
     exact Wk.cut (by simp) (by simp [subE]) (by simp [cutH]) (by simp [lowE, lowN]) (by simp)
    case' refine_3 =>
     obtain ⟨k, l⟩ := z; obtain ⟨hk0, hml0, hnq, hcn⟩ := hx; simp only [] at hk0 hml0 hnq hcn ⊢; refine SM.regionK fun K hK => ?_; simp -implicitDefEqProofs
     repeat (refine And.intro (by clear hK; first | omega | (intros; simp_all; done) | (intros; grind)) ?_)
     refine hK _ ?_; clear hK K; refine SM.seqK fun K7 hK7 => ?_; refine SM.cond _ rfl (by simp) ?_ ?_
     case' refine_1 =>
      intro hb4; have hltc : k < e.mus.length := by first | omega | (simp at hb4; omega)
      obtain ⟨c, hck⟩ : ∃ q, e.mus[k]? = some q := ⟨_, List.getElem?_eq_getElem hltc⟩
      have hco := he.2.2.2.2.2 c (List.mem_of_getElem? hck)
      have hco2 := hco
      unfold Mutex.ok at hco2; have hst := all_tk (f := muFit e) hck
      have hhs := hvM_step hck
      simp only [haveM] at hhs; have hlm := hvM_lenK he hv2 k
      have hlc := hvC_lenK he hv1 e.chans.length
      rw [List.take_length] at hlc; refine SM.skip ?_; refine hK7 _ _ ?_; refine SM.seqK fun K10 hK10 => ?_; refine SM.block ?_; refine SM.regionK fun K hK => ?_; simp -implicitDefEqProofs [hck]
      repeat (refine And.intro (by clear hK; first | omega | (intros; simp_all; done) | (intros; grind)) ?_)
      refine hK _ ?_; clear hK K; refine SM.seqK fun K11 hK11 => ?_; refine SM.regionK fun K hK => ?_; simp -implicitDefEqProofs; repeat (refine And.intro (by clear hK; first | omega | (intros; simp_all; done) | (intros; grind)) ?_)
      first
        | refine CallQ.fzE (mutexOk_i c hco) (by simp) ?_
        | refine CallK.fzE (mutexOk_i c hco) (by simp) ?_
      simp -implicitDefEqProofs; repeat (refine And.intro (by clear hK; first | omega | (intros; simp_all; done) | (intros; grind)) ?_)
      refine hK _ ?_; clear hK K; refine SM.cond _ rfl (by simp) ?_ ?_
      case' refine_1 =>
       intro hb7
       have hmf : muFit e c = false := by
         unfold muFit; simp at hb7 ⊢; grind
       have hr : engOk p e = false := by
         rw [hen, Bool.eq_false_iff]; intro h9; simp only [Bool.and_eq_true] at h9; have h8 := List.all_eq_true.1 h9.1.1.2 c (List.mem_of_getElem? hck)
         rw [hmf] at h8; cases h8
       refine SM.regionK fun K hK => ?_; simp -implicitDefEqProofs; repeat (refine And.intro (by clear hK; first | omega | (intros; simp_all; done) | (intros; grind)) ?_)
       refine hK _ ?_; clear hK K; refine SM.ret ?_; simp [Em.then, Em.inBlock, Em.then, Em.inBlock]
       all_goals first
         | (simp [hr]; done)
         | fail
      intro hb7
      have hmf : muFit e c = true := by
        unfold muFit; simp at hb7 ⊢; grind
      rw [hml0, hmf] at hst; refine SM.skip ?_; refine hK11 _ _ ?_; refine SM.regionK fun K hK => ?_; simp -implicitDefEqProofs; repeat (refine And.intro (by clear hK; first | omega | (intros; simp_all; done) | (intros; grind)) ?_)
      refine hK _ ?_; clear hK K; refine SM.block ?_
      refine SM.loop (α := Nat × List (Place × Int)) (fun z => ⟨[(171, .int .i64 (z.1 : Nat)), (170, .int .i64 c.wait.length), (169, .fz (IntS c.wait)), (16, .int .i64 k), (152, .int .i64 (k : Nat)), (151, .int .i64 e.mus.length), (150, .fz (MutexSf e.mus)), (5, .con (.map (some r))), (2, .ptr 0 0 0), (3, .ptr 1 0 0)], [some ⟨4, [p.fr]⟩, some ⟨3, [e.fr]⟩]⟩) (fun z => [(r, mapO Place.cl z.2)]) (fun z => z.1 ≤ c.wait.length ∧ NQ z.2 ∧ ∀ x, getQ z.2 x = ((want p 0 e.gs).count x : Int) - ((hvC 0 e.chans).count x : Int) - ((hvM 0 (e.mus.take k)).count x : Int) - ((List.take z.1 (List.map (muP k) c.wait)).count x : Int)) (fun z => c.wait.length - z.1) ((0, l)) ?_ (by rfl) ?_ (fun z hx => ?_)
      case' refine_1 =>
       exact ⟨by simp, hnq, fun x => by simp only []; rw [hcn]; simp⟩
      case' refine_2 =>
       exact Wk.cut (by simp) (by simp [subE]) (by simp [cutH]) (by simp [lowE, lowN]) (by simp)
      case' refine_3 =>
       obtain ⟨j, l2⟩ := z; obtain ⟨hj0, hnq2, hcn2⟩ := hx; simp only [] at hj0 hnq2 hcn2 ⊢; refine SM.regionK fun K hK => ?_; simp -implicitDefEqProofs
       repeat (refine And.intro (by clear hK; first | omega | (intros; simp_all; done) | (intros; grind)) ?_)
       refine hK _ ?_; clear hK K; refine SM.seqK fun K12 hK12 => ?_; refine SM.cond _ rfl (by simp) ?_ ?_
       case' refine_1 =>
        intro hb8; have hlty : j < c.wait.length := by first | omega | (simp at hb8; omega)
        obtain ⟨y, hyk⟩ : ∃ q, c.wait[j]? = some q := ⟨_, List.getElem?_eq_getElem hlty⟩
        have hyP : (List.map (muP k) c.wait)[j]? = some (muP k y) := by rw [List.getElem?_map, hyk]; rfl
        have hcs := fun x => count_step (x := x) hyP
        have hcb1 := count_le (want p 0 e.gs) (muP k y)
        have hcb2 := count_le (List.take j (List.map (muP k) c.wait)) (muP k y)
        have hcb4 := List.length_take_le j (List.map (muP k) c.wait)
        have hcb5 := count_le (hvC 0 e.chans) (muP k y)
        have hcb6 := count_le (hvC 0 (e.chans.take k)) (muP k y)
        have hcb7 := count_le (hvM 0 (e.mus.take k)) (muP k y)
        have hcnP := cnt_put (y := muP k y) (v := IntKind.i64.wrap (getQ l2 (muP k y) - 1)) hcn2 (-1) (by rw [hcn2]; exact wrapI _ (by omega) (by omega))
        refine SM.skip ?_; refine hK12 _ _ ?_; refine SM.seqK fun K13 hK13 => ?_; refine SM.block ?_; refine SM.regionK fun K hK => ?_; simp -implicitDefEqProofs [hyk]
        repeat (refine And.intro (by clear hK; first | omega | (intros; simp_all; done) | (intros; grind)) ?_)
        refine hK _ ?_; clear hK K
        refine SM.countE mixed 5 (g1 := []) (g2 := []) (r := r) (l := l2) (muP k y) (IntKind.i64.wrap (getQ l2 (muP k y) - 1)) place_key map_ty map_z ⟨⟨_, _, _, rfl⟩, ⟨_, _, _, rfl⟩, ⟨_, _, _, rfl⟩, ⟨_, _, _, rfl⟩, ⟨_, _, _, rfl⟩⟩ (by kernel_rfl) (by decide) (by decide) (by decide) (by decide) (by decide) (.inr ⟨rfl, rfl⟩) (fun J hJ => ?_)
        simp -implicitDefEqProofs; refine hJ _ (by simp) (by simp [sendP, recvP, muP]) (by simp) (by simp) (by simp) (by simp) ?_; refine hK13 _ _ ?_; refine SM.regionE fun K hK => ?_; simp -implicitDefEqProofs
        repeat (refine And.intro (by clear hK; first | omega | (intros; simp_all; done) | (intros; grind)) ?_)
        refine hK _ ?_; clear hK K; try simp only [Em.then, Em.inBlock, Ex.then, Ex.ib]
        refine ⟨(j + 1, putQ l2 (muP k y) (IntKind.i64.wrap (getQ l2 (muP k y) - 1))), ⟨by simp only []; omega, hnq2.put, ?_⟩, by simp only []; omega, rfl, ?_⟩
        · intro x
          simp only []; rw [hcnP x, hcs x]; by_cases hxy : x = muP k y
          · rw [if_pos hxy, if_pos hxy]; omega
          · rw [if_neg hxy, if_neg hxy]; omega
        · simp only []
          exact Wk.cut (by simp) (by simp [subE, wrap1 j (by omega)]) (by simp [cutH]) (by simp [lowE, lowN]) (by simp)
       intro hb8; have hj1 : j = c.wait.length := by simp at hb8; omega
       subst hj1; have htj : List.take c.wait.length (List.map (muP k) c.wait) = List.map (muP k) c.wait := List.take_of_length_le (by simp)
       have hcn3 : ∀ x, getQ l2 x = ((want p 0 e.gs).count x : Int) - ((hvC 0 e.chans).count x : Int) - ((hvM 0 (e.mus.take (k + 1))).count x : Int) := by
         intro x; rw [hcn2, hhs, htj, List.count_append]; omega
       refine SM.exit ?_; simp only [Em.then, Em.inBlock]; try simp only [if_true, if_false, reduceIte]
       refine hK10 _ _ ?_; refine SM.regionE fun K hK => ?_; simp -implicitDefEqProofs; repeat (refine And.intro (by clear hK; first | omega | (intros; simp_all; done) | (intros; grind)) ?_)
       refine hK _ ?_; clear hK K; try simp only [Em.then, Em.inBlock, Ex.then, Ex.ib]
       refine ⟨(k + 1, l2), ⟨by simp only []; omega, by simp only []; rw [hst]; rfl, hnq2, hcn3⟩, by simp only []; omega, rfl, ?_⟩; simp only []
       exact Wk.cut (by simp) (by simp [subE, wrap1 k (by omega)]) (by simp [cutH]) (by simp [lowE, lowN]) (by simp)
     intro hb4; have hk1 : k = e.mus.length := by simp at hb4; omega
     subst hk1; rw [List.take_length] at hml0 hcn; have hen2 : engOk p e = sameQ (want p 0 e.gs) (allW e) := by rw [hen, hcf1, hml0, hgl]; rfl
     have hsame : sameQ (want p 0 e.gs) (allW e) = true ↔ ∀ q ∈ l, q.2 = 0 := by
       rw [hnq.zero, sameQ_iff]; constructor
       · intro h9 x
         have := h9 x
         rw [hcn]; simp only [allW, List.count_append] at this; omega
       · intro h9 x
         have := h9 x
         rw [hcn] at this; simp only [allW, List.count_append]; omega
     refine SM.exit ?_; simp only [Em.then, Em.inBlock]; try simp only [if_true, if_false, reduceIte]
     refine hK6 _ _ ?_; refine SM.seqK fun K8 hK8 => ?_; refine SM.rangeK map_ty (by decide) (by decide) rfl fun it => ?_; refine SM.block ?_
     refine SM.loop (α := Array Nat) (fun seen => ⟨[(187, .con (.pointer (some ⟨it, 0, none⟩)))], []⟩) (fun seen => [(it, iterO r l.length seen), (r, mapO Place.cl l)]) (fun seen => ∀ (j : Nat) (q : Place × Int), l[j]? = some q → seen.contains j = true → q.2 = 0) (fun seen => leftN l seen) (#[]) ?_ (by rfl) ?_ (fun seen hx => ?_)
     case' refine_1 =>
      intro i q2 _ hc; simp at hc
     case' refine_2 =>
      exact Wk.cut (by simp) (by simp [subE]) (by simp [cutH]) (by simp [lowE, lowN]) (by simp)
     case' refine_3 =>
      skip
      refine SM.nextB (by decide) (by decide) rfl rfl fun b seen2 hb0 hb1t => ?_; refine SM.seqK fun K9 hK9 => ?_; refine SM.cond _ rfl (by simp) ?_ ?_
      case' refine_1 =>
       intro hb5; have hbt : b = true := by simpa using hb5
       subst hbt; obtain ⟨j, q, hj2, hsn, rfl⟩ := hb1t rfl; have hj3 : j < l.length := (List.getElem?_eq_some_iff.1 hj2).1
       refine SM.skip ?_; refine hK9 _ _ ?_; refine SM.block ?_; refine SM.entryK hj2 (by decide) (by decide) (by decide) rfl rfl ?_; refine SM.regionK fun K hK => ?_; simp -implicitDefEqProofs
       repeat (refine And.intro (by clear hK; first | omega | (intros; simp_all; done) | (intros; grind)) ?_)
       refine hK _ ?_; clear hK K; refine SM.cond _ rfl (by simp) ?_ ?_
       case' refine_1 =>
        intro hb6; have hq0 : ¬ q.2 = 0 := by simpa using hb6
        have hr : engOk p e = false := by
          rw [hen2, Bool.eq_false_iff]; intro h9; exact hq0 (hsame.1 h9 q (List.mem_of_getElem? hj2))
        refine SM.regionK fun K hK => ?_; simp -implicitDefEqProofs; repeat (refine And.intro (by clear hK; first | omega | (intros; simp_all; done) | (intros; grind)) ?_)
        refine hK _ ?_; clear hK K; refine SM.ret ?_; simp [Em.then, Em.inBlock, Em.then, Em.inBlock]
        all_goals first
          | (simp [hr]; done)
          | fail
       intro hb6; have hq0 : q.2 = 0 := by simpa using hb6
       refine SM.skip ?_; try simp only [Em.then, Em.inBlock, Ex.then, Ex.ib]
       refine ⟨seen.push j, ?_, left_less hj3 hsn, rfl, ?_⟩
       · intro i q2 hi hsi
         rw [contains_push] at hsi; simp only [Bool.or_eq_true, beq_iff_eq] at hsi; rcases hsi with hsi | hsi
         · exact hx i q2 hi hsi
         · subst hsi
           rw [hj2] at hi; cases hi
           exact hq0
       exact Wk.cut (by simp) (by simp [subE]) (by simp [cutH]) (by simp [lowE, lowN]) (by simp)
      intro hb5; have hbt : b = false := by simpa using hb5
      subst hbt; obtain ⟨rfl, hall⟩ := hb0 rfl
      have hr : engOk p e = true := by
        rw [hen2, hsame]; intro q hq; obtain ⟨j, hj⟩ := List.getElem?_of_mem hq; exact hx j q hj (hall j (List.getElem?_eq_some_iff.1 hj).1)
      refine SM.exit ?_; simp only [Em.then, Em.inBlock]; try simp only [if_true, if_false, reduceIte]
      refine hK8 _ _ ?_; refine SM.regionK fun K hK => ?_; simp -implicitDefEqProofs; repeat (refine And.intro (by clear hK; first | omega | (intros; simp_all; done) | (intros; grind)) ?_)
      refine hK _ ?_; clear hK K; refine SM.ret ?_; simp [Em.then, Em.inBlock, Em.then, Em.inBlock]
      all_goals first
        | (simp [hr]; done)
        | fail
end HT
