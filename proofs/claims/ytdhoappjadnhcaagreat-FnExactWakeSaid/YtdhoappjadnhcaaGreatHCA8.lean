import Derived.Test.YtdhoappjadnhcaaGreatHCA7
/-
  My own texts (road H): HCA8.
-/
set_option maxHeartbeats 8000000
set_option linter.unusedSimpArgs false
set_option linter.unusedVariables false
namespace HT
open Go Go.Proofs HK
theorem wakeW_i (p : Prog) (e : Eng) (ch wg cas wv v : Int) (ok : Bool) (h : p.ok) (he : e.ok) (out : AV) (hN : (engOk p e && valOk v && (decide (0 ≤ wg) && decide (wg < (e.gs.length : Int)))) = false → out = (.tup [.agg [.nil, .nil, .nil], .bool false] : AV)) (hF : ∀ (k : Nat) (g : Gor), wg = (k : Int) → engOk p e = true → valOk v = true → e.gs[k]? = some g → (wantG p k g).any (fnd ch (k : Int) cas wv) = false → out = (.tup [.agg [.nil, .nil, .nil], .bool false] : AV)) (hY : ∀ (k : Nat) (g : Gor), wg = (k : Int) → engOk p e = true → valOk v = true → e.gs[k]? = some g → (wantG p k g).any (fnd ch (k : Int) cas wv) = true → out = .tup [.agg (wakeE p e k g ch cas wv v ok).ow, .bool true]) : Fn Tryz.prog 14 [.agg p.fr, .agg e.fr, .int .i64 ch, .agg [.int .i64 wg, .int .i64 cas, .int .i64 wv], .int .i64 v, .bool ok] (out) := by
  refine Fn.intro Tryz.func14 (by decide) rfl (rs := [.cell 12 40, .tmp 13]) rfl Tryz.ntmps14 (by simp) ?_; refine SW.rb ?_; refine SW.seqK fun K1 hK1 => ?_; refine SW.rg fun K hK => ?_; simp -implicitDefEqProofs
  repeat (refine And.intro (by clear hK; first | omega | (intros; simp_all; done) | (intros; grind)) ?_)
  first
    | refine CallQ.fzE (engOk_i p e h he) (by simp) ?_
    | refine CallK.fzE (engOk_i p e h he) (by simp) ?_
  simp -implicitDefEqProofs; repeat (refine And.intro (by clear hK; first | omega | (intros; simp_all; done) | (intros; grind)) ?_)
  refine CallG.fzE (by simp) (fun _ => val_i v) (by simp) ?_; simp -implicitDefEqProofs; repeat (refine And.intro (by clear hK; first | omega | (intros; simp_all; done) | (intros; grind)) ?_)
  refine CallG.fzE (by simp) (fun _ => within_ok wg 0 e.gs.length) (by simp) ?_; simp -implicitDefEqProofs; repeat (refine And.intro (by clear hK; first | omega | (intros; simp_all; done) | (intros; grind)) ?_)
  refine hK _ ?_; clear hK K; refine SW.cond _ rfl (by simp) ?_ ?_
  case' refine_1 =>
   intro hb1
   have hq : (engOk p e && valOk v && (decide (0 ≤ wg) && decide (wg < (e.gs.length : Int)))) = false := by
     cases h1 : engOk p e <;> cases h2 : valOk v <;> simp [h1, h2] at hb1 ⊢ <;> omega
   refine SW.rb ?_; refine SW.ret ?_; simp [Ex.then, Ex.ib, -strN]
   all_goals first
     | done
     | exact ⟨⟨rfl, rfl⟩, (hN hq).symm⟩
     | exact ⟨⟨rfl, rfl⟩, (hF k g rfl hE hv hg hres).symm⟩
     | (rw [List.take_of_length_le (by simp), List.take_of_length_le (by simp)]; refine ⟨⟨⟨GorSo_strA _, ChanSo_strA _⟩, rfl⟩, ?_⟩; rw [hY k g rfl hE hv hg hany]; simp [wakeE, q2, hfc.2.1, q4, q5]; done)
     | fail
  intro hb1
  have hE : engOk p e = true := by
    cases h1 : engOk p e <;> simp [h1] at hb1 ⊢
  have hv : valOk v = true := by
    cases h2 : valOk v <;> simp [h2] at hb1 ⊢
  have hw01 : 0 ≤ wg ∧ wg < (e.gs.length : Int) := by
    simp [hE, hv] at hb1; omega
  obtain ⟨k, rfl⟩ : ∃ k : Nat, wg = (k : Int) := ⟨wg.toNat, by omega⟩
  have hkl : k < e.gs.length := by omega
  obtain ⟨g, hg⟩ : ∃ q, e.gs[k]? = some q := ⟨_, List.getElem?_eq_getElem hkl⟩
  have hgE : ∀ q, e.gs[k]'q = g := fun q => (List.getElem?_eq_some_iff.1 hg).2
  have hgo := he.2.1 g (List.mem_of_getElem? hg)
  have hgr := engOk_gor hE (List.mem_of_getElem? hg)
  have hp := engOk_prog hE
  have hat := gor_at hgr
  have hlw := wantG_len (p := p) (k := k) (g := g) h
  obtain ⟨lm1, lm2, lm3⟩ := lim_of he; have lg1 := hgo.1
  have lg2 := hgo.2
  refine SW.skip ?_; refine hK1 _ ?_; refine SW.seqK fun K2 hK2 => ?_
  refine SW.drawK mixed [.q [(0, false), (1, false), (2, false), (3, false), (4, false), (5, false), (6, false), (7, false), (8, false), (9, false), (10, false), (11, false)]] (by kernel_rfl) rfl fun K hK => ?_
  simp -implicitDefEqProofs [hg, hgE, hkl]; repeat (refine And.intro (by clear hK; first | omega | (intros; simp_all; done) | (intros; grind)) ?_)
  first
    | refine CallQ.fzE (plsG_i p g k h hgo hgr) (by simp) ?_
    | refine CallK.fzE (plsG_i p g k h hgo hgr) (by simp) ?_
  simp -implicitDefEqProofs [hg, hgE, hkl]; repeat (refine And.intro (by clear hK; first | omega | (intros; simp_all; done) | (intros; grind)) ?_)
  refine hK _ ?_; clear hK K; refine SW.block ?_
  refine SW.loop (α := Nat) (fun j => ⟨[(47, .int .i64 (j : Nat)), (46, .int .i64 (wantG p k g).length), (45, .fz (PlaceS (wantG p k g))), (6, .ptr 0 0 0), (7, .ptr 1 0 0), (9, .ptr 2 0 0), (12, .ptr 3 0 0), (2, .int .i64 ch), (4, .int .i64 v), (5, .bool ok)], [some ⟨4, [p.fr]⟩, some ⟨3, [e.fr]⟩, some ⟨3, [[.int .i64 (k : Int), .int .i64 cas, .int .i64 wv]]⟩, some ⟨3, [[.nil, .nil, .nil]]⟩]⟩) (fun j => j ≤ (wantG p k g).length ∧ ((wantG p k g).take j).any (fnd ch (k : Int) cas wv) = false) (fun j => (wantG p k g).length - j) (0) ?_ ?_ (fun j hx => ?_)
  case' refine_1 =>
   exact ⟨by simp, by simp⟩
  case' refine_2 =>
   exact Wk.cut (by simp) (by simp [subE]) (by simp [cutH]) (by simp [lowE, lowN]) (by simp)
  case' refine_3 =>
   skip
   refine SW.rb ?_; refine SW.seqK fun K3 hK3 => ?_; refine SW.cond _ rfl (by simp) ?_ ?_
   case' refine_1 =>
    intro hb2; have hlt : j < (wantG p k g).length := by simp at hb2; omega
    obtain ⟨x, hxk⟩ : ∃ q, (wantG p k g)[j]? = some q := ⟨_, List.getElem?_eq_getElem hlt⟩
    have hxm := wantG_mem (List.mem_of_getElem? hxk)
    refine SW.skip ?_; refine hK3 _ ?_; refine SW.seqK fun K4 hK4 => ?_; refine SW.block ?_; refine SW.rg fun K hK => ?_; simp -implicitDefEqProofs [hxk]
    repeat (refine And.intro (by clear hK; first | omega | (intros; simp_all; done) | (intros; grind)) ?_)
    refine hK _ ?_; clear hK K; refine SW.rb ?_; refine SW.cond _ rfl (by simp) ?_ ?_
    case' refine_1 =>
     intro hb3
     have hfx : (fnd ch (k : Int) cas wv) x = true := by
       unfold fnd; simp at hb3 ⊢; grind
     have hany : (wantG p k g).any (fnd ch (k : Int) cas wv) = true := List.any_eq_true.2 ⟨x, List.mem_of_getElem? hxk, hfx⟩
     have hfx2 := hfx
     simp only [fnd, Bool.and_eq_true, decide_eq_true_eq, Bool.not_eq_true'] at hfx2; obtain ⟨⟨q1, q2⟩, ⟨q3, q4⟩, q5⟩ := hfx2; have hfc := pls_facts hp hat hxm q1
     refine SW.rg fun K hK => ?_; simp -implicitDefEqProofs; repeat (refine And.intro (by clear hK; first | omega | (intros; simp_all; done) | (intros; grind)) ?_)
     refine CallK.imE (copyE_i e he) (by simp) (Eng_oI e) ?_; simp -implicitDefEqProofs; repeat (refine And.intro (by clear hK; first | omega | (intros; simp_all; done) | (intros; grind)) ?_)
     refine hK _ ?_; clear hK K; refine SW.rg fun K hK => ?_; simp -implicitDefEqProofs [q3]; repeat (refine And.intro (by clear hK; first | omega | (intros; simp_all; done) | (intros; grind)) ?_)
     refine CallS.mono (frE3 (a := 5) (b := 6) (c := 7) (ext0 := []) (ext := []) (wake_i p e k g h (by omega) lm2 lm3 hg hat (by omega) (by omega) x.mutex x.obj x.send x.cas x.v v ok hfc.2.2.1) (by simp) (by simp) (by simp [lowN]) (by intro n; simp; try rfl) (by simp [lowN]) (by simp [nfz]) (by intro n; simp [renB]) (by simp [nfzB, lowN, nfz]) rfl rfl rfl) ?_
     rintro o h' ⟨rfl, rfl⟩
     simp -implicitDefEqProofs [q3]; repeat (refine And.intro (by clear hK; first | omega | (intros; simp_all; done) | (intros; grind)) ?_)
     refine hK _ ?_; clear hK K; refine SW.rb ?_; refine SW.ret ?_; simp [Ex.then, Ex.ib, -strN]
     all_goals first
       | done
       | exact ⟨⟨rfl, rfl⟩, (hN hq).symm⟩
       | exact ⟨⟨rfl, rfl⟩, (hF k g rfl hE hv hg hres).symm⟩
       | (rw [List.take_of_length_le (by simp), List.take_of_length_le (by simp)]; refine ⟨⟨⟨GorSo_strA _, ChanSo_strA _⟩, rfl⟩, ?_⟩; rw [hY k g rfl hE hv hg hany]; simp [wakeE, q2, hfc.2.1, q4, q5]; done)
       | fail
    intro hb3
    have hfx : (fnd ch (k : Int) cas wv) x = false := by
      rw [Bool.eq_false_iff]; intro h9; simp only [fnd, Bool.and_eq_true, decide_eq_true_eq, Bool.not_eq_true'] at h9; simp [h9] at hb3
    have hnx : ((wantG p k g).take (j + 1)).any (fnd ch (k : Int) cas wv) = false := by rw [tkS hxk, List.any_append, hx.2]; simp [hfx]
    refine SW.skip ?_; refine hK4 _ ?_; refine SW.eb ?_; refine ⟨j + 1, ⟨by omega, hnx⟩, by omega, ?_⟩; exact Wk.cut (by simp) (by simp [subE, wrap1 j (by omega)]) (by simp [cutH]) (by simp [lowE, lowN]) (by simp)
   intro hb2; have hj : j = (wantG p k g).length := by simp at hb2; omega
   have hres : (wantG p k g).any (fnd ch (k : Int) cas wv) = false := by have h9 := hx.2; rwa [hj, List.take_length] at h9
   refine SW.exit ?_; simp only [Ex.then, Ex.ib]; try simp only [if_true, if_false, reduceIte]
   refine hK2 _ ?_; refine SW.rb ?_; refine SW.ret ?_; simp [Ex.then, Ex.ib, -strN]
   all_goals first
     | done
     | exact ⟨⟨rfl, rfl⟩, (hN hq).symm⟩
     | exact ⟨⟨rfl, rfl⟩, (hF k g rfl hE hv hg hres).symm⟩
     | (rw [List.take_of_length_le (by simp), List.take_of_length_le (by simp)]; refine ⟨⟨⟨GorSo_strA _, ChanSo_strA _⟩, rfl⟩, ?_⟩; rw [hY k g rfl hE hv hg hany]; simp [wakeE, q2, hfc.2.1, q4, q5]; done)
     | fail
theorem wakeW_s (p : Prog) (e : Eng) (ch wg cas wv v : Int) (ok : Bool) (h : p.ok) (he : e.ok) (out : AV) (hN : (engOk p e && valOk v && (decide (0 ≤ wg) && decide (wg < (e.gs.length : Int)))) = false → out = (.tup [.agg [.nil, .nil, .nil], .bool false] : AV)) (hF : ∀ (k : Nat) (g : Gor), wg = (k : Int) → engOk p e = true → valOk v = true → e.gs[k]? = some g → (wantG p k g).any (fnd ch (k : Int) cas wv) = false → out = (.tup [.agg [.nil, .nil, .nil], .bool false] : AV)) (hY : ∀ (k : Nat) (g : Gor), wg = (k : Int) → engOk p e = true → valOk v = true → e.gs[k]? = some g → (wantG p k g).any (fnd ch (k : Int) cas wv) = true → out = .tup [.agg (wakeE p e k g ch cas wv v ok).ow, .bool true]) : Fn Tryz.prog 10 [.agg p.fr, .agg e.fr, .int .i64 ch, .agg [.int .i64 wg, .int .i64 cas, .int .i64 wv], .int .i64 v, .bool ok] (out) := by
  refine Fn.intro Tryz.func10 (by decide) rfl (rs := [.cell 12 40, .tmp 13]) rfl Tryz.ntmps10 (by simp) ?_; refine SW.rb ?_; refine SW.seqK fun K1 hK1 => ?_; refine SW.rg fun K hK => ?_; simp -implicitDefEqProofs
  repeat (refine And.intro (by clear hK; first | omega | (intros; simp_all; done) | (intros; grind)) ?_)
  first
    | refine CallQ.fzE (engOk_s p e h he) (by simp) ?_
    | refine CallK.fzE (engOk_s p e h he) (by simp) ?_
  simp -implicitDefEqProofs; repeat (refine And.intro (by clear hK; first | omega | (intros; simp_all; done) | (intros; grind)) ?_)
  refine CallG.fzE (by simp) (fun _ => val_s v) (by simp) ?_; simp -implicitDefEqProofs; repeat (refine And.intro (by clear hK; first | omega | (intros; simp_all; done) | (intros; grind)) ?_)
  refine hK _ ?_; clear hK K; refine SW.cond _ rfl (by simp) ?_ ?_
  case' refine_1 =>
   intro hb1
   have hq : (engOk p e && valOk v && (decide (0 ≤ wg) && decide (wg < (e.gs.length : Int)))) = false := by
     cases h1 : engOk p e <;> cases h2 : valOk v <;> simp [h1, h2] at hb1 ⊢ <;> omega
   refine SW.rb ?_; refine SW.ret ?_; simp [Ex.then, Ex.ib, -strN]
   all_goals first
     | done
     | exact ⟨⟨rfl, rfl⟩, (hN hq).symm⟩
     | exact ⟨⟨rfl, rfl⟩, (hF k g rfl hE hv hg hres).symm⟩
     | (rw [List.take_of_length_le (by simp), List.take_of_length_le (by simp)]; refine ⟨⟨⟨GorSo_strA _, ChanSo_strA _⟩, rfl⟩, ?_⟩; rw [hY k g rfl hE hv hg hany]; simp [wakeE]; done)
     | fail
  intro hb1
  have hE : engOk p e = true := by
    cases h1 : engOk p e <;> simp [h1] at hb1 ⊢
  have hv : valOk v = true := by
    cases h2 : valOk v <;> simp [h2] at hb1 ⊢
  have hw01 : 0 ≤ wg ∧ wg < (e.gs.length : Int) := by
    simp [hE, hv] at hb1; omega
  obtain ⟨k, rfl⟩ : ∃ k : Nat, wg = (k : Int) := ⟨wg.toNat, by omega⟩
  have hkl : k < e.gs.length := by omega
  obtain ⟨g, hg⟩ : ∃ q, e.gs[k]? = some q := ⟨_, List.getElem?_eq_getElem hkl⟩
  have hgE : ∀ q, e.gs[k]'q = g := fun q => (List.getElem?_eq_some_iff.1 hg).2
  have hgo := he.2.1 g (List.mem_of_getElem? hg)
  have hgr := engOk_gor hE (List.mem_of_getElem? hg)
  have hp := engOk_prog hE
  have hat := gor_at hgr
  have hlw := wantG_len (p := p) (k := k) (g := g) h
  obtain ⟨lm1, lm2, lm3⟩ := lim_of he; have lg1 := hgo.1
  have lg2 := hgo.2
  refine SW.skip ?_; refine hK1 _ ?_; refine SW.drawK mixed [.q [(0, false), (1, false), (2, false), (3, false), (4, false), (5, false), (6, false), (7, false), (8, false), (9, false), (10, false)]] (by kernel_rfl) rfl fun K hK => ?_
  simp -implicitDefEqProofs [hg, hgE, hkl]; repeat (refine And.intro (by clear hK; first | omega | (intros; simp_all; done) | (intros; grind)) ?_)
  first
    | refine CallQ.fzE (plsG_s p g k h hgo hgr) (by simp) ?_
    | refine CallK.fzE (plsG_s p g k h hgo hgr) (by simp) ?_
  simp -implicitDefEqProofs [hg, hgE, hkl]; repeat (refine And.intro (by clear hK; first | omega | (intros; simp_all; done) | (intros; grind)) ?_)
  refine hK _ ?_; clear hK K; refine SW.seqK fun K2 hK2 => ?_
  refine SW.drawK mixed [.q [(0, false), (1, false), (2, false), (3, false), (4, false), (5, false), (6, false), (7, false), (8, false), (9, false), (10, false), (11, false)]] (by kernel_rfl) rfl fun K hK => ?_; simp -implicitDefEqProofs
  repeat (refine And.intro (by clear hK; first | omega | (intros; simp_all; done) | (intros; grind)) ?_)
  refine CallQ.fzE (count_s (wantG p k g) ⟨false, ch, true, (k : Int), cas, wv⟩ (by omega)) (by simp) ?_; simp -implicitDefEqProofs; repeat (refine And.intro (by clear hK; first | omega | (intros; simp_all; done) | (intros; grind)) ?_)
  refine CallQ.fzE (count_s (wantG p k g) ⟨false, ch, false, (k : Int), cas, wv⟩ (by omega)) (by simp) ?_; simp -implicitDefEqProofs; repeat (refine And.intro (by clear hK; first | omega | (intros; simp_all; done) | (intros; grind)) ?_)
  refine hK _ ?_; clear hK K; refine SW.cond _ rfl (by simp) ?_ ?_
  case' refine_1 =>
   intro hb2
   have hres : (wantG p k g).any (fnd ch (k : Int) cas wv) = false := by
     rw [fnd_count]; have hc1 := count_le (wantG p k g) ⟨false, ch, true, (k : Int), cas, wv⟩
     have hc2 := count_le (wantG p k g) ⟨false, ch, false, (k : Int), cas, wv⟩
     have hw9 := wrapI ((((wantG p k g).count ⟨false, ch, true, (k : Int), cas, wv⟩) : Int) + (((wantG p k g).count ⟨false, ch, false, (k : Int), cas, wv⟩) : Int)) (by omega) (by omega)
     simp [hw9] at hb2; omega
   refine SW.rb ?_; refine SW.ret ?_; simp [Ex.then, Ex.ib, -strN]
   all_goals first
     | done
     | exact ⟨⟨rfl, rfl⟩, (hN hq).symm⟩
     | exact ⟨⟨rfl, rfl⟩, (hF k g rfl hE hv hg hres).symm⟩
     | (rw [List.take_of_length_le (by simp), List.take_of_length_le (by simp)]; refine ⟨⟨⟨GorSo_strA _, ChanSo_strA _⟩, rfl⟩, ?_⟩; rw [hY k g rfl hE hv hg hany]; simp [wakeE]; done)
     | fail
  intro hb2
  have hany : (wantG p k g).any (fnd ch (k : Int) cas wv) = true := by
    cases h9 : (wantG p k g).any (fnd ch (k : Int) cas wv) with
    | true => rfl
    | false =>
      exfalso; have h8 := fnd_count.1 h9
      have h6 : ((wantG p k g).count ⟨false, ch, true, (k : Int), cas, wv⟩) = 0 := by omega
      have h7 : ((wantG p k g).count ⟨false, ch, false, (k : Int), cas, wv⟩) = 0 := by omega
      rw [h6, h7] at hb2; have hw0 : IntKind.i64.wrap 0 = 0 := wrapI 0 (by omega) (by omega)
      simp [hw0] at hb2
  obtain ⟨x, hxl, hfx⟩ := List.any_eq_true.1 hany; have hxm := wantG_mem hxl
  have hfx2 := hfx
  simp only [fnd, Bool.and_eq_true, decide_eq_true_eq, Bool.not_eq_true'] at hfx2; obtain ⟨⟨q1, q2⟩, ⟨q3, q4⟩, q5⟩ := hfx2; have hfc := pls_facts hp hat hxm q1
  have hci : casIn p g cas := by rw [← q4]; exact hfc.2.2.1
  refine SW.skip ?_; refine hK2 _ ?_; refine SW.drawK mixed [.q [(0, false), (1, false), (3, false), (4, false), (5, false), (6, false), (2, true)], .b 7, .b 8, .q [(9, false)]] (by kernel_rfl) rfl fun K hK => ?_; simp -implicitDefEqProofs
  repeat (refine And.intro (by clear hK; first | omega | (intros; simp_all; done) | (intros; grind)) ?_)
  refine imQ (copyE_s e he) (by simp) (Eng_oI e) ?_; simp -implicitDefEqProofs; repeat (refine And.intro (by clear hK; first | omega | (intros; simp_all; done) | (intros; grind)) ?_)
  refine CallS.mono (frE3 (a := 4) (b := 5) (c := 6) (ext0 := [some ⟨3, [[.sl 0 0 e.gs.length, .sl 1 0 e.chans.length, .sl 2 0 e.mus.length]]⟩]) (ext := [some ⟨3, [[.sl 4 0 e.gs.length, .sl 5 0 e.chans.length, .sl 6 0 e.mus.length]]⟩]) (wake_s p e k g h (by omega) lm2 lm3 hg hat (by omega) (by omega) ch cas wv v ok hci) (by simp) (by simp) (by simp [lowN]) (by intro n; simp; try rfl) (by simp [lowN]) (by simp [nfz]) (by intro n; simp [renB]) (by simp [nfzB, lowN, nfz]) rfl rfl rfl) ?_
  rintro o h' ⟨rfl, rfl⟩
  simp -implicitDefEqProofs; repeat (refine And.intro (by clear hK; first | omega | (intros; simp_all; done) | (intros; grind)) ?_)
  refine hK _ ?_; clear hK K; refine SW.ret ?_; simp [Ex.then, Ex.ib, -strN]
  all_goals first
    | done
    | exact ⟨⟨rfl, rfl⟩, (hN hq).symm⟩
    | exact ⟨⟨rfl, rfl⟩, (hF k g rfl hE hv hg hres).symm⟩
    | (rw [List.take_of_length_le (by simp), List.take_of_length_le (by simp)]; refine ⟨⟨⟨GorSo_strA _, ChanSo_strA _⟩, rfl⟩, ?_⟩; rw [hY k g rfl hE hv hg hany]; simp [wakeE]; done)
    | fail
end HT
