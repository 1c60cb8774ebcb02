import Derived.Test.YtdhoappjadnhcaaGreatHCAA
import Derived.Test.YtdhoappjadnhcaaGreatHCA8
import Derived.Test.YtdhoappjadnhcaaGreatHCY6
import Derived.Test.YtdhoappjadnhcaaGreatHK58
/-
  My own texts (road H): HCAB.
-/
set_option maxHeartbeats 8000000
set_option linter.unusedSimpArgs false
set_option linter.unusedVariables false
namespace HT
open Go Go.Proofs HK
theorem sum_set {α : Type} {f : α → Nat} {n : Nat} {x d : α} : ∀ {l : List α} {k : Nat}, l[k]? = some x → f d ≤ f x + n → ((l.set k d).map f).sum ≤ (l.map f).sum + n
  | y :: l, 0, h, hd => by simp at h; subst h; simp; omega
  | y :: l, k + 1, h, hd => by
    have := sum_set (l := l) (k := k) (by simpa using h) hd
    simp only [List.set_cons_succ, List.map_cons, List.sum_cons]; omega
theorem sum_maps {α : Type} {f : α → Nat} {g : α → α} (h : ∀ x, f (g x) ≤ f x) : ∀ (l : List α), ((l.map g).map f).sum ≤ (l.map f).sum
  | [] => by simp
  | x :: l => by
    have h1 := sum_maps h l
    have h2 := h x
    simp only [List.map_cons, List.sum_cons]; omega
theorem wakeG_all (p : Prog) (g : Gor) (snd : Bool) (obj cas wv v : Int) (ok : Bool) : (wakeG p g snd obj cas wv v ok).regs.length = g.regs.length ∧ (wakeG p g snd obj cas wv v ok).trace.length ≤ g.trace.length + 2 := by
  have h1 := wkPick_all p g cas
  have h2 := over_all (wkPick p g cas) 1
  have h3 := tell_all (wkPick p g cas) ⟨1, obj, wv, false⟩
  have h4 := gotG_all (wkPick p g cas) obj v ok (wkCase p g snd cas).reg (wkCase p g snd cas).ok
  unfold wakeG; split
  · rw [h2.1, h2.2.1, h1.1]; exact ⟨rfl, by omega⟩
  · split
    · show (tell (wkPick p g cas) ⟨1, obj, wv, false⟩).regs.length = _ ∧ (tell (wkPick p g cas) ⟨1, obj, wv, false⟩).trace.length ≤ _
      rw [h3.1, h3.2.1, h1.1]; exact ⟨rfl, by omega⟩
    · show (gotG (wkPick p g cas) obj v ok (wkCase p g snd cas).reg (wkCase p g snd cas).ok).regs.length = _ ∧ (gotG (wkPick p g cas) obj v ok (wkCase p g snd cas).reg (wkCase p g snd cas).ok).trace.length ≤ _
      rw [h4.1, h4.2, h1.1]; exact ⟨rfl, by omega⟩
theorem gor_regs {p : Prog} {g : Gor} (h : gorOk p g = true) : g.regs.length = 6 := by
  simp only [gorOk, gorIn, gorHead, Bool.and_eq_true, decide_eq_true_eq] at h; omega
theorem gor_sz {e : Eng} {k : Nat} {g : Gor} (hz : e.sz ≤ 1048576) (hg : e.gs[k]? = some g) : g.regs.length + g.trace.length + 1 ≤ 1048576 := by
  have h1 := sum_mem (f := Gor.sz) (List.mem_of_getElem? hg)
  have h2 := (List.getElem?_eq_some_iff.1 hg).1
  simp only [Eng.sz, szL, Gor.sz] at hz h1; omega
theorem free_chan (n : Int) (c : Chan) : (freeC n c).sz ≤ c.sz := by
  have h1 := dropW_len c.sends n
  have h2 := dropW_len c.recvs n
  simp only [Chan.sz, freeC]; omega
theorem wake_ok {p : Prog} {e : Eng} {k : Nat} {g : Gor} (ch cas wv v : Int) (ok : Bool) (he : e.ok) (hE : engOk p e = true) (hg : e.gs[k]? = some g) (hz : e.sz ≤ 1048576) : (wakeE p e k g ch cas wv v ok).ok ∧ (wakeE p e k g ch cas wv v ok).tw ≤ 2 ^ 30 := by
  obtain ⟨g1, g2, g3, g4, g5, g6⟩ := he; have hd := wakeG_all p g (sndS p g cas) ch cas wv v ok
  have h6 := gor_regs (engOk_gor hE (List.mem_of_getElem? hg))
  have hs := gor_sz hz hg
  refine ⟨⟨by simpa [wakeE] using g1, fun x hx => ?_, by simpa [wakeE] using g3, fun c hc => ?_, g5, g6⟩, ?_⟩
  · rcases List.mem_or_eq_of_mem_set hx with hx | rfl
    · exact g2 x hx
    · exact ⟨by omega, by omega⟩
  · obtain ⟨c0, hc0, rfl⟩ := List.mem_map.1 hc
    have := g4 c0 hc0
    have q1 := dropW_len c0.sends (k : Int)
    have q2 := dropW_len c0.recvs (k : Int)
    exact ⟨this.1, by have := this.2.1; simp only [freeC]; omega, by have := this.2.2; simp only [freeC]; omega⟩
  · have t1 := Eng.tw_le (wakeE p e k g ch cas wv v ok)
    have t2 := sum_set (f := Gor.sz) (n := 2) (d := wakeG p g (sndS p g cas) ch cas wv v ok) hg (by simp only [Gor.sz]; omega)
    have t3 := sum_maps (f := Chan.sz) (free_chan (k : Int)) e.chans
    simp only [Eng.sz, szL, wakeE, List.length_set, List.length_map] at t1 hz ⊢; omega
theorem toWaiter_ok3 (g c v : Int) : HK.Fn Tryz.prog 13 [.agg [.int .i64 g, .int .i64 c, .int .i64 v]] (.agg [.int .i64 g, .int .i64 c, .int .i64 v]) := toWaiter_ok ⟨g, c, v⟩
set_option maxRecDepth 10000 in
theorem law_wakeY (a : Prog) (b : Eng) (ch wg cas wv v : Int) (ok : Bool) (fa : a.fit) (fb : b.fit) (r : Eng) (hr : b.sz ≤ 1048576 → r.ok ∧ r.tw ≤ 2 ^ 30) (hS : a.ok → b.ok → HK.Fn Tryz.prog 10 [.agg a.fr, .agg b.fr, .int .i64 ch, .agg [.int .i64 wg, .int .i64 cas, .int .i64 wv], .int .i64 v, .bool ok] (.tup [.agg r.ow, .bool true])) (hI : a.ok → b.ok → HK.Fn Tryz.prog 14 [.agg a.fr, .agg b.fr, .int .i64 ch, .agg [.int .i64 wg, .int .i64 cas, .int .i64 wv], .int .i64 v, .bool ok] (.tup [.agg r.ow, .bool true])) : Fn Tryz.prog 3 [.agg a.fr, .agg b.fr, .int .i64 ch, .agg [.int .i64 wg, .int .i64 cas, .int .i64 wv], .int .i64 v, .bool ok] (.bool true) := by
  refine Fn.intro Tryz.func3 (by decide) rfl (rs := [.tmp 12]) rfl Tryz.ntmps3 (by simp) ?_; have q1 := szR_cases a.sz 1048576
  have q2 := szR_cases b.sz (szR a.sz 1048576)
  have qt := Prog.tw_le a
  refine SW.ra ?_; refine SW.ra ?_; refine SW.rg fun K hK => ?_; simp -implicitDefEqProofs; iterate 2 (try refine ⟨by omega, ?_⟩)
  refine CallK.fzE (szProg_ok a 1048576 fa (by omega) (by omega)) (by simp) ?_; simp -implicitDefEqProofs; repeat refine ⟨by omega, ?_⟩
  refine hK _ ?_; clear hK K; refine SW.seqK fun K1 hK1 => ?_; refine SW.ra ?_; refine SW.cond _ rfl (by simp) ?_ ?_
  case' refine_2 =>
   intro hb1; have n1 : 0 ≤ szR a.sz 1048576 := by simp at hb1; omega
   have ha : a.ok := Prog.sz_ok (by omega)
   have hW : a.tw ≤ 2 ^ 30 := by omega
   have hl0 : a.caps.length ≤ 2 ^ 30 := by have := ha.1; omega
   have hl1 : a.sels.length ≤ 2 ^ 30 := by have := ha.2.1; omega
   have hl2 : a.procs.length ≤ 2 ^ 30 := by have := ha.2.2.2.1; omega
   refine SW.skip ?_; refine hK1 _ ?_; refine SW.rg fun K hK => ?_; simp -implicitDefEqProofs; iterate 2 (try refine ⟨by omega, ?_⟩)
   refine CallK.fzE (szEng_ok b (szR a.sz 1048576) fb (by omega) (by omega)) (by simp) ?_; simp -implicitDefEqProofs; repeat refine ⟨by omega, ?_⟩
   refine hK _ ?_; clear hK K; refine SW.seqK fun K2 hK2 => ?_; refine SW.ra ?_; refine SW.cond _ rfl (by simp) ?_ ?_
   case' refine_2 =>
    intro hb2; have n2 : 0 ≤ szR b.sz (szR a.sz 1048576) := by simp at hb2; omega
    have hb : b.ok := Eng.sz_ok (by omega)
    have hbz : b.sz ≤ 1048576 := by omega
    have hWb : b.tw ≤ 2 ^ 30 := by have := Eng.tw_le b; omega
    have hB0 : b.gs.length ≤ 2 ^ 30 := by have := hb.1; omega
    have hB1 : b.chans.length ≤ 2 ^ 30 := by have := hb.2.2.1; omega
    have hB2 : b.mus.length ≤ 2 ^ 30 := by have := hb.2.2.2.2.1; omega
    obtain ⟨hro, hrw⟩ := hr hbz; have hR0 : r.gs.length ≤ 2 ^ 30 := by have := hro.1; omega
    have hR1 : r.chans.length ≤ 2 ^ 30 := by have := hro.2.2.1; omega
    have hR2 : r.mus.length ≤ 2 ^ 30 := by have := hro.2.2.2.2.1; omega
    refine SW.skip ?_; refine hK2 _ ?_
    refine SW.drawWK mixed [(0, false), (1, false), (2, false), (3, false), (4, false), (5, false), (6, false), (7, false), (8, false), (9, false), (10, false), (11, false), (12, false), (13, true)] 14 12 [.q [(15, false)]] (by kernel_rfl) rfl fun K hK => ?_
    simp -implicitDefEqProofs; iterate 2 (try refine ⟨by omega, ?_⟩)
    first
      | refine CallQ.fzE (toProg_ok a ha) (by simp) ?_
      | refine CallK.fzE (toProg_ok a ha) (by simp) ?_
    simp -implicitDefEqProofs; iterate 2 (try refine ⟨by omega, ?_⟩)
    first
      | refine CallQ.fzE (toEng_ok b hb) (by simp) ?_
      | refine CallK.fzE (toEng_ok b hb) (by simp) ?_
    simp -implicitDefEqProofs; iterate 2 (try refine ⟨by omega, ?_⟩)
    first
      | refine CallQ.fz (toWaiter_ok3 wg cas wv) ?_
      | refine CallK.fz (toWaiter_ok3 wg cas wv) ?_
    simp -implicitDefEqProofs; iterate 2 (try refine ⟨by omega, ?_⟩)
    first
      | refine CallQ.fzE (hS ha hb) (by simp) ?_
      | refine CallK.fzE (hS ha hb) (by simp) ?_
    simp -implicitDefEqProofs; repeat refine ⟨by omega, ?_⟩
    refine hK _ ?_; clear hK K; refine SW.rg fun K hK => ?_; simp -implicitDefEqProofs; iterate 2 (try refine ⟨by omega, ?_⟩)
    refine CallK.imE (toProg_ok a ha) (by simp) (Prog_oI a) ?_; simp -implicitDefEqProofs; repeat refine ⟨by omega, ?_⟩
    refine hK _ ?_; clear hK K; refine SW.rg fun K hK => ?_; simp -implicitDefEqProofs; iterate 2 (try refine ⟨by omega, ?_⟩)
    refine CallK.imE (toEng_ok b hb) (by simp) (Eng_oI b) ?_; simp -implicitDefEqProofs; repeat refine ⟨by omega, ?_⟩
    refine hK _ ?_; clear hK K
    refine SW.drawAK mixed [(0, false), (1, false), (2, false), (3, false), (4, false), (5, false), (6, false)] 11 7 [(7, true), (8, false), (9, false), (10, false)] [(7, true), (8, false), (9, false), (10, false), (11, true)] 12 10 [.q [(13, false)]] (by kernel_rfl) fun K hK => ?_
    simp -implicitDefEqProofs; refine CallQ.fz (toWaiter_ok3 wg cas wv) ?_; simp -implicitDefEqProofs
    refine SW.two ⟨[(19, .bool true), (18, .ptr 15 0 0), (17, .ptr 11 0 0), (16, .ptr 7 0 0), (15, .bool true), (14, .ptr 3 0 0), (12, .bool false), (9, .ptr 2 0 0), (7, .ptr 1 0 0), (6, .ptr 0 0 0), (2, .int .i64 ch), (4, .int .i64 v), (5, .bool ok)], [some ⟨4, [a.fr]⟩, some ⟨3, [b.fr]⟩, some ⟨3, [[.int .i64 wg, .int .i64 cas, .int .i64 wv]]⟩, some ⟨3, [r.fr]⟩, some ⟨1, IntS a.caps⟩, some ⟨2, SelectSo a.sels⟩, some ⟨1, ProcSo a.procs⟩, some ⟨4, [[.sl 4 0 a.caps.length, .int .i64 a.mus, .sl 5 0 a.sels.length, .sl 6 0 a.procs.length]]⟩, some ⟨5, GorSo b.gs⟩, some ⟨5, ChanSo b.chans⟩, some ⟨2, MutexSo b.mus⟩, some ⟨3, [[.sl 8 0 b.gs.length, .sl 9 0 b.chans.length, .sl 10 0 b.mus.length]]⟩, some ⟨5, GorSo r.gs⟩, some ⟨5, ChanSo r.chans⟩, some ⟨2, MutexSo r.mus⟩, some ⟨3, [[.sl 12 0 r.gs.length, .sl 13 0 r.chans.length, .sl 14 0 r.mus.length]]⟩]⟩ hK (fun hK => ⟨?_, ?_⟩) ?_
    · refine imQ (hI ha hb) (by simp) (by simp) ?_
      simp -implicitDefEqProofs; exact hK _ (Wk.ren [0, 1, 2, 3, 4, 5, 6, 7, 8, 9, 10, 11, 13, 14, 15, 12] (by simp) (by simp) (by simp) (by simp) (by simp [renE, renN]) (by simp [renH]) (by simp [lowE, lowN]) (by simp [lowN]))
    · refine imQ (hI ha hb) (by simp) (by simp) ?_
      simp -implicitDefEqProofs; exact hK _ (Wk.ren [0, 1, 2, 3, 4, 5, 6, 7, 8, 9, 10, 11, 12, 13, 14, 15] (by simp) (by simp) (by simp) (by simp) (by simp [renE, renN]) (by simp [renH]) (by simp [lowE, lowN]) (by simp [lowN]))
    clear hK K; refine SW.seqK fun K3 hK3 => ?_; refine SW.rg fun K hK => ?_; simp -implicitDefEqProofs; iterate 2 (try refine ⟨by omega, ?_⟩)
    refine CallK.fzE (eqEng_ok r hro) (by simp) ?_; simp -implicitDefEqProofs; repeat refine ⟨by omega, ?_⟩
    refine hK _ ?_; clear hK K; refine SW.cond _ rfl (by simp) ?_ ?_
    case' refine_1 =>
     intro hb3; exfalso; simp at hb3
    intro hb3; refine SW.skip ?_; refine hK3 _ ?_; refine SW.seqK fun K4 hK4 => ?_; refine SW.drawK mixed [.q [(0, false), (1, false), (2, false), (3, false), (4, false)]] (by kernel_rfl) rfl fun K hK => ?_; simp -implicitDefEqProofs
    iterate 2 (try refine ⟨by omega, ?_⟩)
    first
      | refine CallQ.fzE (toProg_ok a ha) (by simp) ?_
      | refine CallK.fzE (toProg_ok a ha) (by simp) ?_
    simp -implicitDefEqProofs; iterate 2 (try refine ⟨by omega, ?_⟩)
    refine CallQ.fzE (eqProg_ok a ha) (by simp) ?_; simp -implicitDefEqProofs; repeat refine ⟨by omega, ?_⟩
    refine hK _ ?_; clear hK K; refine SW.cond _ rfl (by simp) ?_ ?_
    case' refine_1 =>
     intro hb4; exfalso; simp at hb4
    intro hb4; refine SW.skip ?_; refine hK4 _ ?_; refine SW.seqK fun K5 hK5 => ?_; refine SW.drawK mixed [.q [(0, false), (1, false), (2, false), (3, false), (4, false)]] (by kernel_rfl) rfl fun K hK => ?_; simp -implicitDefEqProofs
    iterate 2 (try refine ⟨by omega, ?_⟩)
    first
      | refine CallQ.fzE (toEng_ok b hb) (by simp) ?_
      | refine CallK.fzE (toEng_ok b hb) (by simp) ?_
    simp -implicitDefEqProofs; iterate 2 (try refine ⟨by omega, ?_⟩)
    refine CallQ.fzE (eqEng_ok b hb) (by simp) ?_; simp -implicitDefEqProofs; repeat refine ⟨by omega, ?_⟩
    refine hK _ ?_; clear hK K; refine SW.cond _ rfl (by simp) ?_ ?_
    case' refine_1 =>
     intro hb5; exfalso; simp at hb5
    intro hb5; refine SW.skip ?_; refine hK5 _ ?_; refine SW.ra ?_; refine SW.rg fun K hK => ?_; simp -implicitDefEqProofs; iterate 2 (try refine ⟨by omega, ?_⟩)
    refine CallS.mono (mark_Prog a 1 _ 4 5 6 _ rfl (by simp) _ rfl (by simp) _ rfl (by simp) (by simp) hW hl0 hl1 hl2 (by omega) (by omega)) ?_
    rintro o h' ⟨rfl, m1, m2, rfl⟩
    simp -implicitDefEqProofs; repeat refine ⟨by omega, ?_⟩
    refine hK _ ?_; clear hK K; refine SW.rg fun K hK => ?_; simp -implicitDefEqProofs; iterate 2 (try refine ⟨by omega, ?_⟩)
    refine CallS.mono (markX_Eng b (1 + (a.tw : Int)) _ 8 9 10 (by simp) rfl rfl rfl hWb hB0 hB1 hB2 (by omega) (by omega)) ?_
    rintro o h' ⟨rfl, rfl⟩
    simp -implicitDefEqProofs; repeat refine ⟨by omega, ?_⟩
    refine hK _ ?_; clear hK K; refine SW.seqK fun K6 hK6 => ?_; refine SW.rg fun K hK => ?_; simp -implicitDefEqProofs; iterate 2 (try refine ⟨by omega, ?_⟩)
    refine CallG.fzE (by simp) (fun _ => eqEng_ok r hro) (by simp) ?_; simp -implicitDefEqProofs; repeat refine ⟨by omega, ?_⟩
    refine hK _ ?_; clear hK K; refine SW.cond _ rfl (by simp) ?_ ?_
    case' refine_1 =>
     intro hb6; exfalso; simp at hb6; omega
    intro hb6; refine SW.skip ?_; refine hK6 _ ?_; refine SW.ra ?_; refine SW.rg fun K hK => ?_; simp -implicitDefEqProofs; iterate 2 (try refine ⟨by omega, ?_⟩)
    refine CallS.mono (markX_Eng r 1 _ 12 13 14 (by simp) rfl rfl rfl hrw hR0 hR1 hR2 (by omega) (by omega)) ?_
    rintro o h' ⟨rfl, rfl⟩
    simp -implicitDefEqProofs; repeat refine ⟨by omega, ?_⟩
    refine hK _ ?_; clear hK K; refine SW.ra ?_; refine SW.rg fun K hK => ?_; simp -implicitDefEqProofs; iterate 2 (try refine ⟨by omega, ?_⟩)
    refine CallK.fzE (held_Eng r 1 hrw hR0 hR1 hR2 (by omega) (by omega)) (by simp) ?_; simp -implicitDefEqProofs; repeat refine ⟨by omega, ?_⟩
    refine hK _ ?_; clear hK K; refine SW.seqK fun K7 hK7 => ?_; refine SW.ra ?_; refine SW.cond _ rfl (by simp) ?_ ?_
    case' refine_1 =>
     intro hb7; exfalso; simp at hb7; omega
    intro hb7; refine SW.skip ?_; refine hK7 _ ?_; refine SW.seqK fun K8 hK8 => ?_; refine SW.ra ?_; refine SW.cond _ rfl (by simp) ?_ ?_
    case' refine_1 =>
     intro hb8; exfalso; simp at hb8
    intro hb8; refine SW.skip ?_; refine hK8 _ ?_
    refine SW.drawWK mixed [(0, false), (1, false), (2, false), (3, false), (4, false), (5, false), (6, false), (7, false), (8, false), (9, false), (10, false), (11, false), (12, false), (13, true)] 14 12 [.q [(15, false)]] (by kernel_rfl) rfl fun K hK => ?_
    simp -implicitDefEqProofs; iterate 2 (try refine ⟨by omega, ?_⟩)
    first
      | refine CallQ.fzE (toProg_ok a ha) (by simp) ?_
      | refine CallK.fzE (toProg_ok a ha) (by simp) ?_
    simp -implicitDefEqProofs; iterate 2 (try refine ⟨by omega, ?_⟩)
    first
      | refine CallQ.fzE (toEng_ok b hb) (by simp) ?_
      | refine CallK.fzE (toEng_ok b hb) (by simp) ?_
    simp -implicitDefEqProofs; iterate 2 (try refine ⟨by omega, ?_⟩)
    first
      | refine CallQ.fz (toWaiter_ok3 wg cas wv) ?_
      | refine CallK.fz (toWaiter_ok3 wg cas wv) ?_
    simp -implicitDefEqProofs; iterate 2 (try refine ⟨by omega, ?_⟩)
    first
      | refine CallQ.fzE (hI ha hb) (by simp) ?_
      | refine CallK.fzE (hI ha hb) (by simp) ?_
    simp -implicitDefEqProofs; repeat refine ⟨by omega, ?_⟩
    refine hK _ ?_; clear hK K; refine SW.seqK fun K9 hK9 => ?_; refine SW.rg fun K hK => ?_; simp -implicitDefEqProofs; iterate 2 (try refine ⟨by omega, ?_⟩)
    refine CallK.fzE (eqEng_ok r hro) (by simp) ?_; simp -implicitDefEqProofs; repeat refine ⟨by omega, ?_⟩
    refine hK _ ?_; clear hK K; refine SW.cond _ rfl (by simp) ?_ ?_
    case' refine_1 =>
     intro hb9; exfalso; simp at hb9
    intro hb9; refine SW.skip ?_; refine hK9 _ ?_; refine SW.ra ?_; refine SW.rg fun K hK => ?_; simp -implicitDefEqProofs; iterate 2 (try refine ⟨by omega, ?_⟩)
    refine CallK.fzE (held_Eng r 1 hrw hR0 hR1 hR2 (by omega) (by omega)) (by simp) ?_; simp -implicitDefEqProofs; repeat refine ⟨by omega, ?_⟩
    refine hK _ ?_; clear hK K; refine SW.seqK fun K10 hK10 => ?_; refine SW.ra ?_; refine SW.cond _ rfl (by simp) ?_ ?_
    case' refine_1 =>
     intro hb10; exfalso; simp at hb10; omega
    intro hb10; refine SW.skip ?_; refine hK10 _ ?_; refine SW.seqK fun K11 hK11 => ?_; refine SW.ra ?_; refine SW.cond _ rfl (by simp) ?_ ?_
    case' refine_1 =>
     intro hb11; exfalso; simp at hb11
    intro hb11; refine SW.skip ?_; refine hK11 _ ?_; refine SW.ra ?_; refine SW.ret ?_; simp [Ex.then, Ex.ib]
   rotate_right
   case' _ =>
    intro hb2; refine SW.ra ?_; refine SW.ret ?_; simp [Ex.then, Ex.ib]
  rotate_right
  case' _ =>
   intro hb1; refine SW.ra ?_; refine SW.ret ?_; simp [Ex.then, Ex.ib]
set_option maxRecDepth 10000 in
theorem law_wakeN (a : Prog) (b : Eng) (ch wg cas wv v : Int) (ok : Bool) (fa : a.fit) (fb : b.fit) (hS : a.ok → b.ok → HK.Fn Tryz.prog 10 [.agg a.fr, .agg b.fr, .int .i64 ch, .agg [.int .i64 wg, .int .i64 cas, .int .i64 wv], .int .i64 v, .bool ok] (.tup [.agg [.nil, .nil, .nil], .bool false])) (hI : a.ok → b.ok → HK.Fn Tryz.prog 14 [.agg a.fr, .agg b.fr, .int .i64 ch, .agg [.int .i64 wg, .int .i64 cas, .int .i64 wv], .int .i64 v, .bool ok] (.tup [.agg [.nil, .nil, .nil], .bool false])) : Fn Tryz.prog 3 [.agg a.fr, .agg b.fr, .int .i64 ch, .agg [.int .i64 wg, .int .i64 cas, .int .i64 wv], .int .i64 v, .bool ok] (.bool true) := by
  refine Fn.intro Tryz.func3 (by decide) rfl (rs := [.tmp 12]) rfl Tryz.ntmps3 (by simp) ?_; have q1 := szR_cases a.sz 1048576
  have q2 := szR_cases b.sz (szR a.sz 1048576)
  have qt := Prog.tw_le a
  refine SW.ra ?_; refine SW.ra ?_; refine SW.rg fun K hK => ?_; simp -implicitDefEqProofs; iterate 2 (try refine ⟨by omega, ?_⟩)
  refine CallK.fzE (szProg_ok a 1048576 fa (by omega) (by omega)) (by simp) ?_; simp -implicitDefEqProofs; repeat refine ⟨by omega, ?_⟩
  refine hK _ ?_; clear hK K; refine SW.seqK fun K1 hK1 => ?_; refine SW.ra ?_; refine SW.cond _ rfl (by simp) ?_ ?_
  case' refine_2 =>
   intro hb1; have n1 : 0 ≤ szR a.sz 1048576 := by simp at hb1; omega
   have ha : a.ok := Prog.sz_ok (by omega)
   have hW : a.tw ≤ 2 ^ 30 := by omega
   have hl0 : a.caps.length ≤ 2 ^ 30 := by have := ha.1; omega
   have hl1 : a.sels.length ≤ 2 ^ 30 := by have := ha.2.1; omega
   have hl2 : a.procs.length ≤ 2 ^ 30 := by have := ha.2.2.2.1; omega
   refine SW.skip ?_; refine hK1 _ ?_; refine SW.rg fun K hK => ?_; simp -implicitDefEqProofs; iterate 2 (try refine ⟨by omega, ?_⟩)
   refine CallK.fzE (szEng_ok b (szR a.sz 1048576) fb (by omega) (by omega)) (by simp) ?_; simp -implicitDefEqProofs; repeat refine ⟨by omega, ?_⟩
   refine hK _ ?_; clear hK K; refine SW.seqK fun K2 hK2 => ?_; refine SW.ra ?_; refine SW.cond _ rfl (by simp) ?_ ?_
   case' refine_2 =>
    intro hb2; have n2 : 0 ≤ szR b.sz (szR a.sz 1048576) := by simp at hb2; omega
    have hb : b.ok := Eng.sz_ok (by omega)
    have hbz : b.sz ≤ 1048576 := by omega
    have hWb : b.tw ≤ 2 ^ 30 := by have := Eng.tw_le b; omega
    have hB0 : b.gs.length ≤ 2 ^ 30 := by have := hb.1; omega
    have hB1 : b.chans.length ≤ 2 ^ 30 := by have := hb.2.2.1; omega
    have hB2 : b.mus.length ≤ 2 ^ 30 := by have := hb.2.2.2.2.1; omega
    refine SW.skip ?_; refine hK2 _ ?_
    refine SW.drawWK mixed [(0, false), (1, false), (2, false), (3, false), (4, false), (5, false), (6, false), (7, false), (8, false), (9, false), (10, false), (11, false), (12, false), (13, true)] 14 12 [.q [(15, false)]] (by kernel_rfl) rfl fun K hK => ?_
    simp -implicitDefEqProofs; iterate 2 (try refine ⟨by omega, ?_⟩)
    first
      | refine CallQ.fzE (toProg_ok a ha) (by simp) ?_
      | refine CallK.fzE (toProg_ok a ha) (by simp) ?_
    simp -implicitDefEqProofs; iterate 2 (try refine ⟨by omega, ?_⟩)
    first
      | refine CallQ.fzE (toEng_ok b hb) (by simp) ?_
      | refine CallK.fzE (toEng_ok b hb) (by simp) ?_
    simp -implicitDefEqProofs; iterate 2 (try refine ⟨by omega, ?_⟩)
    first
      | refine CallQ.fz (toWaiter_ok3 wg cas wv) ?_
      | refine CallK.fz (toWaiter_ok3 wg cas wv) ?_
    simp -implicitDefEqProofs; iterate 2 (try refine ⟨by omega, ?_⟩)
    first
      | refine CallQ.fzE (hS ha hb) (by simp) ?_
      | refine CallK.fzE (hS ha hb) (by simp) ?_
    simp -implicitDefEqProofs; repeat refine ⟨by omega, ?_⟩
    refine hK _ ?_; clear hK K; refine SW.rg fun K hK => ?_; simp -implicitDefEqProofs; iterate 2 (try refine ⟨by omega, ?_⟩)
    refine CallK.imE (toProg_ok a ha) (by simp) (Prog_oI a) ?_; simp -implicitDefEqProofs; repeat refine ⟨by omega, ?_⟩
    refine hK _ ?_; clear hK K; refine SW.rg fun K hK => ?_; simp -implicitDefEqProofs; iterate 2 (try refine ⟨by omega, ?_⟩)
    refine CallK.imE (toEng_ok b hb) (by simp) (Eng_oI b) ?_; simp -implicitDefEqProofs; repeat refine ⟨by omega, ?_⟩
    refine hK _ ?_; clear hK K
    refine SW.drawWK mixed [(0, false), (1, false), (2, false), (3, false), (4, false), (5, false), (6, false), (7, false), (8, false), (9, false), (10, false), (11, true)] 12 10 [.q [(13, false)]] (by kernel_rfl) rfl fun K hK => ?_
    simp -implicitDefEqProofs; iterate 2 (try refine ⟨by omega, ?_⟩)
    first
      | refine CallQ.fz (toWaiter_ok3 wg cas wv) ?_
      | refine CallK.fz (toWaiter_ok3 wg cas wv) ?_
    simp -implicitDefEqProofs; iterate 2 (try refine ⟨by omega, ?_⟩)
    first
      | refine CallQ.fzE (hI ha hb) (by simp) ?_
      | refine CallK.fzE (hI ha hb) (by simp) ?_
    simp -implicitDefEqProofs; repeat refine ⟨by omega, ?_⟩
    refine hK _ ?_; clear hK K; refine SW.seqK fun K3 hK3 => ?_; refine SW.rg fun K hK => ?_; simp -implicitDefEqProofs; iterate 2 (try refine ⟨by omega, ?_⟩)
    refine CallK.fzE (eqEng_nil) (by simp) ?_; simp -implicitDefEqProofs; repeat refine ⟨by omega, ?_⟩
    refine hK _ ?_; clear hK K; refine SW.cond _ rfl (by simp) ?_ ?_
    case' refine_1 =>
     intro hb3; exfalso; simp at hb3
    intro hb3; refine SW.skip ?_; refine hK3 _ ?_; refine SW.seqK fun K4 hK4 => ?_; refine SW.drawK mixed [.q [(0, false), (1, false), (2, false), (3, false), (4, false)]] (by kernel_rfl) rfl fun K hK => ?_; simp -implicitDefEqProofs
    iterate 2 (try refine ⟨by omega, ?_⟩)
    first
      | refine CallQ.fzE (toProg_ok a ha) (by simp) ?_
      | refine CallK.fzE (toProg_ok a ha) (by simp) ?_
    simp -implicitDefEqProofs; iterate 2 (try refine ⟨by omega, ?_⟩)
    refine CallQ.fzE (eqProg_ok a ha) (by simp) ?_; simp -implicitDefEqProofs; repeat refine ⟨by omega, ?_⟩
    refine hK _ ?_; clear hK K; refine SW.cond _ rfl (by simp) ?_ ?_
    case' refine_1 =>
     intro hb4; exfalso; simp at hb4
    intro hb4; refine SW.skip ?_; refine hK4 _ ?_; refine SW.seqK fun K5 hK5 => ?_; refine SW.drawK mixed [.q [(0, false), (1, false), (2, false), (3, false), (4, false)]] (by kernel_rfl) rfl fun K hK => ?_; simp -implicitDefEqProofs
    iterate 2 (try refine ⟨by omega, ?_⟩)
    first
      | refine CallQ.fzE (toEng_ok b hb) (by simp) ?_
      | refine CallK.fzE (toEng_ok b hb) (by simp) ?_
    simp -implicitDefEqProofs; iterate 2 (try refine ⟨by omega, ?_⟩)
    refine CallQ.fzE (eqEng_ok b hb) (by simp) ?_; simp -implicitDefEqProofs; repeat refine ⟨by omega, ?_⟩
    refine hK _ ?_; clear hK K; refine SW.cond _ rfl (by simp) ?_ ?_
    case' refine_1 =>
     intro hb5; exfalso; simp at hb5
    intro hb5; refine SW.skip ?_; refine hK5 _ ?_; refine SW.ra ?_; refine SW.rg fun K hK => ?_; simp -implicitDefEqProofs; iterate 2 (try refine ⟨by omega, ?_⟩)
    refine CallS.mono (mark_Prog a 1 _ 4 5 6 _ rfl (by simp) _ rfl (by simp) _ rfl (by simp) (by simp) hW hl0 hl1 hl2 (by omega) (by omega)) ?_
    rintro o h' ⟨rfl, m1, m2, rfl⟩
    simp -implicitDefEqProofs; repeat refine ⟨by omega, ?_⟩
    refine hK _ ?_; clear hK K; refine SW.rg fun K hK => ?_; simp -implicitDefEqProofs; iterate 2 (try refine ⟨by omega, ?_⟩)
    refine CallS.mono (markX_Eng b (1 + (a.tw : Int)) _ 8 9 10 (by simp) rfl rfl rfl hWb hB0 hB1 hB2 (by omega) (by omega)) ?_
    rintro o h' ⟨rfl, rfl⟩
    simp -implicitDefEqProofs; repeat refine ⟨by omega, ?_⟩
    refine hK _ ?_; clear hK K; refine SW.seqK fun K6 hK6 => ?_; refine SW.rg fun K hK => ?_; simp -implicitDefEqProofs; iterate 2 (try refine ⟨by omega, ?_⟩)
    refine CallG.fzE (by simp) (fun _ => eqEng_nil) (by simp) ?_; simp -implicitDefEqProofs; repeat refine ⟨by omega, ?_⟩
    refine hK _ ?_; clear hK K; refine SW.cond _ rfl (by simp) ?_ ?_
    case' refine_1 =>
     intro hb6; exfalso; simp at hb6; omega
    intro hb6; refine SW.skip ?_; refine hK6 _ ?_; refine SW.ra ?_; refine SW.rg fun K hK => ?_; simp -implicitDefEqProofs; iterate 2 (try refine ⟨by omega, ?_⟩)
    refine CallS.mono (mark_Eng_nil _ 1) ?_
    rintro o h' ⟨rfl, rfl⟩
    simp -implicitDefEqProofs; repeat refine ⟨by omega, ?_⟩
    refine hK _ ?_; clear hK K; refine SW.ra ?_; refine SW.rg fun K hK => ?_; simp -implicitDefEqProofs; iterate 2 (try refine ⟨by omega, ?_⟩)
    refine CallK.fzE (held_Eng_nil) (by simp) ?_; simp -implicitDefEqProofs; repeat refine ⟨by omega, ?_⟩
    refine hK _ ?_; clear hK K; refine SW.seqK fun K7 hK7 => ?_; refine SW.ra ?_; refine SW.cond _ rfl (by simp) ?_ ?_
    case' refine_1 =>
     intro hb7; exfalso; simp at hb7
    intro hb7; refine SW.skip ?_; refine hK7 _ ?_; refine SW.seqK fun K8 hK8 => ?_; refine SW.ra ?_; refine SW.cond _ rfl (by simp) ?_ ?_
    case' refine_1 =>
     intro hb8; exfalso; simp at hb8
    intro hb8; refine SW.skip ?_; refine hK8 _ ?_
    refine SW.drawWK mixed [(0, false), (1, false), (2, false), (3, false), (4, false), (5, false), (6, false), (7, false), (8, false), (9, false), (10, false), (11, false), (12, false), (13, true)] 14 12 [.q [(15, false)]] (by kernel_rfl) rfl fun K hK => ?_
    simp -implicitDefEqProofs; iterate 2 (try refine ⟨by omega, ?_⟩)
    first
      | refine CallQ.fzE (toProg_ok a ha) (by simp) ?_
      | refine CallK.fzE (toProg_ok a ha) (by simp) ?_
    simp -implicitDefEqProofs; iterate 2 (try refine ⟨by omega, ?_⟩)
    first
      | refine CallQ.fzE (toEng_ok b hb) (by simp) ?_
      | refine CallK.fzE (toEng_ok b hb) (by simp) ?_
    simp -implicitDefEqProofs; iterate 2 (try refine ⟨by omega, ?_⟩)
    first
      | refine CallQ.fz (toWaiter_ok3 wg cas wv) ?_
      | refine CallK.fz (toWaiter_ok3 wg cas wv) ?_
    simp -implicitDefEqProofs; iterate 2 (try refine ⟨by omega, ?_⟩)
    first
      | refine CallQ.fzE (hI ha hb) (by simp) ?_
      | refine CallK.fzE (hI ha hb) (by simp) ?_
    simp -implicitDefEqProofs; repeat refine ⟨by omega, ?_⟩
    refine hK _ ?_; clear hK K; refine SW.seqK fun K9 hK9 => ?_; refine SW.rg fun K hK => ?_; simp -implicitDefEqProofs; iterate 2 (try refine ⟨by omega, ?_⟩)
    refine CallK.fzE (eqEng_nil) (by simp) ?_; simp -implicitDefEqProofs; repeat refine ⟨by omega, ?_⟩
    refine hK _ ?_; clear hK K; refine SW.cond _ rfl (by simp) ?_ ?_
    case' refine_1 =>
     intro hb9; exfalso; simp at hb9
    intro hb9; refine SW.skip ?_; refine hK9 _ ?_; refine SW.ra ?_; refine SW.rg fun K hK => ?_; simp -implicitDefEqProofs; iterate 2 (try refine ⟨by omega, ?_⟩)
    refine CallK.fzE (held_Eng_nil) (by simp) ?_; simp -implicitDefEqProofs; repeat refine ⟨by omega, ?_⟩
    refine hK _ ?_; clear hK K; refine SW.seqK fun K10 hK10 => ?_; refine SW.ra ?_; refine SW.cond _ rfl (by simp) ?_ ?_
    case' refine_1 =>
     intro hb10; exfalso; simp at hb10
    intro hb10; refine SW.skip ?_; refine hK10 _ ?_; refine SW.seqK fun K11 hK11 => ?_; refine SW.ra ?_; refine SW.cond _ rfl (by simp) ?_ ?_
    case' refine_1 =>
     intro hb11; exfalso; simp at hb11
    intro hb11; refine SW.skip ?_; refine hK11 _ ?_; refine SW.ra ?_; refine SW.ret ?_; simp [Ex.then, Ex.ib]
   rotate_right
   case' _ =>
    intro hb2; refine SW.ra ?_; refine SW.ret ?_; simp [Ex.then, Ex.ib]
  rotate_right
  case' _ =>
   intro hb1; refine SW.ra ?_; refine SW.ret ?_; simp [Ex.then, Ex.ib]
end HT
