import Derived.Test.YtdhoappjadnhcaaGreatHCA5
import Derived.Test.YtdhoappjadnhcaaGreatHK36
/-
  My own texts (road H): HCA6.
-/
set_option maxHeartbeats 8000000
set_option linter.unusedSimpArgs false
set_option linter.unusedVariables false
namespace HT
open Go Go.Proofs HK
def selCase (p : Prog) (i : Instr) (k : Int) : Case := ((p.sels[i.a.toNat]?).bind fun s => s.cases[k.toNat]?).getD ⟨false, 0, 0, 0, 0⟩
def wkCase (p : Prog) (g : Gor) (snd : Bool) (cas : Int) : Case := if 0 ≤ cas then selCase p (atI p g) cas else ⟨snd, 0, (atI p g).b, (atI p g).c, g.pc + 1⟩
def wkPick (p : Prog) (g : Gor) (cas : Int) : Gor := if 0 ≤ cas then tell { g with state := 1 } ⟨4, (atI p g).a, cas, false⟩ else { g with state := 1 }
def wakeG (p : Prog) (g : Gor) (snd : Bool) (obj cas wv v : Int) (ok : Bool) : Gor :=
  if snd && !ok then over (wkPick p g cas) 1
  else if snd then { tell (wkPick p g cas) ⟨1, obj, wv, false⟩ with pc := (wkCase p g snd cas).to }
  else { gotG (wkPick p g cas) obj v ok (wkCase p g snd cas).reg (wkCase p g snd cas).ok with pc := (wkCase p g snd cas).to }
def casIn (p : Prog) (g : Gor) (cas : Int) : Prop := 0 ≤ cas → 0 ≤ (atI p g).a ∧ ∃ s c, p.sels[(atI p g).a.toNat]? = some s ∧ s.cases[cas.toNat]? = some c
theorem wkPick_all (p : Prog) (g : Gor) (cas : Int) : (wkPick p g cas).regs = g.regs ∧ (wkPick p g cas).trace.length ≤ g.trace.length + 1 ∧ (wkPick p g cas).pc = g.pc := by
  unfold wkPick; split <;> simp [tell]
theorem wake_i (p : Prog) (e : Eng) (k : Nat) (g : Gor) (h : p.ok) (hgs : e.gs.length ≤ 2 ^ 20) (h1 : e.chans.length ≤ 1048576) (hco : ∀ c ∈ e.chans, c.buf.length ≤ 2 ^ 28 ∧ c.sends.length ≤ 2 ^ 28 ∧ c.recvs.length ≤ 2 ^ 28) (hg : e.gs[k]? = some g) (ha : atOk p g) (hl : g.regs.length ≤ 2 ^ 27) (ht : g.trace.length ≤ 2 ^ 27) (mx : Bool) (ob : Int) (sn : Bool) (cs vv v : Int) (ok : Bool) (hci : casIn p g cs) : CallS Tryz.prog 61 [.agg p.fr, .agg [.sl 0 0 e.gs.length, .sl 1 0 e.chans.length, .sl 2 0 e.mus.length], .agg [.bool mx, .int .i64 ob, .bool sn, .int .i64 (k : Int), .int .i64 cs, .int .i64 vv], .int .i64 v, .bool ok] ([some ⟨5, GorSo e.gs⟩, some ⟨5, ChanSo e.chans⟩, some ⟨2, MutexSo e.mus⟩]) (fun o h' => o = .tup [] ∧ h' = [some ⟨5, GorSo (e.gs.set k (wakeG p g sn ob cs vv v ok))⟩, some ⟨5, ChanSo (e.chans.map (freeC (k : Int)))⟩, some ⟨2, MutexSo e.mus⟩]) := by
  refine CallS.intro Tryz.func61 (by decide) rfl (rs := []) rfl Tryz.ntmps61 (by simp) ?_; have hkl := (List.getElem?_eq_some_iff.1 hg).1
  have hx0 : (0 : Int) ≤ k := by omega
  obtain ⟨d, hd⟩ : ∃ d, (wakeG p g sn ob cs vv v ok) = d := ⟨_, rfl⟩
  rw [hd]; refine SW.wkE ?_; have hall := wkPick_all p g cs
  obtain ⟨_, hpc0, xp, hxp, hpcl⟩ := id ha; have hxc : xp.code.length ≤ 1048576 := h.2.2.2.2 xp (List.mem_of_getElem? hxp)
  have hw := wrapI (g.pc + 1) (by omega) (by omega)
  have hss : ∀ v : List AV, ((GorSo e.gs).set k v)[k]? = some v := fun v => List.getElem?_set_self (by simpa using hkl)
  refine SW.rb ?_; refine SW.rg fun K hK => ?_; simp -implicitDefEqProofs; repeat (refine And.intro (by clear hK; first | omega | (intros; simp_all; done) | (intros; grind)) ?_)
  refine CallS.mono (frE (ext := []) (free_i e (k : Int) h1 hco) (by simp [renN]) (by simp [lowN]) (by intro n; simp) (by simp [lowN]) (by simp [nfz]) (by intro n; simp [renB]) (by simp [nfzB, lowN, nfz]) _) ?_
  rintro o h' ⟨rfl, rfl⟩
  simp -implicitDefEqProofs; repeat (refine And.intro (by clear hK; first | omega | (intros; simp_all; done) | (intros; grind)) ?_)
  refine hK _ ?_; clear hK K
  refine SW.wk (Wk.unGor (env' := [(5, .ptr 3 0 0), (6, .ptr 4 0 0), (7, .ptr 5 0 0), (3, .int .i64 v), (4, .bool ok)]) (h' := [some ⟨5, ((GorSo e.gs)).set k [.int .i64 g.proc, .int .i64 g.pc, .sl 6 0 g.regs.length, .int .i64 g.state, .sl 7 0 g.trace.length]⟩, some ⟨5, ChanSo (e.chans.map (freeC (k : Int)))⟩, some ⟨2, MutexSo e.mus⟩, some ⟨4, [p.fr]⟩, some ⟨3, [[.sl 0 0 e.gs.length, .sl 1 0 e.chans.length, .sl 2 0 e.mus.length]]⟩, some ⟨6, [[.bool mx, .int .i64 ob, .bool sn, .int .i64 (k : Int), .int .i64 cs, .int .i64 vv]]⟩, some ⟨1, IntS g.regs⟩, some ⟨4, ItemS g.trace⟩]) (p := 0) (k := k) (es := (GorSo e.gs)) (d := g) rfl (by simp [hg]) (by simp [subE]) (by simp [subE]) rfl) ?_
  all_goals (
   refine SW.rg fun K hK => ?_; simp -implicitDefEqProofs [hss, hkl]; repeat (refine And.intro (by clear hK; first | omega | (intros; simp_all; done) | (intros; grind)) ?_)
   refine hK _ ?_; clear hK K; refine SW.rb ?_; refine SW.rg fun K hK => ?_; simp -implicitDefEqProofs; repeat (refine And.intro (by clear hK; first | omega | (intros; simp_all; done) | (intros; grind)) ?_)
   first
     | refine CallQ.fzE (show HK.Fn Tryz.prog 83 [.agg p.fr, .agg (⟨g.proc, g.pc, g.regs, 1, g.trace⟩ : Gor).fr] (.agg (atI p g).cl) from instr_i p (⟨g.proc, g.pc, g.regs, 1, g.trace⟩ : Gor) ha) (by simp) ?_
     | refine CallK.fzE (show HK.Fn Tryz.prog 83 [.agg p.fr, .agg (⟨g.proc, g.pc, g.regs, 1, g.trace⟩ : Gor).fr] (.agg (atI p g).cl) from instr_i p (⟨g.proc, g.pc, g.regs, 1, g.trace⟩ : Gor) ha) (by simp) ?_
   simp -implicitDefEqProofs; repeat (refine And.intro (by clear hK; first | omega | (intros; simp_all; done) | (intros; grind)) ?_)
   refine hK _ ?_; clear hK K; refine SW.drawK mixed [.q [(0, false), (1, false), (2, false), (3, false), (4, false), (5, false), (6, false), (7, false), (8, false), (9, false)]] (by kernel_rfl) rfl fun K hK => ?_
   simp -implicitDefEqProofs [hw]; repeat (refine And.intro (by clear hK; first | omega | (intros; simp_all; done) | (intros; grind)) ?_)
   refine hK _ ?_; clear hK K; refine SW.seqK fun K1 hK1 => ?_; refine SW.rb ?_; refine SW.cond _ rfl (by simp) ?_ ?_
   case' refine_2 =>
    intro hb1; have hcs : ¬ 0 ≤ cs := by simpa using hb1
    have hpk : (wkPick p g cs) = (⟨g.proc, g.pc, g.regs, 1, g.trace⟩ : Gor) := by rw [wkPick, if_neg hcs]
    have hcw : (wkCase p g sn cs) = ⟨sn, 0, (atI p g).b, (atI p g).c, g.pc + 1⟩ := by rw [wkCase, if_neg hcs]
    refine SW.skip ?_
   rotate_right
   case' _ =>
    intro hb1; have hcs : 0 ≤ cs := by simpa using hb1
    obtain ⟨hA, s, c, hs, hcc⟩ := hci hcs; have hpk : True := trivial
    have hpkT : (wkPick p g cs) = tell (⟨g.proc, g.pc, g.regs, 1, g.trace⟩ : Gor) ⟨4, (atI p g).a, cs, false⟩ := by rw [wkPick, if_pos hcs]
    have hcw : (wkCase p g sn cs) = c := by rw [wkCase, if_pos hcs, selCase, hs]; simp [hcc]
    have hAl := (List.getElem?_eq_some_iff.1 hs).1
    have hCl := (List.getElem?_eq_some_iff.1 hcc).1
    have hsE : ∀ q, p.sels[(atI p g).a.toNat]'q = s := fun q => (List.getElem?_eq_some_iff.1 hs).2
    have hcE : ∀ q, s.cases[cs.toNat]'q = c := fun q => (List.getElem?_eq_some_iff.1 hcc).2
    have hAl2 : (atI p g).a < (p.sels.length : Int) := by omega
    have hCl2 : cs < (s.cases.length : Int) := by omega
    refine SW.drawK mixed [.q [(0, false), (1, false), (2, false), (3, false), (4, false), (5, false), (6, false), (7, false), (8, false), (9, false), (10, false), (11, false), (12, true)], .b 13] (by kernel_rfl) rfl fun K hK => ?_
    simp -implicitDefEqProofs [hA, hAl, hAl2, hs, hsE, hcs, hCl, hCl2, hcc, hcE]; repeat (refine And.intro (by clear hK; first | omega | (intros; simp_all; done) | (intros; grind)) ?_)
    refine hK _ ?_; clear hK K; refine SW.drawK mixed [.q [(0, false), (1, false), (2, false), (3, false), (4, false), (5, false), (6, false), (7, false), (8, false)]] (by kernel_rfl) rfl fun K hK => ?_; simp -implicitDefEqProofs
    repeat (refine And.intro (by clear hK; first | omega | (intros; simp_all; done) | (intros; grind)) ?_)
    refine hK _ ?_; clear hK K; refine SW.regionE fun K hK => ?_; simp -implicitDefEqProofs; repeat (refine And.intro (by clear hK; first | omega | (intros; simp_all; done) | (intros; grind)) ?_)
    refine CallK.imE (show HK.Fn Tryz.prog 132 [.agg (⟨g.proc, g.pc, g.regs, 1, g.trace⟩ : Gor).fr, .agg (⟨4, (atI p g).a, cs, false⟩ : Item).cl] (.agg (wkPick p g cs).ow) by rw [hpkT]; exact tell_i (⟨g.proc, g.pc, g.regs, 1, g.trace⟩ : Gor) ⟨4, (atI p g).a, cs, false⟩ (by simp only []; omega) (by simp only []; omega)) (by simp) (Gor_oI _) ?_
    simp -implicitDefEqProofs; repeat (refine And.intro (by clear hK; first | omega | (intros; simp_all; done) | (intros; grind)) ?_)
    refine hK _ ?_; clear hK K
   all_goals (
    refine hK1 _ ?_; refine SW.seqK fun K2 hK2 => ?_; refine SW.block ?_; refine SW.rb ?_; refine SW.cond _ rfl (by simp) ?_ ?_
    case' refine_2 =>
     intro hb2; refine SW.rb ?_; refine SW.cond _ rfl (by simp) ?_ ?_
     case' refine_2 =>
      intro hb3; have hsn : sn = false := by simpa using hb3
      have hWI : d = ⟨(gotG (wkPick p g cs) ob v ok (wkCase p g sn cs).reg (wkCase p g sn cs).ok).proc, (wkCase p g sn cs).to, (gotG (wkPick p g cs) ob v ok (wkCase p g sn cs).reg (wkCase p g sn cs).ok).regs, (gotG (wkPick p g cs) ob v ok (wkCase p g sn cs).reg (wkCase p g sn cs).ok).state, (gotG (wkPick p g cs) ob v ok (wkCase p g sn cs).reg (wkCase p g sn cs).ok).trace⟩ := by rw [← hd, wakeG, if_neg (by simp [hsn]), if_neg (by simp [hsn])]
      refine SW.regionE fun K hK => ?_; simp -implicitDefEqProofs; repeat (refine And.intro (by clear hK; first | omega | (intros; simp_all; done) | (intros; grind)) ?_)
      refine CallK.imE (got_i (wkPick p g cs) ob v ok (wkCase p g sn cs).reg (wkCase p g sn cs).ok (by rw [hall.1]; omega) (by omega)) (by simp [hpk, hcw]) (Gor_oI _) ?_; simp -implicitDefEqProofs
      repeat (refine And.intro (by clear hK; first | omega | (intros; simp_all; done) | (intros; grind)) ?_)
      refine hK _ ?_; clear hK K
     rotate_right
     case' _ =>
      intro hb3; have hsn : sn = true := by simpa using hb3
      have hWI : d = ⟨(tell (wkPick p g cs) ⟨1, ob, vv, false⟩).proc, (wkCase p g sn cs).to, (tell (wkPick p g cs) ⟨1, ob, vv, false⟩).regs, (tell (wkPick p g cs) ⟨1, ob, vv, false⟩).state, (tell (wkPick p g cs) ⟨1, ob, vv, false⟩).trace⟩ := by rw [← hd, wakeG, if_neg (by simpa using hb2), if_pos hsn]
      refine SW.regionE fun K hK => ?_; simp -implicitDefEqProofs; repeat (refine And.intro (by clear hK; first | omega | (intros; simp_all; done) | (intros; grind)) ?_)
      refine CallK.imE (gave_i (wkPick p g cs) ob vv (by rw [hall.1]; omega) (by omega)) (by simp [hpk]) (Gor_oI _) ?_; simp -implicitDefEqProofs
      repeat (refine And.intro (by clear hK; first | omega | (intros; simp_all; done) | (intros; grind)) ?_)
      refine hK _ ?_; clear hK K
    rotate_right
    case' _ =>
     intro hb2; have hWI : d = over (wkPick p g cs) 1 := by rw [← hd, wakeG, if_pos (by simpa using hb2)]
     refine SW.rg fun K hK => ?_; simp -implicitDefEqProofs; repeat (refine And.intro (by clear hK; first | omega | (intros; simp_all; done) | (intros; grind)) ?_)
     refine CallK.imE (over_i (wkPick p g cs) 1 (by rw [hall.1]; omega) (by omega)) (by simp [hpk]) (Gor_oI _) ?_; simp -implicitDefEqProofs
     repeat (refine And.intro (by clear hK; first | omega | (intros; simp_all; done) | (intros; grind)) ?_)
     refine hK _ ?_; clear hK K; refine SW.eb ?_
    all_goals (
     refine hK2 _ ?_; refine SW.rb ?_; refine SW.regionE fun K hK => ?_; simp -implicitDefEqProofs [hss, hkl, splice, List.set_set]; repeat (refine And.intro (by clear hK; first | omega | (intros; simp_all; done) | (intros; grind)) ?_)
     refine hK _ ?_; clear hK K; refine ⟨⟨[], [some ⟨5, GorSo (e.gs.set k d)⟩, some ⟨5, ChanSo (e.chans.map (freeC (k : Int)))⟩, some ⟨2, MutexSo e.mus⟩]⟩, ?_, ?_⟩
     · first
       | (refine Wk.trans (Wk.ren [0, 1, 2, 10, 11] (env' := []) (h' := [some ⟨5, ((GorSo e.gs).set k [.int .i64 d.proc, .int .i64 d.pc, .sl 3 0 d.regs.length, .int .i64 d.state, .sl 4 0 d.trace.length])⟩, some ⟨5, ChanSo (e.chans.map (freeC (k : Int)))⟩, some ⟨2, MutexSo e.mus⟩, some ⟨1, IntS d.regs⟩, some ⟨4, ItemS d.trace⟩]) ?_ ?_ ?_ ?_ ?_ ?_ ?_ ?_) ?_; (· simp); (· intro j hj; match j, hj with | 0, _ => rfl | 1, _ => rfl | 2, _ => rfl); (· simp); (· simp); (· simp [renE]); (· simp [renH, List.set_set, hWI, hcw, hw]; done); (· simp [lowE]); (· simp [lowN, lowEs_set]); exact Wk.foGor (env' := []) (h := [none, some ⟨5, ChanSo (e.chans.map (freeC (k : Int)))⟩, some ⟨2, MutexSo e.mus⟩]) (h' := [some ⟨5, (GorSo (e.gs.set k d))⟩, some ⟨5, ChanSo (e.chans.map (freeC (k : Int)))⟩, some ⟨2, MutexSo e.mus⟩]) (p := 0) (k := k) (es := ((GorSo e.gs).set k [.int .i64 d.proc, .int .i64 d.pc, .sl 3 0 d.regs.length, .int .i64 d.state, .sl 4 0 d.trace.length])) (es' := (GorSo (e.gs.set k d))) (d := d) rfl (by simp) (by rw [List.getElem?_set_self (by simpa using hkl)]; rfl) (by rw [List.set_set, GorSo_setL]) (by simp) (by simp) (by simp [subE]) (by simp [subE]) (by simp [lowE, lowN]) (by simp [lowN]) rfl)
       | (refine Wk.trans (Wk.ren [0, 1, 2, 13, 14] (env' := []) (h' := [some ⟨5, ((GorSo e.gs).set k [.int .i64 d.proc, .int .i64 d.pc, .sl 3 0 d.regs.length, .int .i64 d.state, .sl 4 0 d.trace.length])⟩, some ⟨5, ChanSo (e.chans.map (freeC (k : Int)))⟩, some ⟨2, MutexSo e.mus⟩, some ⟨1, IntS d.regs⟩, some ⟨4, ItemS d.trace⟩]) ?_ ?_ ?_ ?_ ?_ ?_ ?_ ?_) ?_; (· simp); (· intro j hj; match j, hj with | 0, _ => rfl | 1, _ => rfl | 2, _ => rfl); (· simp); (· simp); (· simp [renE]); (· simp [renH, List.set_set, hWI, hcw, hw]; done); (· simp [lowE]); (· simp [lowN, lowEs_set]); exact Wk.foGor (env' := []) (h := [none, some ⟨5, ChanSo (e.chans.map (freeC (k : Int)))⟩, some ⟨2, MutexSo e.mus⟩]) (h' := [some ⟨5, (GorSo (e.gs.set k d))⟩, some ⟨5, ChanSo (e.chans.map (freeC (k : Int)))⟩, some ⟨2, MutexSo e.mus⟩]) (p := 0) (k := k) (es := ((GorSo e.gs).set k [.int .i64 d.proc, .int .i64 d.pc, .sl 3 0 d.regs.length, .int .i64 d.state, .sl 4 0 d.trace.length])) (es' := (GorSo (e.gs.set k d))) (d := d) rfl (by simp) (by rw [List.getElem?_set_self (by simpa using hkl)]; rfl) (by rw [List.set_set, GorSo_setL]) (by simp) (by simp) (by simp [subE]) (by simp [subE]) (by simp [lowE, lowN]) (by simp [lowN]) rfl)
       | fail
     · simp [isRet, resL, tupA])))
def sndS (p : Prog) (g : Gor) (cas : Int) : Bool := if 0 ≤ cas then (selCase p (atI p g) cas).send else (atI p g).op == 8
theorem wake_s (p : Prog) (e : Eng) (k : Nat) (g : Gor) (h : p.ok) (hgs : e.gs.length ≤ 2 ^ 20) (h1 : e.chans.length ≤ 1048576) (hco : ∀ c ∈ e.chans, c.buf.length ≤ 2 ^ 28 ∧ c.sends.length ≤ 2 ^ 28 ∧ c.recvs.length ≤ 2 ^ 28) (hg : e.gs[k]? = some g) (ha : atOk p g) (hl : g.regs.length ≤ 2 ^ 27) (ht : g.trace.length ≤ 2 ^ 27) (ch cs wv v : Int) (ok : Bool) (hci : casIn p g cs) : CallS Tryz.prog 48 [.agg p.fr, .agg [.sl 0 0 e.gs.length, .sl 1 0 e.chans.length, .sl 2 0 e.mus.length], .int .i64 ch, .agg [.int .i64 (k : Int), .int .i64 cs, .int .i64 wv], .int .i64 v, .bool ok] ([some ⟨5, GorSo e.gs⟩, some ⟨5, ChanSo e.chans⟩, some ⟨2, MutexSo e.mus⟩]) (fun o h' => o = .agg [.sl 0 0 e.gs.length, .sl 1 0 e.chans.length, .sl 2 0 e.mus.length] ∧ h' = [some ⟨5, GorSo (e.gs.set k (wakeG p g (sndS p g cs) ch cs wv v ok))⟩, some ⟨5, ChanSo (e.chans.map (freeC (k : Int)))⟩, some ⟨2, MutexSo e.mus⟩, some ⟨3, [[.sl 0 0 e.gs.length, .sl 1 0 e.chans.length, .sl 2 0 e.mus.length]]⟩]) := by
  refine CallS.intro Tryz.func48 (by decide) rfl (rs := [.cell 12 40]) rfl Tryz.ntmps48 (by simp) ?_; have hkl := (List.getElem?_eq_some_iff.1 hg).1
  have hx0 : (0 : Int) ≤ k := by omega
  obtain ⟨d, hd⟩ : ∃ d, (wakeG p g (sndS p g cs) ch cs wv v ok) = d := ⟨_, rfl⟩
  rw [hd]; refine SW.wkE ?_; have hall := wkPick_all p g cs
  obtain ⟨_, hpc0, xp, hxp, hpcl⟩ := id ha; have hxc : xp.code.length ≤ 1048576 := h.2.2.2.2 xp (List.mem_of_getElem? hxp)
  have hw := wrapI (g.pc + 1) (by omega) (by omega)
  have hss : ∀ v : List AV, ((GorSo e.gs).set k v)[k]? = some v := fun v => List.getElem?_set_self (by simpa using hkl)
  refine SW.rb ?_; refine SW.rg fun K hK => ?_; simp -implicitDefEqProofs; repeat (refine And.intro (by clear hK; first | omega | (intros; simp_all; done) | (intros; grind)) ?_)
  refine CallS.mono (frE (ext := [some ⟨3, [[.sl 0 0 e.gs.length, .sl 1 0 e.chans.length, .sl 2 0 e.mus.length]]⟩]) (free_s e (k : Int) h1 hco) (by simp [renN]) (by simp [lowN]) (by intro n; simp) (by simp [lowN]) (by simp [nfz]) (by intro n; simp [renB]) (by simp [nfzB, lowN, nfz]) _) ?_
  rintro o h' ⟨rfl, rfl⟩
  simp -implicitDefEqProofs; repeat (refine And.intro (by clear hK; first | omega | (intros; simp_all; done) | (intros; grind)) ?_)
  refine hK _ ?_; clear hK K
  refine SW.wk (Wk.unGor (env' := [(6, .ptr 3 0 0), (7, .ptr 4 0 0), (9, .ptr 5 0 0), (12, .ptr 6 0 0), (2, .int .i64 ch), (4, .int .i64 v), (5, .bool ok)]) (h' := [some ⟨5, ((GorSo e.gs)).set k [.int .i64 g.proc, .int .i64 g.pc, .sl 8 0 g.regs.length, .int .i64 g.state, .sl 9 0 g.trace.length]⟩, some ⟨5, ChanSo (e.chans.map (freeC (k : Int)))⟩, some ⟨2, MutexSo e.mus⟩, some ⟨4, [p.fr]⟩, some ⟨3, [[.sl 0 0 e.gs.length, .sl 1 0 e.chans.length, .sl 2 0 e.mus.length]]⟩, some ⟨3, [[.int .i64 (k : Int), .int .i64 cs, .int .i64 wv]]⟩, some ⟨3, [[.nil, .nil, .nil]]⟩, some ⟨3, [[.sl 0 0 e.gs.length, .sl 1 0 e.chans.length, .sl 2 0 e.mus.length]]⟩, some ⟨1, IntS g.regs⟩, some ⟨4, ItemS g.trace⟩]) (p := 0) (k := k) (es := (GorSo e.gs)) (d := g) rfl (by simp [hg]) (by simp [subE]) (by simp [subE]) rfl) ?_
  all_goals (
   refine SW.rg fun K hK => ?_; simp -implicitDefEqProofs [hss, hkl]; repeat (refine And.intro (by clear hK; first | omega | (intros; simp_all; done) | (intros; grind)) ?_)
   refine hK _ ?_; clear hK K; refine SW.rg fun K hK => ?_; simp -implicitDefEqProofs; repeat (refine And.intro (by clear hK; first | omega | (intros; simp_all; done) | (intros; grind)) ?_)
   first
     | refine CallQ.fzE (instr_s p g ha) (by simp) ?_
     | refine CallK.fzE (instr_s p g ha) (by simp) ?_
   simp -implicitDefEqProofs; repeat (refine And.intro (by clear hK; first | omega | (intros; simp_all; done) | (intros; grind)) ?_)
   refine hK _ ?_; clear hK K; refine SW.rg fun K hK => ?_; simp -implicitDefEqProofs [hw]; repeat (refine And.intro (by clear hK; first | omega | (intros; simp_all; done) | (intros; grind)) ?_)
   refine hK _ ?_; clear hK K; refine SW.seqK fun K1 hK1 => ?_; refine SW.rb ?_; refine SW.cond _ rfl (by simp) ?_ ?_
   case' refine_2 =>
    intro hb1; have hcs : ¬ 0 ≤ cs := by simpa using hb1
    have hpk : (wkPick p g cs) = (⟨g.proc, g.pc, g.regs, 1, g.trace⟩ : Gor) := by rw [wkPick, if_neg hcs]
    have hsd : (sndS p g cs) = ((atI p g).op == 8) := by rw [sndS, if_neg hcs]
    have hcw : (wkCase p g (sndS p g cs) cs) = ⟨(sndS p g cs), 0, (atI p g).b, (atI p g).c, g.pc + 1⟩ := by rw [wkCase, if_neg hcs]
    refine SW.skip ?_
   rotate_right
   case' _ =>
    intro hb1; have hcs : 0 ≤ cs := by simpa using hb1
    obtain ⟨hA, s, c, hs, hcc⟩ := hci hcs
    have hpk : (wkPick p g cs) = ⟨(tell g (⟨4, (atI p g).a, cs, false⟩ : Item)).proc, (tell g (⟨4, (atI p g).a, cs, false⟩ : Item)).pc, (tell g (⟨4, (atI p g).a, cs, false⟩ : Item)).regs, 1, (tell g (⟨4, (atI p g).a, cs, false⟩ : Item)).trace⟩ := by rw [wkPick, if_pos hcs]; rfl
    have hcw : (wkCase p g (sndS p g cs) cs) = c := by rw [wkCase, if_pos hcs, selCase, hs]; simp [hcc]
    have hsd : (sndS p g cs) = c.send := by rw [sndS, if_pos hcs, selCase, hs]; simp [hcc]
    have hAl := (List.getElem?_eq_some_iff.1 hs).1
    have hCl := (List.getElem?_eq_some_iff.1 hcc).1
    have hsE : ∀ q, p.sels[(atI p g).a.toNat]'q = s := fun q => (List.getElem?_eq_some_iff.1 hs).2
    have hcE : ∀ q, s.cases[cs.toNat]'q = c := fun q => (List.getElem?_eq_some_iff.1 hcc).2
    have hAl2 : (atI p g).a < (p.sels.length : Int) := by omega
    have hCl2 : cs < (s.cases.length : Int) := by omega
    refine SW.drawK mixed [.q [(0, false), (1, false), (2, false), (3, false), (4, false), (5, false), (6, false), (7, false), (8, false), (9, false), (10, false)], .b 11] (by kernel_rfl) rfl fun K hK => ?_
    simp -implicitDefEqProofs [hA, hAl, hAl2, hs, hsE, hcs, hCl, hCl2, hcc, hcE, splice]; repeat (refine And.intro (by clear hK; first | omega | (intros; simp_all; done) | (intros; grind)) ?_)
    refine hK _ ?_; clear hK K; refine SW.regionE fun K hK => ?_; simp -implicitDefEqProofs; repeat (refine And.intro (by clear hK; first | omega | (intros; simp_all; done) | (intros; grind)) ?_)
    refine CallK.imE (tell_s g (⟨4, (atI p g).a, cs, false⟩ : Item) (by omega) (by omega)) (by simp) (Gor_oI _) ?_; simp -implicitDefEqProofs
    repeat (refine And.intro (by clear hK; first | omega | (intros; simp_all; done) | (intros; grind)) ?_)
    refine hK _ ?_; clear hK K
   all_goals (
    refine hK1 _ ?_; refine SW.rb ?_; refine SW.seqK fun K2 hK2 => ?_; refine SW.block ?_; refine SW.rb ?_; refine SW.cond _ rfl (by simp) ?_ ?_
    case' refine_2 =>
     intro hb2; refine SW.rb ?_; refine SW.cond _ rfl (by simp) ?_ ?_
     case' refine_2 =>
      intro hb3; have hsn : (sndS p g cs) = false := by rw [hsd]; simpa using hb3
      have hWI : d = ⟨(gotG (wkPick p g cs) ch v ok (wkCase p g (sndS p g cs) cs).reg (wkCase p g (sndS p g cs) cs).ok).proc, (wkCase p g (sndS p g cs) cs).to, (gotG (wkPick p g cs) ch v ok (wkCase p g (sndS p g cs) cs).reg (wkCase p g (sndS p g cs) cs).ok).regs, (gotG (wkPick p g cs) ch v ok (wkCase p g (sndS p g cs) cs).reg (wkCase p g (sndS p g cs) cs).ok).state, (gotG (wkPick p g cs) ch v ok (wkCase p g (sndS p g cs) cs).reg (wkCase p g (sndS p g cs) cs).ok).trace⟩ := by rw [← hd, wakeG, if_neg (by simp [hsn]), if_neg (by simp [hsn])]
      refine SW.regionE fun K hK => ?_; simp -implicitDefEqProofs; repeat (refine And.intro (by clear hK; first | omega | (intros; simp_all; done) | (intros; grind)) ?_)
      refine CallK.imE (got_s (wkPick p g cs) ch v ok (wkCase p g (sndS p g cs) cs).reg (wkCase p g (sndS p g cs) cs).ok (by rw [hall.1]; omega) (by omega)) (by simp [hpk, hcw]) (Gor_oI _) ?_; simp -implicitDefEqProofs
      repeat (refine And.intro (by clear hK; first | omega | (intros; simp_all; done) | (intros; grind)) ?_)
      refine hK _ ?_; clear hK K
     rotate_right
     case' _ =>
      intro hb3; have hsn : (sndS p g cs) = true := by rw [hsd]; simpa using hb3
      have hWI : d = ⟨(tell (wkPick p g cs) ⟨1, ch, wv, false⟩).proc, (wkCase p g (sndS p g cs) cs).to, (tell (wkPick p g cs) ⟨1, ch, wv, false⟩).regs, (tell (wkPick p g cs) ⟨1, ch, wv, false⟩).state, (tell (wkPick p g cs) ⟨1, ch, wv, false⟩).trace⟩ := by rw [← hd, wakeG, if_neg (by rw [hsd]; simpa using hb2), if_pos hsn]
      refine SW.regionE fun K hK => ?_; simp -implicitDefEqProofs; repeat (refine And.intro (by clear hK; first | omega | (intros; simp_all; done) | (intros; grind)) ?_)
      refine CallK.imE (tell_s (wkPick p g cs) ⟨1, ch, wv, false⟩ (by rw [hall.1]; omega) (by omega)) (by simp [hpk]) (Gor_oI _) ?_; simp -implicitDefEqProofs
      repeat (refine And.intro (by clear hK; first | omega | (intros; simp_all; done) | (intros; grind)) ?_)
      refine hK _ ?_; clear hK K
    rotate_right
    case' _ =>
     intro hb2; have hWI : d = over (wkPick p g cs) 1 := by rw [← hd, wakeG, if_pos (by rw [hsd]; simpa using hb2)]
     refine SW.drawK mixed [.q [(0, false), (1, false), (2, false), (3, false), (4, false), (5, true), (6, false)], .b 7] (by kernel_rfl) rfl fun K hK => ?_; simp -implicitDefEqProofs [hss, hkl, splice, List.set_set]
     repeat (refine And.intro (by clear hK; first | omega | (intros; simp_all; done) | (intros; grind)) ?_)
     refine imQ (over_s (wkPick p g cs) 1 (by rw [hall.1]; omega) (by omega)) (by simp [hpk]) (Gor_oI _) ?_; simp -implicitDefEqProofs [hss, hkl, splice, List.set_set]
     repeat (refine And.intro (by clear hK; first | omega | (intros; simp_all; done) | (intros; grind)) ?_)
     refine hK _ ?_; clear hK K; refine SW.rb ?_; refine SW.ret ?_; try simp only [Ex.then, Ex.ib]
     refine ⟨⟨[(12, .ptr 3 0 0)], [some ⟨5, GorSo (e.gs.set k d)⟩, some ⟨5, ChanSo (e.chans.map (freeC (k : Int)))⟩, some ⟨2, MutexSo e.mus⟩, some ⟨3, [[.sl 0 0 e.gs.length, .sl 1 0 e.chans.length, .sl 2 0 e.mus.length]]⟩]⟩, ?_, ?_⟩
     · first
       | (refine Wk.trans (Wk.ren [0, 1, 2, 6, 13, 14] (env' := [(12, .ptr 3 0 0)]) (h' := [some ⟨5, ((GorSo e.gs).set k [.int .i64 d.proc, .int .i64 d.pc, .sl 4 0 d.regs.length, .int .i64 d.state, .sl 5 0 d.trace.length])⟩, some ⟨5, ChanSo (e.chans.map (freeC (k : Int)))⟩, some ⟨2, MutexSo e.mus⟩, some ⟨3, [[.sl 0 0 e.gs.length, .sl 1 0 e.chans.length, .sl 2 0 e.mus.length]]⟩, some ⟨1, IntS d.regs⟩, some ⟨4, ItemS d.trace⟩]) ?_ ?_ ?_ ?_ ?_ ?_ ?_ ?_) ?_; (· simp); (· intro j hj; match j, hj with | 0, _ => rfl | 1, _ => rfl | 2, _ => rfl); (· simp); (· simp); (· simp [renE, renN]); (· simp [renH, List.set_set, hWI, hcw, hw]; done); (· simp [lowE, lowN]); (· simp [lowN, lowEs_set]); exact Wk.foGor (env' := [(12, .ptr 3 0 0)]) (h := [none, some ⟨5, ChanSo (e.chans.map (freeC (k : Int)))⟩, some ⟨2, MutexSo e.mus⟩, some ⟨3, [[.sl 0 0 e.gs.length, .sl 1 0 e.chans.length, .sl 2 0 e.mus.length]]⟩]) (h' := [some ⟨5, (GorSo (e.gs.set k d))⟩, some ⟨5, ChanSo (e.chans.map (freeC (k : Int)))⟩, some ⟨2, MutexSo e.mus⟩, some ⟨3, [[.sl 0 0 e.gs.length, .sl 1 0 e.chans.length, .sl 2 0 e.mus.length]]⟩]) (p := 0) (k := k) (es := ((GorSo e.gs).set k [.int .i64 d.proc, .int .i64 d.pc, .sl 4 0 d.regs.length, .int .i64 d.state, .sl 5 0 d.trace.length])) (es' := (GorSo (e.gs.set k d))) (d := d) rfl (by simp) (by rw [List.getElem?_set_self (by simpa using hkl)]; rfl) (by rw [List.set_set, GorSo_setL]) (by simp) (by simp [lowN]) (by simp [subE]) (by simp [subE]) (by simp [lowE, lowN]) (by simp [lowN]) rfl)
       | (refine Wk.trans (Wk.ren [0, 1, 2, 6, 15, 16] (env' := [(12, .ptr 3 0 0)]) (h' := [some ⟨5, ((GorSo e.gs).set k [.int .i64 d.proc, .int .i64 d.pc, .sl 4 0 d.regs.length, .int .i64 d.state, .sl 5 0 d.trace.length])⟩, some ⟨5, ChanSo (e.chans.map (freeC (k : Int)))⟩, some ⟨2, MutexSo e.mus⟩, some ⟨3, [[.sl 0 0 e.gs.length, .sl 1 0 e.chans.length, .sl 2 0 e.mus.length]]⟩, some ⟨1, IntS d.regs⟩, some ⟨4, ItemS d.trace⟩]) ?_ ?_ ?_ ?_ ?_ ?_ ?_ ?_) ?_; (· simp); (· intro j hj; match j, hj with | 0, _ => rfl | 1, _ => rfl | 2, _ => rfl); (· simp); (· simp); (· simp [renE, renN]); (· simp [renH, List.set_set, hWI, hcw, hw]; done); (· simp [lowE, lowN]); (· simp [lowN, lowEs_set]); exact Wk.foGor (env' := [(12, .ptr 3 0 0)]) (h := [none, some ⟨5, ChanSo (e.chans.map (freeC (k : Int)))⟩, some ⟨2, MutexSo e.mus⟩, some ⟨3, [[.sl 0 0 e.gs.length, .sl 1 0 e.chans.length, .sl 2 0 e.mus.length]]⟩]) (h' := [some ⟨5, (GorSo (e.gs.set k d))⟩, some ⟨5, ChanSo (e.chans.map (freeC (k : Int)))⟩, some ⟨2, MutexSo e.mus⟩, some ⟨3, [[.sl 0 0 e.gs.length, .sl 1 0 e.chans.length, .sl 2 0 e.mus.length]]⟩]) (p := 0) (k := k) (es := ((GorSo e.gs).set k [.int .i64 d.proc, .int .i64 d.pc, .sl 4 0 d.regs.length, .int .i64 d.state, .sl 5 0 d.trace.length])) (es' := (GorSo (e.gs.set k d))) (d := d) rfl (by simp) (by rw [List.getElem?_set_self (by simpa using hkl)]; rfl) (by rw [List.set_set, GorSo_setL]) (by simp) (by simp [lowN]) (by simp [subE]) (by simp [subE]) (by simp [lowE, lowN]) (by simp [lowN]) rfl)
       | fail
     · simp [isRet, resL, tupA]
    all_goals (
     refine hK2 _ ?_; refine SW.rb ?_; refine SW.rg fun K hK => ?_; simp -implicitDefEqProofs [hss, hkl, splice, List.set_set]; repeat (refine And.intro (by clear hK; first | omega | (intros; simp_all; done) | (intros; grind)) ?_)
     refine hK _ ?_; clear hK K; refine SW.rb ?_; refine SW.ret ?_; try simp only [Ex.then, Ex.ib]
     refine ⟨⟨[(12, .ptr 3 0 0)], [some ⟨5, GorSo (e.gs.set k d)⟩, some ⟨5, ChanSo (e.chans.map (freeC (k : Int)))⟩, some ⟨2, MutexSo e.mus⟩, some ⟨3, [[.sl 0 0 e.gs.length, .sl 1 0 e.chans.length, .sl 2 0 e.mus.length]]⟩]⟩, ?_, ?_⟩
     · first
       | (refine Wk.trans (Wk.ren [0, 1, 2, 6, 13, 14] (env' := [(12, .ptr 3 0 0)]) (h' := [some ⟨5, ((GorSo e.gs).set k [.int .i64 d.proc, .int .i64 d.pc, .sl 4 0 d.regs.length, .int .i64 d.state, .sl 5 0 d.trace.length])⟩, some ⟨5, ChanSo (e.chans.map (freeC (k : Int)))⟩, some ⟨2, MutexSo e.mus⟩, some ⟨3, [[.sl 0 0 e.gs.length, .sl 1 0 e.chans.length, .sl 2 0 e.mus.length]]⟩, some ⟨1, IntS d.regs⟩, some ⟨4, ItemS d.trace⟩]) ?_ ?_ ?_ ?_ ?_ ?_ ?_ ?_) ?_; (· simp); (· intro j hj; match j, hj with | 0, _ => rfl | 1, _ => rfl | 2, _ => rfl); (· simp); (· simp); (· simp [renE, renN]); (· simp [renH, List.set_set, hWI, hcw, hw]; done); (· simp [lowE, lowN]); (· simp [lowN, lowEs_set]); exact Wk.foGor (env' := [(12, .ptr 3 0 0)]) (h := [none, some ⟨5, ChanSo (e.chans.map (freeC (k : Int)))⟩, some ⟨2, MutexSo e.mus⟩, some ⟨3, [[.sl 0 0 e.gs.length, .sl 1 0 e.chans.length, .sl 2 0 e.mus.length]]⟩]) (h' := [some ⟨5, (GorSo (e.gs.set k d))⟩, some ⟨5, ChanSo (e.chans.map (freeC (k : Int)))⟩, some ⟨2, MutexSo e.mus⟩, some ⟨3, [[.sl 0 0 e.gs.length, .sl 1 0 e.chans.length, .sl 2 0 e.mus.length]]⟩]) (p := 0) (k := k) (es := ((GorSo e.gs).set k [.int .i64 d.proc, .int .i64 d.pc, .sl 4 0 d.regs.length, .int .i64 d.state, .sl 5 0 d.trace.length])) (es' := (GorSo (e.gs.set k d))) (d := d) rfl (by simp) (by rw [List.getElem?_set_self (by simpa using hkl)]; rfl) (by rw [List.set_set, GorSo_setL]) (by simp) (by simp [lowN]) (by simp [subE]) (by simp [subE]) (by simp [lowE, lowN]) (by simp [lowN]) rfl)
       | (refine Wk.trans (Wk.ren [0, 1, 2, 6, 15, 16] (env' := [(12, .ptr 3 0 0)]) (h' := [some ⟨5, ((GorSo e.gs).set k [.int .i64 d.proc, .int .i64 d.pc, .sl 4 0 d.regs.length, .int .i64 d.state, .sl 5 0 d.trace.length])⟩, some ⟨5, ChanSo (e.chans.map (freeC (k : Int)))⟩, some ⟨2, MutexSo e.mus⟩, some ⟨3, [[.sl 0 0 e.gs.length, .sl 1 0 e.chans.length, .sl 2 0 e.mus.length]]⟩, some ⟨1, IntS d.regs⟩, some ⟨4, ItemS d.trace⟩]) ?_ ?_ ?_ ?_ ?_ ?_ ?_ ?_) ?_; (· simp); (· intro j hj; match j, hj with | 0, _ => rfl | 1, _ => rfl | 2, _ => rfl); (· simp); (· simp); (· simp [renE, renN]); (· simp [renH, List.set_set, hWI, hcw, hw]; done); (· simp [lowE, lowN]); (· simp [lowN, lowEs_set]); exact Wk.foGor (env' := [(12, .ptr 3 0 0)]) (h := [none, some ⟨5, ChanSo (e.chans.map (freeC (k : Int)))⟩, some ⟨2, MutexSo e.mus⟩, some ⟨3, [[.sl 0 0 e.gs.length, .sl 1 0 e.chans.length, .sl 2 0 e.mus.length]]⟩]) (h' := [some ⟨5, (GorSo (e.gs.set k d))⟩, some ⟨5, ChanSo (e.chans.map (freeC (k : Int)))⟩, some ⟨2, MutexSo e.mus⟩, some ⟨3, [[.sl 0 0 e.gs.length, .sl 1 0 e.chans.length, .sl 2 0 e.mus.length]]⟩]) (p := 0) (k := k) (es := ((GorSo e.gs).set k [.int .i64 d.proc, .int .i64 d.pc, .sl 4 0 d.regs.length, .int .i64 d.state, .sl 5 0 d.trace.length])) (es' := (GorSo (e.gs.set k d))) (d := d) rfl (by simp) (by rw [List.getElem?_set_self (by simpa using hkl)]; rfl) (by rw [List.set_set, GorSo_setL]) (by simp) (by simp [lowN]) (by simp [subE]) (by simp [subE]) (by simp [lowE, lowN]) (by simp [lowN]) rfl)
       | fail
     · simp [isRet, resL, tupA])))
end HT
