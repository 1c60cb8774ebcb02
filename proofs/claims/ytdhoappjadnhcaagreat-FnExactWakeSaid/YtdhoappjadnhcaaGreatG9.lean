import Derived.Test.YtdhoappjadnhcaaGreatG8
/-
  My own texts (road H): HCTH.
-/
set_option maxHeartbeats 8000000
set_option linter.unusedSimpArgs false
set_option linter.unusedVariables false
namespace HT
open Go Go.Proofs HK
def headOk (p : Prog) : Bool := decide (p.caps.length ≤ 6) && decide (0 ≤ p.mus) && decide (p.mus ≤ 4) && decide (p.sels.length ≤ 6) && decide (1 ≤ p.procs.length) && decide (p.procs.length ≤ 6)
def capOk (c : Int) : Bool := decide (0 ≤ c) && decide (c ≤ 4)
def selPOk (p : Prog) (s : Select) : Bool := decide (s.cases.length ≤ 4) && !(decide (s.cases.length = 0) && decide (s.els < 0)) && selOk p 40 s
def codeI (p : Prog) (n : Int) (i : Instr) : Bool := instrOk p n i && (decide (i.op ≠ 11) || match p.sels[i.a.toNat]? with | some s => selOk p n s | none => false)
def lastOk (c : List Instr) : Bool := match c[c.length - 1]? with | some i => decide (i.op = 1) || decide (i.op = 6) | none => false
def codeOk (p : Prog) (c : List Instr) : Bool := decide (1 ≤ c.length) && decide (c.length ≤ 40) && c.all (codeI p c.length) && lastOk c
def progOk (p : Prog) : Bool := headOk p && p.caps.all capOk && p.sels.all (selPOk p) && p.procs.all (fun q => codeOk p q.code)
theorem selOk_els {p : Prog} {n : Int} {s : Select} (h : selOk p n s = true) : -1 ≤ s.els := by
  simp [selOk, inR] at h; omega
theorem instrOk_sel {p : Prog} {n : Int} {i : Instr} (h : instrOk p n i = true) (h2 : i.op = 11) : 0 ≤ i.a ∧ i.a < p.sels.length := by
  simp only [instrOk, kindOk, h2] at h; simp [inR] at h; omega
theorem selPOk_els {p : Prog} {s : Select} : selPOk p s = (decide (s.cases.length ≤ 4) && !(decide (s.cases.length = 0) && decide (s.els = -1)) && selOk p 40 s) := by
  unfold selPOk; cases h : selOk p 40 s
  · simp
  · have := selOk_els h
    have e : decide (s.els < 0) = decide (s.els = -1) := by rw [Bool.eq_iff_iff]; simp; omega
    rw [e]
theorem codeOk_s (p : Prog) (x : Proc) (h : p.ok) (hxl : x.code.length ≤ 1048576) : Fn Tryz.prog 183 [.agg p.fr, .fz (InstrS x.code)] (.bool (codeOk p x.code)) := by
  refine Fn.intro Tryz.func183 (by decide) rfl (rs := [.tmp 4]) rfl Tryz.ntmps183 (by simp) ?_; have h1 := h.1
  have h2 := h.2.1
  have h3 := h.2.2.2.1
  have hso := h.2.2.1
  have hpo := h.2.2.2.2
  refine SW.rb ?_; refine SW.rb ?_; refine SW.seqK fun K1 hK1 => ?_; refine SW.rb ?_; refine SW.cond _ rfl (by simp) ?_ ?_
  case' refine_1 =>
   intro hb1
   have hres : codeOk p x.code = false := by
     have : (decide (1 ≤ x.code.length) && decide (x.code.length ≤ 40)) = false := by simp at hb1 ⊢; omega
     unfold codeOk; rw [this]; rfl
   refine SW.rb ?_; refine SW.ret ?_; simp [Ex.then, Ex.ib]
   first
     | (rw [hres]; done)
     | (rw [hres, Bool.eq_iff_iff]; simp; done)
     | fail
  intro hb1; have hlen1 : 1 ≤ x.code.length := by simp at hb1; omega
  have hlen2 : x.code.length ≤ 40 := by simp at hb1; omega
  refine SW.skip ?_; refine hK1 _ ?_; refine SW.seqK fun K2 hK2 => ?_; refine SW.rb ?_; refine SW.block ?_
  refine SW.loop (α := Nat) (fun k => ⟨[(18, .int .i64 k), (17, .int .i64 x.code.length), (16, .fz (InstrS x.code)), (5, .int .i64 x.code.length), (1, .fz (InstrS x.code)), (2, .ptr 0 0 0)], [some ⟨4, [p.fr]⟩]⟩) (fun k => k ≤ x.code.length ∧ (x.code.take k).all (codeI p x.code.length) = true) (fun k => x.code.length - k) (0) ?_ ?_ (fun k hx => ?_)
  case' refine_1 =>
   simp
  case' refine_2 =>
   exact Wk.cut (by simp) (by simp [subE]) (by simp [cutH]) (by simp [lowE, lowN]) (by simp)
  case' refine_3 =>
   skip
   refine SW.rb ?_; refine SW.seqK fun K3 hK3 => ?_; refine SW.cond _ rfl (by simp) ?_ ?_
   case' refine_1 =>
    intro hb2; have hlty : k < x.code.length := by simp at hb2; omega
    obtain ⟨y, hyk⟩ : ∃ q, x.code[k]? = some q := ⟨_, List.getElem?_eq_getElem hlty⟩
    refine SW.skip ?_; refine hK3 _ ?_; refine SW.seqK fun K4 hK4 => ?_; refine SW.block ?_; refine SW.rg fun K hK => ?_; simp -implicitDefEqProofs [hyk]
    repeat (refine And.intro (by clear hK; first | omega | (intros; simp_all; done) | (intros; grind)) ?_)
    refine hK _ ?_; clear hK K; refine SW.seqK fun K5 hK5 => ?_; refine SW.rg fun K hK => ?_; simp -implicitDefEqProofs; repeat (refine And.intro (by clear hK; first | omega | (intros; simp_all; done) | (intros; grind)) ?_)
    first
      | refine CallQ.fzE (instrOk_s p x.code.length y h) (by simp) ?_
      | refine CallK.fzE (instrOk_s p x.code.length y h) (by simp) ?_
    simp -implicitDefEqProofs; repeat (refine And.intro (by clear hK; first | omega | (intros; simp_all; done) | (intros; grind)) ?_)
    refine hK _ ?_; clear hK K; refine SW.cond _ rfl (by simp) ?_ ?_
    case' refine_1 =>
     intro hb3; have hf := all_false (p := codeI p x.code.length) hyk (by simp [codeI]; intro h9; simp [h9] at hb3)
     have hres : codeOk p x.code = false := by unfold codeOk; rw [hf]; simp
     refine SW.rb ?_; refine SW.ret ?_; simp [Ex.then, Ex.ib]
     first
       | (rw [hres]; done)
       | (rw [hres, Bool.eq_iff_iff]; simp; done)
       | fail
    intro hb3; have hio : instrOk p x.code.length y = true := by simpa using hb3
    refine SW.skip ?_; refine hK5 _ ?_; obtain ⟨op, a, b, c⟩ := y
    obtain ⟨hop, hN, hss⟩ | ⟨hop, N, s0, hN, hss⟩ : ((op == 11) = false ∧ True ∧ True) ∨ ((op == 11) = true ∧ ∃ N : Nat, ∃ s0, a = N ∧ p.sels[N]? = some s0) := by
      by_cases h9 : op = 11
      · have h10 := instrOk_sel hio h9
        simp only [] at h10; exact .inr ⟨by simp [h9], a.toNat, _, by omega, List.getElem?_eq_getElem (by omega)⟩
      · exact .inl ⟨by simp [h9], trivial, trivial⟩
    all_goals (
     refine SW.drawK mixed [.q [(0, false), (1, false), (2, false), (3, false), (4, false), (5, false), (6, false), (7, false), (8, false), (9, false), (10, false), (11, false), (12, false), (13, false), (14, false)]] (by kernel_rfl) rfl fun K hK => ?_
     simp -implicitDefEqProofs [hop, hN, hss]; repeat (refine And.intro (by clear hK; first | omega | (intros; simp_all; done) | (intros; grind)) ?_)
     first
       | (have _ := hN
          refine CallQG.fzE (by simp) (fun _ => selOk_s p x.code.length s0 h (hso s0 (List.mem_of_getElem? hss))) (by simp) ?_)
       | refine CallQG.fzE (out := .bool true) (by simp) (fun hg => absurd hg (by simp)) rfl ?_
     simp -implicitDefEqProofs [hop, hN, hss]; repeat (refine And.intro (by clear hK; first | omega | (intros; simp_all; done) | (intros; grind)) ?_)
     refine hK _ ?_; clear hK K; refine SW.cond _ rfl (by simp) ?_ ?_
     case' refine_1 =>
      intro hb4
      first
      | (exfalso; simp at hb4; done)
      | (exfalso; simp at hb4; omega)
      | (
       have h11 : op = 11 := by simpa using hop
       have hf := all_false (p := codeI p x.code.length) hyk (by subst hN; simp [codeI, hss, h11]; intro _; simpa [h11] using hb4)
       have hres : codeOk p x.code = false := by unfold codeOk; rw [hf]; simp
       refine SW.rb ?_; refine SW.ret ?_; simp [Ex.then, Ex.ib]
       first
         | (rw [hres]; done)
         | (rw [hres, Bool.eq_iff_iff]; simp; done)
         | fail)
     intro hb4
     have hf : codeI p x.code.length ⟨op, a, b, c⟩ = true := by
       simp only [codeI, hio, Bool.true_and]; by_cases h9 : op = 11
       · first
         | (simp [h9] at hop; done)
         | (subst hN; simp [hss]; simpa [h9] using hb4)
       · simp [h9]
     refine SW.skip ?_; refine hK4 _ ?_; refine SW.eb ?_; refine ⟨k + 1, ⟨by omega, all_next hyk hx.2 hf⟩, by omega, ?_⟩
     exact Wk.cut (by simp) (by simp [subE, wrap1 k (by omega)]) (by simp [cutH]) (by simp [lowE, lowN]) (by simp))
   intro hb2; have hk : k = x.code.length := by simp at hb2; omega
   subst hk; have hal := all_take hx.2
   obtain ⟨m, hm⟩ : ∃ m, x.code.length = m + 1 := ⟨x.code.length - 1, by omega⟩
   have hwl : IntKind.i64.wrap ((x.code.length : Int) - 1) = (m : Int) := by rw [wrapI _ (by omega) (by omega)]; omega
   have hml : m < x.code.length := by omega
   obtain ⟨z, hz⟩ : ∃ z, x.code[m]? = some z := ⟨_, List.getElem?_eq_getElem hml⟩
   have hzE : ∀ h, x.code[m]'h = z := fun h => (List.getElem?_eq_some_iff.1 hz).2
   have hlz : lastOk x.code = (decide (z.op = 1) || decide (z.op = 6)) := by unfold lastOk; rw [hm, Nat.add_sub_cancel, hz]
   have hres : codeOk p x.code = (decide (z.op = 1) || decide (z.op = 6)) := by unfold codeOk; rw [hal, hlz]; simp [hlen1, hlen2]
   refine SW.exit ?_; simp only [Ex.then, Ex.ib]; try simp only [if_true, if_false, reduceIte]
   refine hK2 _ ?_; refine SW.rg fun K hK => ?_; simp -implicitDefEqProofs [hwl, hz, hml, hzE]; repeat (refine And.intro (by clear hK; first | omega | (intros; simp_all; done) | (intros; grind)) ?_)
   refine hK _ ?_; clear hK K; refine SW.ret ?_; simp [Ex.then, Ex.ib]
   first
     | (rw [hres]; done)
     | (rw [hres, Bool.eq_iff_iff]; simp; done)
     | fail
theorem progOk_s (p : Prog) (h : p.ok) : Fn Tryz.prog 101 [.agg p.fr] (.bool (progOk p)) := by
  refine Fn.intro Tryz.func101 (by decide) rfl (rs := [.tmp 2]) rfl Tryz.ntmps101 (by simp) ?_; have h1 := h.1
  have h2 := h.2.1
  have h3 := h.2.2.2.1
  have hso := h.2.2.1
  have hpo := h.2.2.2.2
  refine SW.rb ?_; refine SW.seqK fun K1 hK1 => ?_; refine SW.rb ?_; refine SW.cond _ rfl (by simp) ?_ ?_
  case' refine_1 =>
   intro hb1
   have hh : headOk p = false := by
     cases h9 : headOk p with
     | false => rfl
     | true => exfalso; simp [headOk] at h9 hb1; omega
   have hres : progOk p = false := by unfold progOk; rw [hh]; simp
   refine SW.rb ?_; refine SW.ret ?_; simp [Ex.then, Ex.ib]
   first
     | (rw [hres]; done)
     | fail
  intro hb1
  have hh : headOk p = true := by
    cases h9 : headOk p with
    | true => rfl
    | false => exfalso; simp [headOk] at h9 hb1; omega
  refine SW.skip ?_; refine hK1 _ ?_; refine SW.seqK fun K2 hK2 => ?_; refine SW.rb ?_; refine SW.block ?_
  refine SW.loop (α := Nat) (fun k => ⟨[(44, .int .i64 k), (43, .int .i64 p.caps.length), (42, .fz (IntS p.caps)), (1, .ptr 0 0 0)], [some ⟨4, [p.fr]⟩]⟩) (fun k => k ≤ p.caps.length ∧ (p.caps.take k).all capOk = true) (fun k => p.caps.length - k) (0) ?_ ?_ (fun k hx => ?_)
  case' refine_1 =>
   simp
  case' refine_2 =>
   exact Wk.cut (by simp) (by simp [subE]) (by simp [cutH]) (by simp [lowE, lowN]) (by simp)
  case' refine_3 =>
   skip
   refine SW.rb ?_; refine SW.seqK fun K3 hK3 => ?_; refine SW.cond _ rfl (by simp) ?_ ?_
   case' refine_1 =>
    intro hb2; have hltx : k < p.caps.length := by simp at hb2; omega
    obtain ⟨x, hxk⟩ : ∃ q, p.caps[k]? = some q := ⟨_, List.getElem?_eq_getElem hltx⟩
    refine SW.skip ?_; refine hK3 _ ?_; refine SW.seqK fun K10 hK10 => ?_; refine SW.block ?_; refine SW.rg fun K hK => ?_; simp -implicitDefEqProofs [hxk]
    repeat (refine And.intro (by clear hK; first | omega | (intros; simp_all; done) | (intros; grind)) ?_)
    refine hK _ ?_; clear hK K; refine SW.rb ?_; refine SW.cond _ rfl (by simp) ?_ ?_
    case' refine_1 =>
     intro hb7; have hf := all_false (p := capOk) hxk (by simp [capOk] at hb7 ⊢; omega)
     have hres : progOk p = false := by unfold progOk; rw [hf]; simp
     refine SW.rb ?_; refine SW.ret ?_; simp [Ex.then, Ex.ib]
     first
       | (rw [hres]; done)
       | fail
    intro hb7; have hf : capOk x = true := by simp [capOk] at hb7 ⊢; omega
    refine SW.skip ?_; refine hK10 _ ?_; refine SW.eb ?_; refine ⟨k + 1, ⟨by omega, all_next hxk hx.2 hf⟩, by omega, ?_⟩; exact Wk.cut (by simp) (by simp [subE, wrap1 k (by omega)]) (by simp [cutH]) (by simp [lowE, lowN]) (by simp)
   intro hb2; have hk : k = p.caps.length := by simp at hb2; omega
   subst hk; have hca := all_take hx.2
   clear hx; refine SW.exit ?_; simp only [Ex.then, Ex.ib]; try simp only [if_true, if_false, reduceIte]
   refine hK2 _ ?_; refine SW.seqK fun K4 hK4 => ?_; refine SW.rb ?_; refine SW.block ?_
   refine SW.loop (α := Nat) (fun k => ⟨[(58, .int .i64 k), (57, .int .i64 p.sels.length), (56, .fz (SelectSf p.sels)), (1, .ptr 0 0 0)], [some ⟨4, [p.fr]⟩]⟩) (fun k => k ≤ p.sels.length ∧ (p.sels.take k).all (selPOk p) = true) (fun k => p.sels.length - k) (0) ?_ ?_ (fun k hx => ?_)
   case' refine_1 =>
    simp
   case' refine_2 =>
    exact Wk.cut (by simp) (by simp [subE]) (by simp [cutH]) (by simp [lowE, lowN]) (by simp)
   case' refine_3 =>
    skip
    refine SW.rb ?_; refine SW.seqK fun K5 hK5 => ?_; refine SW.cond _ rfl (by simp) ?_ ?_
    case' refine_1 =>
     intro hb3; have hltx : k < p.sels.length := by simp at hb3; omega
     obtain ⟨x, hxk⟩ : ∃ q, p.sels[k]? = some q := ⟨_, List.getElem?_eq_getElem hltx⟩
     have hxs := hso x (List.mem_of_getElem? hxk)
     refine SW.skip ?_; refine hK5 _ ?_; refine SW.seqK fun K9 hK9 => ?_; refine SW.block ?_; refine SW.rg fun K hK => ?_; simp -implicitDefEqProofs [hxk]
     repeat (refine And.intro (by clear hK; first | omega | (intros; simp_all; done) | (intros; grind)) ?_)
     refine hK _ ?_; clear hK K; refine SW.rg fun K hK => ?_; simp -implicitDefEqProofs; repeat (refine And.intro (by clear hK; first | omega | (intros; simp_all; done) | (intros; grind)) ?_)
     first
       | refine CallQG.fzE (by simp) (fun _ => selOk_s p 40 x h hxs) (by simp) ?_
       | refine CallG.fzE (by simp) (fun _ => selOk_s p 40 x h hxs) (by simp) ?_
       | refine CallQ.fzE (selOk_s p 40 x h hxs) (by simp) ?_
       | refine CallK.fzE (selOk_s p 40 x h hxs) (by simp) ?_
     simp -implicitDefEqProofs; repeat (refine And.intro (by clear hK; first | omega | (intros; simp_all; done) | (intros; grind)) ?_)
     refine hK _ ?_; clear hK K; refine SW.cond _ rfl (by simp) ?_ ?_
     case' refine_1 =>
      intro hb6; have hf := all_false (p := selPOk p) hxk (by cases h9 : selPOk p x with | false => rfl | true => (exfalso; simp [selPOk] at h9 hb6; grind))
      have hres : progOk p = false := by unfold progOk; rw [hf]; simp
      refine SW.rb ?_; refine SW.ret ?_; simp [Ex.then, Ex.ib]
      first
        | (rw [hres]; done)
        | fail
     intro hb6; have hf : selPOk p x = true := by simp [selPOk] at hb6 ⊢; grind
     refine SW.skip ?_; refine hK9 _ ?_; refine SW.eb ?_; refine ⟨k + 1, ⟨by omega, all_next hxk hx.2 hf⟩, by omega, ?_⟩; exact Wk.cut (by simp) (by simp [subE, wrap1 k (by omega)]) (by simp [cutH]) (by simp [lowE, lowN]) (by simp)
    intro hb3; have hk : k = p.sels.length := by simp at hb3; omega
    subst hk; have hsa := all_take hx.2
    clear hx; refine SW.exit ?_; simp only [Ex.then, Ex.ib]; try simp only [if_true, if_false, reduceIte]
    refine hK4 _ ?_; refine SW.seqK fun K6 hK6 => ?_; refine SW.rb ?_; refine SW.block ?_
    refine SW.loop (α := Nat) (fun k => ⟨[(87, .int .i64 k), (86, .int .i64 p.procs.length), (85, .fz (ProcSf p.procs)), (1, .ptr 0 0 0)], [some ⟨4, [p.fr]⟩]⟩) (fun k => k ≤ p.procs.length ∧ (p.procs.take k).all (fun q => codeOk p q.code) = true) (fun k => p.procs.length - k) (0) ?_ ?_ (fun k hx => ?_)
    case' refine_1 =>
     simp
    case' refine_2 =>
     exact Wk.cut (by simp) (by simp [subE]) (by simp [cutH]) (by simp [lowE, lowN]) (by simp)
    case' refine_3 =>
     skip
     refine SW.rb ?_; refine SW.seqK fun K7 hK7 => ?_; refine SW.cond _ rfl (by simp) ?_ ?_
     case' refine_1 =>
      intro hb4; have hltx : k < p.procs.length := by simp at hb4; omega
      obtain ⟨x, hxk⟩ : ∃ q, p.procs[k]? = some q := ⟨_, List.getElem?_eq_getElem hltx⟩
      have hxp : x.code.length ≤ 1048576 := hpo x (List.mem_of_getElem? hxk)
      refine SW.skip ?_; refine hK7 _ ?_; refine SW.seqK fun K8 hK8 => ?_; refine SW.block ?_; refine SW.rg fun K hK => ?_; simp -implicitDefEqProofs [hxk]
      repeat (refine And.intro (by clear hK; first | omega | (intros; simp_all; done) | (intros; grind)) ?_)
      refine hK _ ?_; clear hK K; refine SW.rg fun K hK => ?_; simp -implicitDefEqProofs; repeat (refine And.intro (by clear hK; first | omega | (intros; simp_all; done) | (intros; grind)) ?_)
      first
        | refine CallQ.fzE (codeOk_s p x h hxp) (by simp) ?_
        | refine CallK.fzE (codeOk_s p x h hxp) (by simp) ?_
      simp -implicitDefEqProofs; repeat (refine And.intro (by clear hK; first | omega | (intros; simp_all; done) | (intros; grind)) ?_)
      refine hK _ ?_; clear hK K; refine SW.cond _ rfl (by simp) ?_ ?_
      case' refine_1 =>
       intro hb5; have hf := all_false (p := fun q => codeOk p q.code) hxk (by simpa using hb5)
       have hres : progOk p = false := by unfold progOk; rw [hf]; simp
       refine SW.rb ?_; refine SW.ret ?_; simp [Ex.then, Ex.ib]
       first
         | (rw [hres]; done)
         | fail
      intro hb5; have hf : codeOk p x.code = true := by simpa using hb5
      refine SW.skip ?_; refine hK8 _ ?_; refine SW.eb ?_; refine ⟨k + 1, ⟨by omega, all_next hxk hx.2 hf⟩, by omega, ?_⟩; exact Wk.cut (by simp) (by simp [subE, wrap1 k (by omega)]) (by simp [cutH]) (by simp [lowE, lowN]) (by simp)
     intro hb4; have hk : k = p.procs.length := by simp at hb4; omega
     subst hk; have hpa := all_take hx.2
     have hres : progOk p = true := by unfold progOk; rw [hh, hca, hsa, hpa]; rfl
     refine SW.exit ?_; simp only [Ex.then, Ex.ib]; try simp only [if_true, if_false, reduceIte]
     refine hK6 _ ?_; refine SW.rb ?_; refine SW.ret ?_; simp [Ex.then, Ex.ib]
     first
       | (rw [hres]; done)
       | fail
theorem progOk_i (p : Prog) (h : p.ok) : Fn Tryz.prog 121 [.agg p.fr] (.bool (progOk p)) := by
  refine Fn.intro Tryz.func121 (by decide) rfl (rs := [.tmp 2]) rfl Tryz.ntmps121 (by simp) ?_; have h1 := h.1
  have h2 := h.2.1
  have h3 := h.2.2.2.1
  have hso := h.2.2.1
  have hpo := h.2.2.2.2
  refine SW.rb ?_; refine SW.seqK fun K1 hK1 => ?_; refine SW.rb ?_; refine SW.cond _ rfl (by simp) ?_ ?_
  case' refine_1 =>
   intro hb1
   have hh : headOk p = false := by
     cases h9 : headOk p with
     | false => rfl
     | true => exfalso; simp [headOk] at h9 hb1; omega
   have hres : progOk p = false := by unfold progOk; rw [hh]; simp
   refine SW.rb ?_; refine SW.ret ?_; simp [Ex.then, Ex.ib]
   first
     | (rw [hres]; done)
     | fail
  intro hb1
  have hh : headOk p = true := by
    cases h9 : headOk p with
    | true => rfl
    | false => exfalso; simp [headOk] at h9 hb1; omega
  refine SW.skip ?_; refine hK1 _ ?_; refine SW.seqK fun K2 hK2 => ?_; refine SW.rb ?_; refine SW.block ?_
  refine SW.loop (α := Nat) (fun k => ⟨[(48, .int .i64 k), (47, .int .i64 p.caps.length), (46, .fz (IntS p.caps)), (1, .ptr 0 0 0)], [some ⟨4, [p.fr]⟩]⟩) (fun k => k ≤ p.caps.length ∧ (p.caps.take k).all capOk = true) (fun k => p.caps.length - k) (0) ?_ ?_ (fun k hx => ?_)
  case' refine_1 =>
   simp
  case' refine_2 =>
   exact Wk.cut (by simp) (by simp [subE]) (by simp [cutH]) (by simp [lowE, lowN]) (by simp)
  case' refine_3 =>
   skip
   refine SW.rb ?_; refine SW.seqK fun K3 hK3 => ?_; refine SW.cond _ rfl (by simp) ?_ ?_
   case' refine_1 =>
    intro hb2; have hltx : k < p.caps.length := by simp at hb2; omega
    obtain ⟨x, hxk⟩ : ∃ q, p.caps[k]? = some q := ⟨_, List.getElem?_eq_getElem hltx⟩
    refine SW.skip ?_; refine hK3 _ ?_; refine SW.seqK fun K14 hK14 => ?_; refine SW.block ?_; refine SW.rg fun K hK => ?_; simp -implicitDefEqProofs [hxk]
    repeat (refine And.intro (by clear hK; first | omega | (intros; simp_all; done) | (intros; grind)) ?_)
    refine hK _ ?_; clear hK K; refine SW.rb ?_; refine SW.cond _ rfl (by simp) ?_ ?_
    case' refine_1 =>
     intro hb10; have hf := all_false (p := capOk) hxk (by simp [capOk] at hb10 ⊢; omega)
     have hres : progOk p = false := by unfold progOk; rw [hf]; simp
     refine SW.rb ?_; refine SW.ret ?_; simp [Ex.then, Ex.ib]
     first
       | (rw [hres]; done)
       | fail
    intro hb10; have hf : capOk x = true := by simp [capOk] at hb10 ⊢; omega
    refine SW.skip ?_; refine hK14 _ ?_; refine SW.eb ?_; refine ⟨k + 1, ⟨by omega, all_next hxk hx.2 hf⟩, by omega, ?_⟩; exact Wk.cut (by simp) (by simp [subE, wrap1 k (by omega)]) (by simp [cutH]) (by simp [lowE, lowN]) (by simp)
   intro hb2; have hk : k = p.caps.length := by simp at hb2; omega
   subst hk; have hca := all_take hx.2
   clear hx; refine SW.exit ?_; simp only [Ex.then, Ex.ib]; try simp only [if_true, if_false, reduceIte]
   refine hK2 _ ?_; refine SW.seqK fun K4 hK4 => ?_; refine SW.rb ?_; refine SW.block ?_
   refine SW.loop (α := Nat) (fun k => ⟨[(62, .int .i64 k), (61, .int .i64 p.sels.length), (60, .fz (SelectSf p.sels)), (1, .ptr 0 0 0)], [some ⟨4, [p.fr]⟩]⟩) (fun k => k ≤ p.sels.length ∧ (p.sels.take k).all (selPOk p) = true) (fun k => p.sels.length - k) (0) ?_ ?_ (fun k hx => ?_)
   case' refine_1 =>
    simp
   case' refine_2 =>
    exact Wk.cut (by simp) (by simp [subE]) (by simp [cutH]) (by simp [lowE, lowN]) (by simp)
   case' refine_3 =>
    skip
    refine SW.rb ?_; refine SW.seqK fun K5 hK5 => ?_; refine SW.cond _ rfl (by simp) ?_ ?_
    case' refine_1 =>
     intro hb3; have hltx : k < p.sels.length := by simp at hb3; omega
     obtain ⟨x, hxk⟩ : ∃ q, p.sels[k]? = some q := ⟨_, List.getElem?_eq_getElem hltx⟩
     have hxs := hso x (List.mem_of_getElem? hxk)
     refine SW.skip ?_; refine hK5 _ ?_; refine SW.seqK fun K13 hK13 => ?_; refine SW.block ?_; refine SW.rg fun K hK => ?_; simp -implicitDefEqProofs [hxk]
     repeat (refine And.intro (by clear hK; first | omega | (intros; simp_all; done) | (intros; grind)) ?_)
     refine hK _ ?_; clear hK K; refine SW.rg fun K hK => ?_; simp -implicitDefEqProofs; repeat (refine And.intro (by clear hK; first | omega | (intros; simp_all; done) | (intros; grind)) ?_)
     first
       | refine CallQG.fzE (by simp) (fun _ => selOk_i p 40 x h hxs) (by simp) ?_
       | refine CallG.fzE (by simp) (fun _ => selOk_i p 40 x h hxs) (by simp) ?_
       | refine CallQ.fzE (selOk_i p 40 x h hxs) (by simp) ?_
       | refine CallK.fzE (selOk_i p 40 x h hxs) (by simp) ?_
     simp -implicitDefEqProofs; repeat (refine And.intro (by clear hK; first | omega | (intros; simp_all; done) | (intros; grind)) ?_)
     refine hK _ ?_; clear hK K; refine SW.cond _ rfl (by simp) ?_ ?_
     case' refine_1 =>
      intro hb9; have hf := all_false (p := selPOk p) hxk (by rw [selPOk_els]; cases h9 : selOk p 40 x <;> simp [h9] at hb9 ⊢; grind)
      have hres : progOk p = false := by unfold progOk; rw [hf]; simp
      refine SW.rb ?_; refine SW.ret ?_; simp [Ex.then, Ex.ib]
      first
        | (rw [hres]; done)
        | fail
     intro hb9; have hf : selPOk p x = true := by rw [selPOk_els]; simp at hb9 ⊢; grind
     refine SW.skip ?_; refine hK13 _ ?_; refine SW.eb ?_; refine ⟨k + 1, ⟨by omega, all_next hxk hx.2 hf⟩, by omega, ?_⟩; exact Wk.cut (by simp) (by simp [subE, wrap1 k (by omega)]) (by simp [cutH]) (by simp [lowE, lowN]) (by simp)
    intro hb3; have hk : k = p.sels.length := by simp at hb3; omega
    subst hk; have hsa := all_take hx.2
    clear hx; refine SW.exit ?_; simp only [Ex.then, Ex.ib]; try simp only [if_true, if_false, reduceIte]
    refine hK4 _ ?_; refine SW.seqK fun K6 hK6 => ?_; refine SW.rb ?_; refine SW.block ?_
    refine SW.loop (α := Nat) (fun k => ⟨[(91, .int .i64 k), (90, .int .i64 p.procs.length), (89, .fz (ProcSf p.procs)), (1, .ptr 0 0 0)], [some ⟨4, [p.fr]⟩]⟩) (fun k => k ≤ p.procs.length ∧ (p.procs.take k).all (fun q => codeOk p q.code) = true) (fun k => p.procs.length - k) (0) ?_ ?_ (fun k hx => ?_)
    case' refine_1 =>
     simp
    case' refine_2 =>
     exact Wk.cut (by simp) (by simp [subE]) (by simp [cutH]) (by simp [lowE, lowN]) (by simp)
    case' refine_3 =>
     skip
     refine SW.rb ?_; refine SW.seqK fun K7 hK7 => ?_; refine SW.cond _ rfl (by simp) ?_ ?_
     case' refine_1 =>
      intro hb4; have hltx : k < p.procs.length := by simp at hb4; omega
      obtain ⟨x, hxk⟩ : ∃ q, p.procs[k]? = some q := ⟨_, List.getElem?_eq_getElem hltx⟩
      have hxp : x.code.length ≤ 1048576 := hpo x (List.mem_of_getElem? hxk)
      refine SW.skip ?_; refine hK7 _ ?_; refine SW.seqK fun K8 hK8 => ?_; refine SW.block ?_; refine SW.rg fun K hK => ?_; simp -implicitDefEqProofs [hxk]
      repeat (refine And.intro (by clear hK; first | omega | (intros; simp_all; done) | (intros; grind)) ?_)
      refine hK _ ?_; clear hK K; refine SW.rb ?_; refine SW.seqK fun K9 hK9 => ?_; refine SW.rb ?_; refine SW.cond _ rfl (by simp) ?_ ?_
      case' refine_1 =>
       intro hb5
       have hfc : codeOk p x.code = false := by
         have : (decide (1 ≤ x.code.length) && decide (x.code.length ≤ 40)) = false := by simp at hb5 ⊢; omega
         unfold codeOk; rw [this]; rfl
       have hf := all_false (p := fun q => codeOk p q.code) hxk hfc
       have hres : progOk p = false := by unfold progOk; rw [hf]; simp
       refine SW.rb ?_; refine SW.ret ?_; simp [Ex.then, Ex.ib]
       first
         | (rw [hres]; done)
         | fail
      intro hb5; have hlen1 : 1 ≤ x.code.length := by simp at hb5; omega
      have hlen2 : x.code.length ≤ 40 := by simp at hb5; omega
      have hxo := hx
      clear hx; refine SW.skip ?_; refine hK9 _ ?_; refine SW.seqK fun K10 hK10 => ?_; refine SW.rb ?_; refine SW.block ?_
      refine SW.loop (α := Nat) (fun j => ⟨[(107, .int .i64 j), (106, .int .i64 x.code.length), (105, .fz (InstrS x.code)), (9, .int .i64 x.code.length), (91, .int .i64 k), (90, .int .i64 p.procs.length), (89, .fz (ProcSf p.procs)), (1, .ptr 0 0 0), (8, .ptr 1 0 0)], [some ⟨4, [p.fr]⟩, some ⟨1, [x.fr]⟩]⟩) (fun j => j ≤ x.code.length ∧ (x.code.take j).all (codeI p x.code.length) = true) (fun j => x.code.length - j) (0) ?_ ?_ (fun j hx => ?_)
      case' refine_1 =>
       simp
      case' refine_2 =>
       exact Wk.cut (by simp) (by simp [subE]) (by simp [cutH]) (by simp [lowE, lowN]) (by simp)
      case' refine_3 =>
       skip
       refine SW.rb ?_; refine SW.seqK fun K11 hK11 => ?_; refine SW.cond _ rfl (by simp) ?_ ?_
       case' refine_1 =>
        intro hb6; have hlty : j < x.code.length := by simp at hb6; omega
        obtain ⟨y, hyk⟩ : ∃ q, x.code[j]? = some q := ⟨_, List.getElem?_eq_getElem hlty⟩
        refine SW.skip ?_; refine hK11 _ ?_; refine SW.seqK fun K12 hK12 => ?_; refine SW.block ?_; refine SW.rg fun K hK => ?_; simp -implicitDefEqProofs [hyk]
        repeat (refine And.intro (by clear hK; first | omega | (intros; simp_all; done) | (intros; grind)) ?_)
        refine hK _ ?_; clear hK K; obtain ⟨op, a, b, c⟩ := y
        obtain ⟨hio, hop, hA, hB, hss⟩ | ⟨hio, hop, hA, hB, hss⟩ | ⟨hio, hop, hA, hB, s0, hss⟩ : (instrOk p x.code.length ⟨op, a, b, c⟩ = false ∧ True ∧ True ∧ True ∧ True) ∨ (instrOk p x.code.length ⟨op, a, b, c⟩ = true ∧ (op == 11) = false ∧ True ∧ True ∧ True) ∨ (instrOk p x.code.length ⟨op, a, b, c⟩ = true ∧ (op == 11) = true ∧ 0 ≤ a ∧ a < p.sels.length ∧ ∃ s0, p.sels[a.toNat]? = some s0) := by
          cases h8 : instrOk p x.code.length ⟨op, a, b, c⟩ with
          | false => exact .inl ⟨rfl, trivial, trivial, trivial, trivial⟩
          | true =>
            by_cases h9 : op = 11
            · have h10 := instrOk_sel h8 h9
              simp only [] at h10; exact .inr (.inr ⟨rfl, by simp [h9], h10.1, h10.2, _, List.getElem?_eq_getElem (by omega)⟩)
            · exact .inr (.inl ⟨rfl, by simp [h9], trivial, trivial, trivial⟩)
        all_goals (
         refine SW.drawK mixed [.q [(0, false), (1, false), (2, false), (3, false), (4, false), (5, false), (6, false), (7, false), (8, false), (9, false), (10, false), (11, false), (12, false), (13, false), (14, false), (15, false), (16, false), (17, false), (18, false), (19, false), (20, false), (21, false)]] (by kernel_rfl) rfl fun K hK => ?_
         simp -implicitDefEqProofs [hio, hop, hA, hB, hss]; repeat (refine And.intro (by clear hK; first | omega | (intros; simp_all; done) | (intros; grind)) ?_)
         first
           | refine CallQ.fzE (instrOk_i p x.code.length ⟨op, a, b, c⟩ h) (by simp) ?_
           | refine CallK.fzE (instrOk_i p x.code.length ⟨op, a, b, c⟩ h) (by simp) ?_
         simp -implicitDefEqProofs [hio, hop, hA, hB, hss]; repeat (refine And.intro (by clear hK; first | omega | (intros; simp_all; done) | (intros; grind)) ?_)
         first
           | (have _ := s0
              refine CallQG.fzE (by simp) (fun _ => selOk_i p x.code.length s0 h (hso s0 (List.mem_of_getElem? hss))) (by simp [(List.getElem?_eq_some_iff.1 hss).2]) ?_)
           | refine CallQG.fzE (out := .bool true) (by simp) (fun hg => absurd hg (by simp)) rfl ?_
         simp -implicitDefEqProofs [hio, hop, hA, hB, hss]; repeat (refine And.intro (by clear hK; first | omega | (intros; simp_all; done) | (intros; grind)) ?_)
         refine hK _ ?_; clear hK K; refine SW.cond _ rfl (by simp) ?_ ?_
         case' refine_1 =>
          intro hb8
          first
          | (exfalso; simp at hb8; done)
          | (exfalso; simp at hb8; omega)
          | (
           have hf8 : codeI p x.code.length ⟨op, a, b, c⟩ = false := by
             first
             | (rw [codeI, hio]; rfl)
             | (have h9 : op = 11 := by simpa using hop
                simp only [codeI, hio, Bool.true_and, hss]; simpa [h9] using hb8)
           have hfa := all_false (p := codeI p x.code.length) hyk hf8
           have hfc : codeOk p x.code = false := by unfold codeOk; rw [hfa]; simp
           have hf := all_false (p := fun q => codeOk p q.code) hxk hfc
           have hres : progOk p = false := by unfold progOk; rw [hf]; simp
           refine SW.rb ?_; refine SW.ret ?_; simp [Ex.then, Ex.ib]
           first
             | (rw [hres]; done)
             | fail)
         intro hb8
         first
         | (exfalso; simp at hb8; done)
         | (exfalso; simp at hb8; omega)
         | (
          have hf8 : codeI p x.code.length ⟨op, a, b, c⟩ = true := by
            simp only [codeI, hio, Bool.true_and]; by_cases h9 : op = 11
            · first
              | (simp [h9] at hop; done)
              | (simp only [hss]; simpa [h9] using hb8)
            · simp [h9]
          refine SW.skip ?_; refine hK12 _ ?_; refine SW.eb ?_; refine ⟨j + 1, ⟨by omega, all_next hyk hx.2 hf8⟩, by omega, ?_⟩
          exact Wk.cut (by simp) (by simp [subE, wrap1 j (by omega)]) (by simp [cutH]) (by simp [lowE, lowN]) (by simp)))
       intro hb6; have hk : j = x.code.length := by simp at hb6; omega
       subst hk; have hal := all_take hx.2
       obtain ⟨m, hm⟩ : ∃ m, x.code.length = m + 1 := ⟨x.code.length - 1, by omega⟩
       have hwl : IntKind.i64.wrap ((x.code.length : Int) - 1) = (m : Int) := by rw [wrapI _ (by omega) (by omega)]; omega
       have hml : m < x.code.length := by omega
       obtain ⟨z, hz⟩ : ∃ z, x.code[m]? = some z := ⟨_, List.getElem?_eq_getElem hml⟩
       have hzE : ∀ h, x.code[m]'h = z := fun h => (List.getElem?_eq_some_iff.1 hz).2
       have hlz : lastOk x.code = (decide (z.op = 1) || decide (z.op = 6)) := by unfold lastOk; rw [hm, Nat.add_sub_cancel, hz]
       have hfr : codeOk p x.code = (decide (z.op = 1) || decide (z.op = 6)) := by unfold codeOk; rw [hal, hlz]; simp [hlen1, hlen2]
       refine SW.exit ?_; simp only [Ex.then, Ex.ib]; try simp only [if_true, if_false, reduceIte]
       refine hK10 _ ?_; refine SW.rg fun K hK => ?_; simp -implicitDefEqProofs [hwl, hz, hml, hzE]; repeat (refine And.intro (by clear hK; first | omega | (intros; simp_all; done) | (intros; grind)) ?_)
       refine hK _ ?_; clear hK K; refine SW.rb ?_; refine SW.cond _ rfl (by simp) ?_ ?_
       case' refine_1 =>
        intro hb7; have hfc : codeOk p x.code = false := by rw [hfr]; simp at hb7 ⊢; omega
        have hf := all_false (p := fun q => codeOk p q.code) hxk hfc
        have hres : progOk p = false := by unfold progOk; rw [hf]; simp
        refine SW.rb ?_; refine SW.ret ?_; simp [Ex.then, Ex.ib]
        first
          | (rw [hres]; done)
          | fail
       intro hb7; have hf : codeOk p x.code = true := by rw [hfr]; simp at hb7 ⊢; omega
       refine SW.skip ?_; refine hK8 _ ?_; refine SW.eb ?_; refine ⟨k + 1, ⟨by omega, all_next hxk hxo.2 hf⟩, by omega, ?_⟩; exact Wk.cut (by simp) (by simp [subE, wrap1 k (by omega)]) (by simp [cutH]) (by simp [lowE, lowN]) (by simp)
     intro hb4; have hk : k = p.procs.length := by simp at hb4; omega
     subst hk; have hpa := all_take hx.2
     have hres : progOk p = true := by unfold progOk; rw [hh, hca, hsa, hpa]; rfl
     refine SW.exit ?_; simp only [Ex.then, Ex.ib]; try simp only [if_true, if_false, reduceIte]
     refine hK6 _ ?_; refine SW.rb ?_; refine SW.ret ?_; simp [Ex.then, Ex.ib]
     first
       | (rw [hres]; done)
       | fail
end HT
