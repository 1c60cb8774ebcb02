import Derived.Test.YtnehpceohjlacaaG14
import Derived.Test.YtnehpceohjlacaaG2b
/-
  My own texts (road H): HTT HTU.
-/
set_option linter.unusedSimpArgs false
set_option linter.unusedVariables false
namespace HT
open Go Go.Proofs HK
def stepG (p : Prog) (g : Gor) : Gor :=
  if (atI p g).op = 1 then over g 0
  else if (atI p g).op = 6 then { g with pc := (atI p g).a }
  else if (atI p g).op = 7 then { g with pc := if regD g (atI p g).a ≠ 0 then (atI p g).b else g.pc + 1 }
  else if (atI p g).op = 2 then { setR g (atI p g).a (atI p g).b with pc := g.pc + 1 }
  else { setR g (atI p g).a (calcR (atI p g).op (regD g (atI p g).b) (regD g (atI p g).c)) with pc := g.pc + 1 }
theorem fields_in {op : Int} (h : 0 ≤ fieldsOf op) : 1 ≤ op ∧ op ≤ 15 := by
  unfold fieldsOf at h
  by_cases h1 : op = 1
  · omega
  rw [if_neg h1] at h
  by_cases h2 : op = 6 ∨ op = 10 ∨ op = 11 ∨ op = 12 ∨ op = 13 ∨ op = 15
  · omega
  rw [if_neg h2] at h
  by_cases h3 : op = 2 ∨ op = 7 ∨ op = 8 ∨ op = 14
  · omega
  rw [if_neg h3] at h
  by_cases h4 : op = 3 ∨ op = 4 ∨ op = 5 ∨ op = 9
  · omega
  rw [if_neg h4] at h
  omega
structure Inv (p : Prog) (g : Gor) (T : Nat) : Prop where
  prog : progOk p = true
  here : atOk p g
  regs : g.regs.length = 6
  trace : g.trace.length ≤ T
theorem loc_facts {p : Prog} {g : Gor} (hp : progOk p = true) (ha : atOk p g) (hs : isShared (atI p g).op = false) : ∃ (x : Proc) (i : Instr), p.procs[g.proc.toNat]? = some x ∧ x.code[g.pc.toNat]? = some i ∧ atI p g = i ∧ g.pc < (x.code.length : Int) ∧ x.code.length ≤ 40 ∧
    (1 ≤ i.op ∧ i.op ≤ 7) ∧ (i.op = 6 → 0 ≤ i.a ∧ i.a < x.code.length) ∧ (i.op = 7 → 0 ≤ i.a ∧ i.a < 6 ∧ 0 ≤ i.b ∧ i.b < x.code.length) ∧ (i.op = 3 ∨ i.op = 4 ∨ i.op = 5 → 0 ≤ i.b ∧ i.b < 6 ∧ 0 ≤ i.c ∧ i.c < 6) ∧ (i.op ≠ 1 → i.op ≠ 6 → g.pc + 1 < x.code.length) := by
  obtain ⟨hA, hC, x, hx, hD⟩ := ha
  obtain ⟨i, hi⟩ : ∃ i, x.code[g.pc.toNat]? = some i := ⟨_, List.getElem?_eq_getElem (by omega)⟩
  have hat : atI p g = i := by simp [atI, hx, hi]
  rw [hat] at hs
  simp only [progOk, Bool.and_eq_true, List.all_eq_true] at hp
  have hc := hp.2 x (List.mem_of_getElem? hx)
  simp only [codeOk, Bool.and_eq_true, decide_eq_true_eq, List.all_eq_true] at hc
  obtain ⟨⟨⟨h1, h40⟩, hall⟩, hlast⟩ := hc
  have hI := hall i (List.mem_of_getElem? hi)
  simp only [codeI, Bool.and_eq_true] at hI
  have hk := hI.1
  have hop : 1 ≤ i.op ∧ i.op ≤ 7 := by
    simp only [instrOk, Bool.and_eq_true, decide_eq_true_eq] at hk
    simp only [isShared, Bool.and_eq_false_iff, decide_eq_false_iff_not] at hs
    have := fields_in hk.1.1
    omega
  refine ⟨x, i, hx, hi, hat, hD, by omega, hop, ?_, ?_, ?_, ?_⟩
  · intro h
    simp [instrOk, kindOk, h, inR] at hk
    omega
  · intro h
    simp [instrOk, kindOk, h, inR, regOk] at hk
    omega
  · intro h
    rcases h with h | h | h
    all_goals
      simp [instrOk, kindOk, h, inR, regOk] at hk
      omega
  · intro n1 n6
    rcases Int.lt_or_le (g.pc + 1) x.code.length with h | h
    · exact h
    · exfalso
      have e : x.code.length - 1 = g.pc.toNat := by omega
      rw [lastOk, e, hi] at hlast
      simp [n1, n6] at hlast
theorem setR_len (g : Gor) (r v : Int) : (setR g r v).regs.length = g.regs.length := by
  unfold setR
  split <;> simp
theorem setR_tr (g : Gor) (r v : Int) : (setR g r v).trace = g.trace := by
  unfold setR
  split <;> rfl
theorem setR_proc (g : Gor) (r v : Int) : (setR g r v).proc = g.proc := by
  unfold setR
  split <;> rfl
theorem setR_pc (g : Gor) (r v : Int) : (setR g r v).pc = g.pc := by
  unfold setR
  split <;> rfl
theorem inv_step {p : Prog} {g : Gor} {T : Nat} (h : Inv p g T) (hs : isShared (atI p g).op = false) : Inv p (stepG p g) (T + 1) := by
  obtain ⟨x, i, hx, hi, hat, hD, h40, hop, f6, f7, _, fl⟩ := loc_facts h.prog h.here hs
  obtain ⟨hA, hC, _⟩ := h.here
  have hr := h.regs
  have ht := h.trace
  unfold stepG
  rw [hat]
  split
  · refine ⟨h.prog, ⟨hA, hC, x, hx, hD⟩, hr, ?_⟩
    simp [over]
    omega
  · rename_i n1
    split
    · rename_i h6
      exact ⟨h.prog, ⟨hA, (f6 h6).1, x, hx, (f6 h6).2⟩, hr, Nat.le_succ_of_le ht⟩
    · rename_i n6
      split
      · rename_i h7
        refine ⟨h.prog, ⟨hA, ?_, x, hx, ?_⟩, hr, Nat.le_succ_of_le ht⟩
        · show 0 ≤ (if regD g i.a ≠ 0 then i.b else g.pc + 1)
          have := f7 h7
          split <;> omega
        · show (if regD g i.a ≠ 0 then i.b else g.pc + 1) < _
          have := f7 h7
          have := fl n1 n6
          split <;> omega
      · have := fl n1 n6
        split
        · refine ⟨h.prog, ⟨?_, ?_, x, ?_, this⟩, ?_, ?_⟩
          · show 0 ≤ (setR _ _ _).proc
            rw [setR_proc]; exact hA
          · show 0 ≤ g.pc + 1
            omega
          · show p.procs[(setR _ _ _).proc.toNat]? = _
            rw [setR_proc]; exact hx
          · show (setR _ _ _).regs.length = _
            rw [setR_len]; exact hr
          · show (setR _ _ _).trace.length ≤ _
            rw [setR_tr]; omega
        · refine ⟨h.prog, ⟨?_, ?_, x, ?_, this⟩, ?_, ?_⟩
          · show 0 ≤ (setR _ _ _).proc
            rw [setR_proc]; exact hA
          · show 0 ≤ g.pc + 1
            omega
          · show p.procs[(setR _ _ _).proc.toNat]? = _
            rw [setR_proc]; exact hx
          · show (setR _ _ _).regs.length = _
            rw [setR_len]; exact hr
          · show (setR _ _ _).trace.length ≤ _
            rw [setR_tr]; omega
/-- Burning from here, with so much fuel. -/
def burnR (p : Prog) (most : Int) : Nat → Gor → Int → Gor × Int
  | 0, g, n => (g, n)
  | f + 1, g, n => if decide (n < most) && isLoc p g then burnR p most f (stepG p g) (n + 1) else (g, n)
theorem burnR_go {p : Prog} {most : Int} {f : Nat} {g : Gor} {n : Int} (h : (decide (n < most) && isLoc p g) = true) : burnR p most (f + 1) g n = burnR p most f (stepG p g) (n + 1) := by
  rw [burnR, if_pos h]
theorem burnR_end {p : Prog} {most : Int} {f : Nat} {g : Gor} {n : Int} (h : f = 0 ∨ (decide (n < most) && isLoc p g) = false) : burnR p most f g n = (g, n) := by
  cases f with
  | zero => rfl
  | succ f =>
    rcases h with h | h
    · cases h
    · rw [burnR, if_neg (by simp [h])]
theorem burn_inv {p : Prog} {most : Int} : ∀ {f : Nat} {g : Gor} {n : Int} {T : Nat}, Inv p g T → Inv p (burnR p most f g n).1 (T + f)
  | 0, _, _, _, h => h
  | f + 1, g, n, T, h => by
    unfold burnR
    split
    · rename_i hc
      have hs : isShared (atI p g).op = false := by
        simp [isLoc] at hc
        exact hc.2.2
      have := burn_inv (most := most) (f := f) (n := n + 1) (inv_step h hs)
      rw [show T + (f + 1) = T + 1 + f by omega]
      exact this
    · exact ⟨h.prog, h.here, h.regs, Nat.le_trans h.trace (by omega)⟩
set_option maxHeartbeats 1000000 in
theorem over_s (g : Gor) (why : Int) (hl : g.regs.length ≤ 2 ^ 29) (ht : g.trace.length ≤ 2 ^ 29) : Fn Try.prog 115 [.agg g.fr, .int .i64 why] (.agg (over g why).ow) := by
  refine Fn.intro Try.func115 (by decide) rfl (rs := [.cell 4 41]) rfl Try.ntmps115 (by simp) ?_
  obtain ⟨proc, pc, regs, state, trace⟩ := g
  simp only [] at hl ht
  refine SW.regionK fun K hK => ?_
  simp -implicitDefEqProofs
  repeat (refine And.intro (by clear hK; first | omega | (intros; simp_all; done) | (intros; grind)) ?_)
  refine hK _ ?_
  clear hK K
  refine SW.regionK fun K hK => ?_
  simp -implicitDefEqProofs
  repeat (refine And.intro (by clear hK; first | omega | (intros; simp_all; done) | (intros; grind)) ?_)
  refine CallK.imE (copy_s ⟨proc, pc, regs, state, trace⟩ (by simpa using hl) (by simpa using ht)) (by simp) (Gor_oI _) ?_
  simp -implicitDefEqProofs
  repeat (refine And.intro (by clear hK; first | omega | (intros; simp_all; done) | (intros; grind)) ?_)
  refine hK _ ?_
  clear hK K
  refine SW.seqK fun K1 hK1 => ?_
  refine SW.regionK fun K hK => ?_
  simp -implicitDefEqProofs
  repeat (refine And.intro (by clear hK; first | omega | (intros; simp_all; done) | (intros; grind)) ?_)
  refine hK _ ?_
  clear hK K
  refine SW.cond _ rfl (by simp) ?_ ?_
  case' refine_2 =>
   intro hb1
   have hw : ¬ why = 0 := by simpa using hb1
   first
   | (exfalso; simp at hb1; done)
   | (exfalso; simp at hb1; omega)
   | (
    refine SW.skip ?_
    refine hK1 _ ?_
    refine SW.regionK fun K hK => ?_
    simp -implicitDefEqProofs
    repeat (refine And.intro (by clear hK; first | omega | (intros; simp_all; done) | (intros; grind)) ?_)
    refine hK _ ?_
    clear hK K
    refine SW.regionK fun K hK => ?_
    simp -implicitDefEqProofs
    repeat (refine And.intro (by clear hK; first | omega | (intros; simp_all; done) | (intros; grind)) ?_)
    refine CallK.imE (tell_s ⟨proc, pc, regs, 4, trace⟩ ⟨10, 0, why, false⟩ (by simpa using hl) (by simp; omega)) (by simp) (Gor_oI _) ?_
    simp -implicitDefEqProofs
    repeat (refine And.intro (by clear hK; first | omega | (intros; simp_all; done) | (intros; grind)) ?_)
    refine hK _ ?_
    clear hK K
    refine SW.ret ?_
    simp [Ex.then, Ex.inBlock, -strN]
    all_goals first
      | (simp [over, tell, hw, -strN]; exact ⟨IntS_strM _, ItemS_strM _⟩)
      | (simp [over, tell, hw]; done)
      | fail)
  rotate_right
  case' _ =>
   intro hb1
   have hw : why = 0 := by simpa using hb1
   first
   | (exfalso; simp at hb1; done)
   | (exfalso; simp at hb1; omega)
   | (
    refine SW.regionK fun K hK => ?_
    simp -implicitDefEqProofs
    repeat (refine And.intro (by clear hK; first | omega | (intros; simp_all; done) | (intros; grind)) ?_)
    refine hK _ ?_
    clear hK K
    refine SW.regionK fun K hK => ?_
    simp -implicitDefEqProofs
    repeat (refine And.intro (by clear hK; first | omega | (intros; simp_all; done) | (intros; grind)) ?_)
    refine CallK.imE (tell_s ⟨proc, pc, regs, 3, trace⟩ ⟨9, 0, 0, false⟩ (by simpa using hl) (by simp; omega)) (by simp) (Gor_oI _) ?_
    simp -implicitDefEqProofs
    repeat (refine And.intro (by clear hK; first | omega | (intros; simp_all; done) | (intros; grind)) ?_)
    refine hK _ ?_
    clear hK K
    refine SW.ret ?_
    simp [Ex.then, Ex.inBlock, -strN]
    all_goals first
      | (simp [over, tell, hw, -strN]; exact ⟨IntS_strM _, ItemS_strM _⟩)
      | (simp [over, tell, hw]; done)
      | fail)
set_option maxHeartbeats 1000000 in
theorem over_i (g : Gor) (why : Int) (hl : g.regs.length ≤ 2 ^ 29) (ht : g.trace.length ≤ 2 ^ 29) : Fn Try.prog 120 [.agg g.fr, .int .i64 why] (.agg (over g why).ow) := by
  refine Fn.intro Try.func120 (by decide) rfl (rs := [.cell 4 41]) rfl Try.ntmps120 (by simp) ?_
  obtain ⟨proc, pc, regs, state, trace⟩ := g
  simp only [] at hl ht
  refine SW.regionK fun K hK => ?_
  simp -implicitDefEqProofs
  repeat (refine And.intro (by clear hK; first | omega | (intros; simp_all; done) | (intros; grind)) ?_)
  refine hK _ ?_
  clear hK K
  refine SW.seqK fun K1 hK1 => ?_
  refine SW.regionK fun K hK => ?_
  simp -implicitDefEqProofs
  repeat (refine And.intro (by clear hK; first | omega | (intros; simp_all; done) | (intros; grind)) ?_)
  refine hK _ ?_
  clear hK K
  refine SW.cond _ rfl (by simp) ?_ ?_
  case' refine_2 =>
   intro hb1
   have hw : ¬ why = 0 := by simpa using hb1
   first
   | (exfalso; simp at hb1; done)
   | (exfalso; simp at hb1; omega)
   | (
    refine SW.skip ?_
    refine hK1 _ ?_
    refine SW.regionK fun K hK => ?_
    simp -implicitDefEqProofs
    repeat (refine And.intro (by clear hK; first | omega | (intros; simp_all; done) | (intros; grind)) ?_)
    refine hK _ ?_
    clear hK K
    refine SW.regionK fun K hK => ?_
    simp -implicitDefEqProofs
    repeat (refine And.intro (by clear hK; first | omega | (intros; simp_all; done) | (intros; grind)) ?_)
    refine CallK.imE (tell_i ⟨proc, pc, regs, 4, trace⟩ ⟨10, 0, why, false⟩ (by simpa using hl) (by simp; omega)) (by simp) (Gor_oI _) ?_
    simp -implicitDefEqProofs
    repeat (refine And.intro (by clear hK; first | omega | (intros; simp_all; done) | (intros; grind)) ?_)
    refine hK _ ?_
    clear hK K
    refine SW.ret ?_
    simp [Ex.then, Ex.inBlock, -strN]
    all_goals first
      | (simp [over, tell, hw, -strN]; exact ⟨IntS_strM _, ItemS_strM _⟩)
      | (simp [over, tell, hw]; done)
      | fail)
  rotate_right
  case' _ =>
   intro hb1
   have hw : why = 0 := by simpa using hb1
   first
   | (exfalso; simp at hb1; done)
   | (exfalso; simp at hb1; omega)
   | (
    refine SW.regionK fun K hK => ?_
    simp -implicitDefEqProofs
    repeat (refine And.intro (by clear hK; first | omega | (intros; simp_all; done) | (intros; grind)) ?_)
    refine hK _ ?_
    clear hK K
    refine SW.regionK fun K hK => ?_
    simp -implicitDefEqProofs
    repeat (refine And.intro (by clear hK; first | omega | (intros; simp_all; done) | (intros; grind)) ?_)
    refine CallK.imE (tell_i ⟨proc, pc, regs, 3, trace⟩ ⟨9, 0, 0, false⟩ (by simpa using hl) (by simp; omega)) (by simp) (Gor_oI _) ?_
    simp -implicitDefEqProofs
    repeat (refine And.intro (by clear hK; first | omega | (intros; simp_all; done) | (intros; grind)) ?_)
    refine hK _ ?_
    clear hK K
    refine SW.ret ?_
    simp [Ex.then, Ex.inBlock, -strN]
    all_goals first
      | (simp [over, tell, hw, -strN]; exact ⟨IntS_strM _, ItemS_strM _⟩)
      | (simp [over, tell, hw]; done)
      | fail)
end HT

set_option linter.unusedSimpArgs false
set_option linter.unusedVariables false
namespace HT
open Go Go.Proofs HK
theorem imQ {P : Program} {N : Sz} {ds : List (Option Tmp)} {l : List (Bool × Oper)} {d : Option Tmp} {env : Env} {h : Heap} {K : St → Prop} {fid : FuncId} {us vs : List AV} {out : AV} (hf : Fn P fid vs out) (he : us.map (viewN h 6) = vs) (hok : okI out = true)
    (k : runQ P N ds l ⟨putE env d (imp h.length out).1, h ++ (imp h.length out).2.map some⟩ K) : CallQI P N ds l d env h K fid us := CallQI.im (by rw [he]; exact hf) hok k
theorem regD_get {g : Gor} {r v : Int} (h0 : 0 ≤ r) (h : g.regs[r.toNat]? = some v) : regD g r = v := by
  rw [regD, if_pos h0, h]; rfl
set_option maxHeartbeats 1000000 in
theorem stepL_s (p : Prog) (g : Gor) (h : p.ok) (hI : Inv p g 1060000) (hs : isShared (atI p g).op = false) : Fn Try.prog 91 [.agg p.fr, .agg g.fr] (.agg (stepG p g).ow) := by
  refine Fn.intro Try.func91 (by decide) rfl (rs := [.cell 4 41]) rfl Try.ntmps91 (by simp) ?_
  obtain ⟨x, i, hx, hi, hat, hD, h40, hop, f6, f7, f3, fl⟩ := loc_facts hI.prog hI.here hs
  have hg6 := hI.regs
  have htr := hI.trace
  have here := hI.here
  have hpc : -2 ^ 63 ≤ g.pc + 1 ∧ g.pc + 1 < 2 ^ 63 := by obtain ⟨hA, hC, _⟩ := here; omega
  have hw := wrapI (g.pc + 1) hpc.1 hpc.2
  have htk6 : List.take 6 (IntS g.regs) = IntS g.regs := List.take_of_length_le (by simp [hg6])
  refine SW.regionK fun K hK => ?_
  simp -implicitDefEqProofs
  repeat (refine And.intro (by clear hK; first | omega | (intros; simp_all; done) | (intros; grind)) ?_)
  refine hK _ ?_
  clear hK K
  refine SW.regionK fun K hK => ?_
  simp -implicitDefEqProofs [hat]
  repeat (refine And.intro (by clear hK; first | omega | (intros; simp_all; done) | (intros; grind)) ?_)
  first
    | refine CallQ.fzE (instr_s p g here) (by simp) ?_
    | refine CallK.fzE (instr_s p g here) (by simp) ?_
  simp -implicitDefEqProofs [hat]
  repeat (refine And.intro (by clear hK; first | omega | (intros; simp_all; done) | (intros; grind)) ?_)
  refine hK _ ?_
  clear hK K
  refine SW.regionK fun K hK => ?_
  simp -implicitDefEqProofs
  repeat (refine And.intro (by clear hK; first | omega | (intros; simp_all; done) | (intros; grind)) ?_)
  refine CallK.imE (copy_s g (by omega) (by omega)) (by simp) (Gor_oI _) ?_
  simp -implicitDefEqProofs
  repeat (refine And.intro (by clear hK; first | omega | (intros; simp_all; done) | (intros; grind)) ?_)
  refine hK _ ?_
  clear hK K
  refine SW.seqK fun K1 hK1 => ?_
  refine SW.regionK fun K hK => ?_
  simp -implicitDefEqProofs
  repeat (refine And.intro (by clear hK; first | omega | (intros; simp_all; done) | (intros; grind)) ?_)
  refine hK _ ?_
  clear hK K
  refine SW.block ?_
  refine SW.regionK fun K hK => ?_
  simp -implicitDefEqProofs
  repeat (refine And.intro (by clear hK; first | omega | (intros; simp_all; done) | (intros; grind)) ?_)
  refine hK _ ?_
  clear hK K
  refine SW.cond _ rfl (by simp) ?_ ?_
  case' refine_2 =>
   intro hb1
   first
   | (exfalso; simp at hb1; done)
   | (exfalso; simp at hb1; omega)
   | (
    try simp at hb1
    try subst hb1
    refine SW.regionK fun K hK => ?_
    simp -implicitDefEqProofs
    repeat (refine And.intro (by clear hK; first | omega | (intros; simp_all; done) | (intros; grind)) ?_)
    refine hK _ ?_
    clear hK K
    refine SW.cond _ rfl (by simp) ?_ ?_
    case' refine_2 =>
     intro hb2
     first
     | (exfalso; simp at hb2; done)
     | (exfalso; simp at hb2; omega)
     | (
      try simp at hb2
      try subst hb2
      refine SW.seqK fun K2 hK2 => ?_
      refine SW.regionK fun K hK => ?_
      simp -implicitDefEqProofs
      repeat (refine And.intro (by clear hK; first | omega | (intros; simp_all; done) | (intros; grind)) ?_)
      refine hK _ ?_
      clear hK K
      refine SW.cond _ rfl (by simp) ?_ ?_
      case' refine_2 =>
       intro hb3
       first
       | (exfalso; simp at hb3; done)
       | (exfalso; simp at hb3; omega)
       | (
        try simp at hb3
        try subst hb3
        refine SW.regionK fun K hK => ?_
        simp -implicitDefEqProofs
        repeat (refine And.intro (by clear hK; first | omega | (intros; simp_all; done) | (intros; grind)) ?_)
        refine hK _ ?_
        clear hK K
        refine SW.cond _ rfl (by simp) ?_ ?_
        case' refine_2 =>
         intro hb4
         first
         | (exfalso; simp at hb4; done)
         | (exfalso; simp at hb4; omega)
         | (
          try simp at hb4
          try subst hb4
          refine SW.regionE fun K hK => ?_
          simp -implicitDefEqProofs
          repeat (refine And.intro (by clear hK; first | omega | (intros; simp_all; done) | (intros; grind)) ?_)
          refine hK _ ?_
          clear hK K)
        rotate_right
        case' _ =>
         intro hb4
         first
         | (exfalso; simp at hb4; done)
         | (exfalso; simp at hb4; omega)
         | (
          try simp at hb4
          try subst hb4
          refine SW.skip ?_))
      rotate_right
      case' _ =>
       intro hb3
       first
       | (exfalso; simp at hb3; done)
       | (exfalso; simp at hb3; omega)
       | (
        try simp at hb3
        try subst hb3
        refine SW.skip ?_)
      all_goals (
       refine hK2 _ ?_
       refine SW.cond _ rfl (by simp) ?_ ?_
       case' refine_2 =>
        intro hb5
        first
        | (exfalso; simp at hb5; done)
        | (exfalso; simp at hb5; omega)
        | (
         try simp at hb5
         try subst hb5
         refine SW.regionK fun K hK => ?_
         simp -implicitDefEqProofs
         repeat (refine And.intro (by clear hK; first | omega | (intros; simp_all; done) | (intros; grind)) ?_)
         refine hK _ ?_
         clear hK K
         refine SW.cond _ rfl (by simp) ?_ ?_
         case' refine_2 =>
          intro hb6
          first
          | (exfalso; simp at hb6; done)
          | (exfalso; simp at hb6; omega)
          | (
           try simp at hb6
           try subst hb6
           refine SW.regionK fun K hK => ?_
           simp -implicitDefEqProofs
           repeat (refine And.intro (by clear hK; first | omega | (intros; simp_all; done) | (intros; grind)) ?_)
           refine hK _ ?_
           clear hK K
           refine SW.cond _ rfl (by simp) ?_ ?_
           case' refine_2 =>
            intro hb7
            first
            | (exfalso; simp at hb7; done)
            | (exfalso; simp at hb7; omega)
            | (
             try simp at hb7
             try subst hb7
             refine SW.skip ?_)
           rotate_right
           case' _ =>
            intro hb7
            first
            | (exfalso; simp at hb7; done)
            | (exfalso; simp at hb7; omega)
            | (
             try simp at hb7
             try subst hb7
             refine SW.regionK fun K hK => ?_
             simp -implicitDefEqProofs
             repeat (refine And.intro (by clear hK; first | omega | (intros; simp_all; done) | (intros; grind)) ?_)
             first
               | refine CallQ.fzE (reg_s2 g i.a (by omega)) (by simp) ?_
               | refine CallK.fzE (reg_s2 g i.a (by omega)) (by simp) ?_
             simp -implicitDefEqProofs
             repeat (refine And.intro (by clear hK; first | omega | (intros; simp_all; done) | (intros; grind)) ?_)
             refine hK _ ?_
             clear hK K
             refine SW.cond _ rfl (by simp) ?_ ?_
             case' refine_2 =>
              intro hb8
              first
              | (exfalso; simp at hb8; done)
              | (exfalso; simp at hb8; omega)
              | (
               try simp at hb8
               try subst hb8
               have hst : stepG p g = { g with pc := g.pc + 1 } := by simp [stepG, hat, *]
               refine SW.skip ?_)
             rotate_right
             case' _ =>
              intro hb8
              first
              | (exfalso; simp at hb8; done)
              | (exfalso; simp at hb8; omega)
              | (
               try simp at hb8
               try subst hb8
               have hst : stepG p g = { g with pc := i.b } := by simp [stepG, hat, *]
               refine SW.regionK fun K hK => ?_
               simp -implicitDefEqProofs
               repeat (refine And.intro (by clear hK; first | omega | (intros; simp_all; done) | (intros; grind)) ?_)
               refine hK _ ?_
               clear hK K
               refine SW.regionK fun K hK => ?_
               simp -implicitDefEqProofs
               repeat (refine And.intro (by clear hK; first | omega | (intros; simp_all; done) | (intros; grind)) ?_)
               refine hK _ ?_
               clear hK K
               refine SW.ret ?_
               simp [Ex.then, Ex.inBlock, -strN]
               all_goals first
                 | (simp [hst, setR_pc, hw, strS_int, strS_bool, -strN]; done)
                 | fail)))
         rotate_right
         case' _ =>
          intro hb6
          first
          | (exfalso; simp at hb6; done)
          | (exfalso; simp at hb6; omega)
          | (
           try simp at hb6
           try subst hb6
           have hst : stepG p g = { g with pc := i.a } := by simp [stepG, hat, *]
           refine SW.regionK fun K hK => ?_
           simp -implicitDefEqProofs
           repeat (refine And.intro (by clear hK; first | omega | (intros; simp_all; done) | (intros; grind)) ?_)
           refine hK _ ?_
           clear hK K
           refine SW.regionK fun K hK => ?_
           simp -implicitDefEqProofs
           repeat (refine And.intro (by clear hK; first | omega | (intros; simp_all; done) | (intros; grind)) ?_)
           refine hK _ ?_
           clear hK K
           refine SW.ret ?_
           simp [Ex.then, Ex.inBlock, -strN]
           all_goals first
             | (simp [hst, setR_pc, hw, strS_int, strS_bool, -strN]; done)
             | fail))
       rotate_right
       case' _ =>
        intro hb5
        first
        | (exfalso; simp at hb5; done)
        | (exfalso; simp at hb5; omega)
        | (
         try simp at hb5
         try subst hb5
         have hst : stepG p g = { setR g i.a (calcR i.op (regD g i.b) (regD g i.c)) with pc := g.pc + 1 } := by simp [stepG, hat, *]
         refine SW.drawE mixed [.q [(0, false), (1, false), (2, false), (3, false), (4, false), (5, false), (6, false), (7, false), (8, false), (9, false), (10, false), (11, false), (12, false), (13, false), (14, true)], .b 15] (by kernel_rfl) rfl fun K hK => ?_
         simp -implicitDefEqProofs
         repeat (refine And.intro (by clear hK; first | omega | (intros; simp_all; done) | (intros; grind)) ?_)
         first
           | refine CallQ.fzE (reg_s2 g i.b (by omega)) (by simp) ?_
           | refine CallK.fzE (reg_s2 g i.b (by omega)) (by simp) ?_
         simp -implicitDefEqProofs
         repeat (refine And.intro (by clear hK; first | omega | (intros; simp_all; done) | (intros; grind)) ?_)
         first
           | refine CallQ.fzE (reg_s2 g i.c (by omega)) (by simp) ?_
           | refine CallK.fzE (reg_s2 g i.c (by omega)) (by simp) ?_
         simp -implicitDefEqProofs
         repeat (refine And.intro (by clear hK; first | omega | (intros; simp_all; done) | (intros; grind)) ?_)
         refine CallQ.fzE (calc_s i.op (regD g i.b) (regD g i.c)) (by simp [*]) ?_
         simp -implicitDefEqProofs
         repeat (refine And.intro (by clear hK; first | omega | (intros; simp_all; done) | (intros; grind)) ?_)
         refine imQ (setReg_s g i.a (calcR i.op (regD g i.b) (regD g i.c)) (by omega) (by omega)) (by simp [*]) (Gor_oI _) ?_
         simp -implicitDefEqProofs
         repeat (refine And.intro (by clear hK; first | omega | (intros; simp_all; done) | (intros; grind)) ?_)
         refine hK _ ?_
         clear hK K)))
    rotate_right
    case' _ =>
     intro hb2
     first
     | (exfalso; simp at hb2; done)
     | (exfalso; simp at hb2; omega)
     | (
      try simp at hb2
      try subst hb2
      have hst : stepG p g = { setR g i.a i.b with pc := g.pc + 1 } := by simp [stepG, hat, *]
      refine SW.regionE fun K hK => ?_
      simp -implicitDefEqProofs
      repeat (refine And.intro (by clear hK; first | omega | (intros; simp_all; done) | (intros; grind)) ?_)
      refine CallK.imE (setReg_s g i.a i.b (by omega) (by omega)) (by simp) (Gor_oI _) ?_
      simp -implicitDefEqProofs
      repeat (refine And.intro (by clear hK; first | omega | (intros; simp_all; done) | (intros; grind)) ?_)
      refine hK _ ?_
      clear hK K))
  rotate_right
  case' _ =>
   intro hb1
   first
   | (exfalso; simp at hb1; done)
   | (exfalso; simp at hb1; omega)
   | (
    try simp at hb1
    try subst hb1
    have hst : stepG p g = over g 0 := by simp [stepG, hat, *]
    refine SW.regionK fun K hK => ?_
    simp -implicitDefEqProofs
    repeat (refine And.intro (by clear hK; first | omega | (intros; simp_all; done) | (intros; grind)) ?_)
    refine CallK.imE (over_s g 0 (by omega) (by omega)) (by simp) (Gor_oI _) ?_
    simp -implicitDefEqProofs
    repeat (refine And.intro (by clear hK; first | omega | (intros; simp_all; done) | (intros; grind)) ?_)
    refine hK _ ?_
    clear hK K
    refine SW.ret ?_
    simp [Ex.then, Ex.inBlock, -strN]
    all_goals first
      | (simp [hst, setR_pc, hw, strS_int, strS_bool, -strN]; done)
      | fail)
  all_goals (
   refine hK1 _ ?_
   refine SW.regionK fun K hK => ?_
   simp -implicitDefEqProofs [hw]
   repeat (refine And.intro (by clear hK; first | omega | (intros; simp_all; done) | (intros; grind)) ?_)
   refine hK _ ?_
   clear hK K
   refine SW.regionK fun K hK => ?_
   simp -implicitDefEqProofs
   repeat (refine And.intro (by clear hK; first | omega | (intros; simp_all; done) | (intros; grind)) ?_)
   refine hK _ ?_
   clear hK K
   refine SW.ret ?_
   simp [Ex.then, Ex.inBlock, -strN]
   all_goals first
     | (simp [hst, setR_pc, hw, strS_int, strS_bool, -strN]; done)
     | fail)
set_option maxHeartbeats 1000000 in
theorem stepLocal_i (p : Prog) (g : Gor) (h : p.ok) (hI : Inv p g 1060000) (hs : isShared (atI p g).op = false) : CallS Try.prog 93 [.agg p.fr, .agg [.int .i64 g.proc, .int .i64 g.pc, .sl 0 0 g.regs.length, .int .i64 g.state, .sl 1 0 g.trace.length]] ([some ⟨1, IntS g.regs⟩, some ⟨4, ItemS g.trace⟩]) (fun o h' => o = .agg [.int .i64 (stepG p g).proc, .int .i64 (stepG p g).pc, .sl 2 0 (stepG p g).regs.length, .int .i64 (stepG p g).state, .sl 3 0 (stepG p g).trace.length] ∧ h' = [none, none, some ⟨1, IntS (stepG p g).regs⟩, some ⟨4, ItemS (stepG p g).trace⟩, some ⟨5, [[.int .i64 (stepG p g).proc, .int .i64 (stepG p g).pc, .sl 2 0 (stepG p g).regs.length, .int .i64 (stepG p g).state, .sl 3 0 (stepG p g).trace.length]]⟩]) := by
  refine CallS.intro Try.func93 (by decide) rfl (rs := [.cell 4 41]) rfl Try.ntmps93 (by simp) ?_
  obtain ⟨x, i, hx, hi, hat, hD, h40, hop, f6, f7, f3, fl⟩ := loc_facts hI.prog hI.here hs
  have hg6 := hI.regs
  have htr := hI.trace
  have here := hI.here
  have hpc : -2 ^ 63 ≤ g.pc + 1 ∧ g.pc + 1 < 2 ^ 63 := by obtain ⟨hA, hC, _⟩ := here; omega
  have hw := wrapI (g.pc + 1) hpc.1 hpc.2
  have htk6 : List.take 6 (IntS g.regs) = IntS g.regs := List.take_of_length_le (by simp [hg6])
  refine SW.regionK fun K hK => ?_
  simp -implicitDefEqProofs
  repeat (refine And.intro (by clear hK; first | omega | (intros; simp_all; done) | (intros; grind)) ?_)
  refine hK _ ?_
  clear hK K
  refine SW.regionK fun K hK => ?_
  simp -implicitDefEqProofs [hat]
  repeat (refine And.intro (by clear hK; first | omega | (intros; simp_all; done) | (intros; grind)) ?_)
  first
    | refine CallQ.fzE (instr_i p g here) (by simp) ?_
    | refine CallK.fzE (instr_i p g here) (by simp) ?_
  simp -implicitDefEqProofs [hat]
  repeat (refine And.intro (by clear hK; first | omega | (intros; simp_all; done) | (intros; grind)) ?_)
  refine hK _ ?_
  clear hK K
  refine SW.seqK fun K1 hK1 => ?_
  refine SW.regionK fun K hK => ?_
  simp -implicitDefEqProofs
  repeat (refine And.intro (by clear hK; first | omega | (intros; simp_all; done) | (intros; grind)) ?_)
  refine hK _ ?_
  clear hK K
  refine SW.block ?_
  refine SW.regionK fun K hK => ?_
  simp -implicitDefEqProofs
  repeat (refine And.intro (by clear hK; first | omega | (intros; simp_all; done) | (intros; grind)) ?_)
  refine hK _ ?_
  clear hK K
  refine SW.cond _ rfl (by simp) ?_ ?_
  case' refine_2 =>
   intro hb1
   first
   | (exfalso; simp at hb1; done)
   | (exfalso; simp at hb1; omega)
   | (
    try simp at hb1
    try subst hb1
    refine SW.regionK fun K hK => ?_
    simp -implicitDefEqProofs
    repeat (refine And.intro (by clear hK; first | omega | (intros; simp_all; done) | (intros; grind)) ?_)
    refine hK _ ?_
    clear hK K
    refine SW.cond _ rfl (by simp) ?_ ?_
    case' refine_2 =>
     intro hb2
     first
     | (exfalso; simp at hb2; done)
     | (exfalso; simp at hb2; omega)
     | (
      try simp at hb2
      try subst hb2
      refine SW.regionK fun K hK => ?_
      simp -implicitDefEqProofs
      repeat (refine And.intro (by clear hK; first | omega | (intros; simp_all; done) | (intros; grind)) ?_)
      refine hK _ ?_
      clear hK K
      refine SW.cond _ rfl (by simp) ?_ ?_
      case' refine_2 =>
       intro hb3
       first
       | (exfalso; simp at hb3; done)
       | (exfalso; simp at hb3; omega)
       | (
        try simp at hb3
        try subst hb3
        refine SW.regionK fun K hK => ?_
        simp -implicitDefEqProofs
        repeat (refine And.intro (by clear hK; first | omega | (intros; simp_all; done) | (intros; grind)) ?_)
        refine hK _ ?_
        clear hK K
        refine SW.cond _ rfl (by simp) ?_ ?_
        case' refine_2 =>
         intro hb4
         first
         | (exfalso; simp at hb4; done)
         | (exfalso; simp at hb4; omega)
         | (
          try simp at hb4
          try subst hb4
          have hB := f3 (by omega)
          have hB0 : 0 ≤ i.b := hB.1
          have hB1 : i.b < 6 := hB.2.1
          have hC0 : 0 ≤ i.c := hB.2.2.1
          have hC1 : i.c < 6 := hB.2.2.2
          obtain ⟨vb, hvb⟩ : ∃ q, g.regs[i.b.toNat]? = some q := ⟨_, List.getElem?_eq_getElem (by omega)⟩
          have vbE : ∀ h, g.regs[i.b.toNat]'h = vb := fun h => (List.getElem?_eq_some_iff.1 hvb).2
          have vbD : regD g i.b = vb := regD_get (by omega) hvb
          obtain ⟨vc, hvc⟩ : ∃ q, g.regs[i.c.toNat]? = some q := ⟨_, List.getElem?_eq_getElem (by omega)⟩
          have vcE : ∀ h, g.regs[i.c.toNat]'h = vc := fun h => (List.getElem?_eq_some_iff.1 hvc).2
          have vcD : regD g i.c = vc := regD_get (by omega) hvc
          have hst : stepG p g = { setR g i.a (calcR i.op vb vc) with pc := g.pc + 1 } := by simp [stepG, hat, *]
          refine SW.drawE mixed [.q [(0, false), (1, false), (2, false), (3, false), (4, false), (5, false), (6, false), (7, false), (8, false), (9, false), (10, false), (11, false), (12, false), (13, false), (14, false), (15, false), (16, false), (17, false), (18, true)], .b 19] (by kernel_rfl) rfl fun K hK => ?_
          simp -implicitDefEqProofs [hg6, hvb, vbE, hvc, vcE, hB0, hB1, hC0, hC1]
          repeat (refine And.intro (by clear hK; first | omega | (intros; simp_all; done) | (intros; grind)) ?_)
          refine CallQ.fzE (calc_i i.op vb vc) (by simp [*]) ?_
          simp -implicitDefEqProofs [hg6, hvb, vbE, hvc, vcE, hB0, hB1, hC0, hC1]
          repeat (refine And.intro (by clear hK; first | omega | (intros; simp_all; done) | (intros; grind)) ?_)
          refine imQ (setReg_i g i.a (calcR i.op vb vc) (by omega) (by omega)) (by simp [*]) (Gor_oI _) ?_
          simp -implicitDefEqProofs [hg6, hvb, vbE, hvc, vcE, hB0, hB1, hC0, hC1]
          repeat (refine And.intro (by clear hK; first | omega | (intros; simp_all; done) | (intros; grind)) ?_)
          refine hK _ ?_
          clear hK K)
        rotate_right
        case' _ =>
         intro hb4
         first
         | (exfalso; simp at hb4; done)
         | (exfalso; simp at hb4; omega)
         | (
          try simp at hb4
          try subst hb4
          have hst : stepG p g = { setR g i.a i.b with pc := g.pc + 1 } := by simp [stepG, hat, *]
          refine SW.regionE fun K hK => ?_
          simp -implicitDefEqProofs
          repeat (refine And.intro (by clear hK; first | omega | (intros; simp_all; done) | (intros; grind)) ?_)
          refine CallK.imE (setReg_i g i.a i.b (by omega) (by omega)) (by simp) (Gor_oI _) ?_
          simp -implicitDefEqProofs
          repeat (refine And.intro (by clear hK; first | omega | (intros; simp_all; done) | (intros; grind)) ?_)
          refine hK _ ?_
          clear hK K))
      rotate_right
      case' _ =>
       intro hb3
       first
       | (exfalso; simp at hb3; done)
       | (exfalso; simp at hb3; omega)
       | (
        try simp at hb3
        try subst hb3
        have hA := f7 (by assumption)
        have hA0 : 0 ≤ i.a := hA.1
        have hA1 : i.a < 6 := hA.2.1
        obtain ⟨va, hva⟩ : ∃ q, g.regs[i.a.toNat]? = some q := ⟨_, List.getElem?_eq_getElem (by omega)⟩
        have vaE : ∀ h, g.regs[i.a.toNat]'h = va := fun h => (List.getElem?_eq_some_iff.1 hva).2
        have vaD : regD g i.a = va := regD_get (by omega) hva
        refine SW.regionK fun K hK => ?_
        simp -implicitDefEqProofs [hw]
        repeat (refine And.intro (by clear hK; first | omega | (intros; simp_all; done) | (intros; grind)) ?_)
        refine hK _ ?_
        clear hK K
        refine SW.seqK fun K2 hK2 => ?_
        refine SW.regionK fun K hK => ?_
        simp -implicitDefEqProofs [hg6, hva, vaE, hA0, hA1]
        repeat (refine And.intro (by clear hK; first | omega | (intros; simp_all; done) | (intros; grind)) ?_)
        refine hK _ ?_
        clear hK K
        refine SW.cond _ rfl (by simp) ?_ ?_
        case' refine_2 =>
         intro hb5
         first
         | (exfalso; simp at hb5; done)
         | (exfalso; simp at hb5; omega)
         | (
          try simp at hb5
          try subst hb5
          have hst : stepG p g = { g with pc := g.pc + 1 } := by simp [stepG, hat, *]
          refine SW.skip ?_)
        rotate_right
        case' _ =>
         intro hb5
         first
         | (exfalso; simp at hb5; done)
         | (exfalso; simp at hb5; omega)
         | (
          try simp at hb5
          try subst hb5
          have hst : stepG p g = { g with pc := i.b } := by simp [stepG, hat, *]
          refine SW.regionE fun K hK => ?_
          simp -implicitDefEqProofs
          repeat (refine And.intro (by clear hK; first | omega | (intros; simp_all; done) | (intros; grind)) ?_)
          refine hK _ ?_
          clear hK K)
        all_goals (
         refine hK2 _ ?_
         refine SW.regionK fun K hK => ?_
         simp -implicitDefEqProofs
         repeat (refine And.intro (by clear hK; first | omega | (intros; simp_all; done) | (intros; grind)) ?_)
         refine hK _ ?_
         clear hK K
         first
           | (refine SW.wk (Wk.renX [0, 1, 6, 7, 4] (env' := [(4, .ptr 4 0 0)]) (h' := [none, none, some ⟨1, IntS (stepG p g).regs⟩, some ⟨4, ItemS (stepG p g).trace⟩, some ⟨5, [[.int .i64 (stepG p g).proc, .int .i64 (stepG p g).pc, .sl 2 0 (stepG p g).regs.length, .int .i64 (stepG p g).state, .sl 3 0 (stepG p g).trace.length]]⟩]) ?_ ?_ ?_ ?_ ?_ ?_ ?_ ?_) ?_
              · simp
              · intro j hj; simp at hj; (rcases j with _ | _ | j <;> first | rfl | omega)
              · simp
              · simp
              · simp [renE, renN]
              · simp [renH, hst, setR_pc, hw, hg6]
              · simp [lowE, lowN]
              · simp)
           | (refine SW.wk (Wk.renX [0, 1, 0, 1, 4] (env' := [(4, .ptr 4 0 0)]) (h' := [none, none, some ⟨1, IntS (stepG p g).regs⟩, some ⟨4, ItemS (stepG p g).trace⟩, some ⟨5, [[.int .i64 (stepG p g).proc, .int .i64 (stepG p g).pc, .sl 2 0 (stepG p g).regs.length, .int .i64 (stepG p g).state, .sl 3 0 (stepG p g).trace.length]]⟩]) ?_ ?_ ?_ ?_ ?_ ?_ ?_ ?_) ?_
              · simp
              · intro j hj; simp at hj; (rcases j with _ | _ | j <;> first | rfl | omega)
              · simp
              · simp
              · simp [renE, renN]
              · simp [renH, hst, setR_pc, hw, hg6]
              · simp [lowE, lowN]
              · simp)
           | fail
         refine SW.ret ?_
         simp [Ex.then, Ex.inBlock]
         all_goals (try simp))))
    rotate_right
    case' _ =>
     intro hb2
     first
     | (exfalso; simp at hb2; done)
     | (exfalso; simp at hb2; omega)
     | (
      try simp at hb2
      try subst hb2
      have hst : stepG p g = { g with pc := i.a } := by simp [stepG, hat, *]
      refine SW.regionK fun K hK => ?_
      simp -implicitDefEqProofs
      repeat (refine And.intro (by clear hK; first | omega | (intros; simp_all; done) | (intros; grind)) ?_)
      refine hK _ ?_
      clear hK K
      refine SW.regionK fun K hK => ?_
      simp -implicitDefEqProofs
      repeat (refine And.intro (by clear hK; first | omega | (intros; simp_all; done) | (intros; grind)) ?_)
      refine hK _ ?_
      clear hK K
      first
        | (refine SW.wk (Wk.renX [0, 1, 6, 7, 4] (env' := [(4, .ptr 4 0 0)]) (h' := [none, none, some ⟨1, IntS (stepG p g).regs⟩, some ⟨4, ItemS (stepG p g).trace⟩, some ⟨5, [[.int .i64 (stepG p g).proc, .int .i64 (stepG p g).pc, .sl 2 0 (stepG p g).regs.length, .int .i64 (stepG p g).state, .sl 3 0 (stepG p g).trace.length]]⟩]) ?_ ?_ ?_ ?_ ?_ ?_ ?_ ?_) ?_
           · simp
           · intro j hj; simp at hj; (rcases j with _ | _ | j <;> first | rfl | omega)
           · simp
           · simp
           · simp [renE, renN]
           · simp [renH, hst, setR_pc, hw, hg6]
           · simp [lowE, lowN]
           · simp)
        | (refine SW.wk (Wk.renX [0, 1, 0, 1, 4] (env' := [(4, .ptr 4 0 0)]) (h' := [none, none, some ⟨1, IntS (stepG p g).regs⟩, some ⟨4, ItemS (stepG p g).trace⟩, some ⟨5, [[.int .i64 (stepG p g).proc, .int .i64 (stepG p g).pc, .sl 2 0 (stepG p g).regs.length, .int .i64 (stepG p g).state, .sl 3 0 (stepG p g).trace.length]]⟩]) ?_ ?_ ?_ ?_ ?_ ?_ ?_ ?_) ?_
           · simp
           · intro j hj; simp at hj; (rcases j with _ | _ | j <;> first | rfl | omega)
           · simp
           · simp
           · simp [renE, renN]
           · simp [renH, hst, setR_pc, hw, hg6]
           · simp [lowE, lowN]
           · simp)
        | fail
      refine SW.ret ?_
      simp [Ex.then, Ex.inBlock]
      all_goals (try simp)))
  rotate_right
  case' _ =>
   intro hb1
   first
   | (exfalso; simp at hb1; done)
   | (exfalso; simp at hb1; omega)
   | (
    try simp at hb1
    try subst hb1
    have hst : stepG p g = over g 0 := by simp [stepG, hat, *]
    refine SW.regionK fun K hK => ?_
    simp -implicitDefEqProofs
    repeat (refine And.intro (by clear hK; first | omega | (intros; simp_all; done) | (intros; grind)) ?_)
    refine CallK.imE (over_i g 0 (by omega) (by omega)) (by simp) (Gor_oI _) ?_
    simp -implicitDefEqProofs
    repeat (refine And.intro (by clear hK; first | omega | (intros; simp_all; done) | (intros; grind)) ?_)
    refine hK _ ?_
    clear hK K
    first
      | (refine SW.wk (Wk.renX [0, 1, 6, 7, 4] (env' := [(4, .ptr 4 0 0)]) (h' := [none, none, some ⟨1, IntS (stepG p g).regs⟩, some ⟨4, ItemS (stepG p g).trace⟩, some ⟨5, [[.int .i64 (stepG p g).proc, .int .i64 (stepG p g).pc, .sl 2 0 (stepG p g).regs.length, .int .i64 (stepG p g).state, .sl 3 0 (stepG p g).trace.length]]⟩]) ?_ ?_ ?_ ?_ ?_ ?_ ?_ ?_) ?_
         · simp
         · intro j hj; simp at hj; (rcases j with _ | _ | j <;> first | rfl | omega)
         · simp
         · simp
         · simp [renE, renN]
         · simp [renH, hst, setR_pc, hw, hg6]
         · simp [lowE, lowN]
         · simp)
      | (refine SW.wk (Wk.renX [0, 1, 0, 1, 4] (env' := [(4, .ptr 4 0 0)]) (h' := [none, none, some ⟨1, IntS (stepG p g).regs⟩, some ⟨4, ItemS (stepG p g).trace⟩, some ⟨5, [[.int .i64 (stepG p g).proc, .int .i64 (stepG p g).pc, .sl 2 0 (stepG p g).regs.length, .int .i64 (stepG p g).state, .sl 3 0 (stepG p g).trace.length]]⟩]) ?_ ?_ ?_ ?_ ?_ ?_ ?_ ?_) ?_
         · simp
         · intro j hj; simp at hj; (rcases j with _ | _ | j <;> first | rfl | omega)
         · simp
         · simp
         · simp [renE, renN]
         · simp [renH, hst, setR_pc, hw, hg6]
         · simp [lowE, lowN]
         · simp)
      | fail
    refine SW.ret ?_
    simp [Ex.then, Ex.inBlock]
    all_goals (try simp))
  all_goals (
   refine hK1 _ ?_
   refine SW.regionK fun K hK => ?_
   simp -implicitDefEqProofs [hw]
   repeat (refine And.intro (by clear hK; first | omega | (intros; simp_all; done) | (intros; grind)) ?_)
   refine hK _ ?_
   clear hK K
   refine SW.regionK fun K hK => ?_
   simp -implicitDefEqProofs
   repeat (refine And.intro (by clear hK; first | omega | (intros; simp_all; done) | (intros; grind)) ?_)
   refine hK _ ?_
   clear hK K
   first
     | (refine SW.wk (Wk.renX [0, 1, 6, 7, 4] (env' := [(4, .ptr 4 0 0)]) (h' := [none, none, some ⟨1, IntS (stepG p g).regs⟩, some ⟨4, ItemS (stepG p g).trace⟩, some ⟨5, [[.int .i64 (stepG p g).proc, .int .i64 (stepG p g).pc, .sl 2 0 (stepG p g).regs.length, .int .i64 (stepG p g).state, .sl 3 0 (stepG p g).trace.length]]⟩]) ?_ ?_ ?_ ?_ ?_ ?_ ?_ ?_) ?_
        · simp
        · intro j hj; simp at hj; (rcases j with _ | _ | j <;> first | rfl | omega)
        · simp
        · simp
        · simp [renE, renN]
        · simp [renH, hst, setR_pc, hw, hg6]
        · simp [lowE, lowN]
        · simp)
     | (refine SW.wk (Wk.renX [0, 1, 0, 1, 4] (env' := [(4, .ptr 4 0 0)]) (h' := [none, none, some ⟨1, IntS (stepG p g).regs⟩, some ⟨4, ItemS (stepG p g).trace⟩, some ⟨5, [[.int .i64 (stepG p g).proc, .int .i64 (stepG p g).pc, .sl 2 0 (stepG p g).regs.length, .int .i64 (stepG p g).state, .sl 3 0 (stepG p g).trace.length]]⟩]) ?_ ?_ ?_ ?_ ?_ ?_ ?_ ?_) ?_
        · simp
        · intro j hj; simp at hj; (rcases j with _ | _ | j <;> first | rfl | omega)
        · simp
        · simp
        · simp [renE, renN]
        · simp [renH, hst, setR_pc, hw, hg6]
        · simp [lowE, lowN]
        · simp)
     | fail
   refine SW.ret ?_
   simp [Ex.then, Ex.inBlock]
   all_goals (try simp))
end HT
