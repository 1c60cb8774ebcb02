import Derived.Test.YtdhoappjadnhcaaGreatG4
import Derived.Test.YtdhoappjadnhcaaGreatG3
/-
  My own texts (road H): HCT4 HCT7.
-/
set_option maxHeartbeats 8000000
set_option linter.unusedSimpArgs false
set_option linter.unusedVariables false
namespace HT
open Go Go.Proofs HK
theorem szIntS_ok (l : List Int) (m : Int) (h : l.length ≤ maxLen) (h0 : 0 ≤ m) (h1 : m ≤ 1048576) : Fn Tryz.prog 38 [.fz (IntS l), .int .i64 m] (.int .i64 (szR l.length m)) := by
  refine Fn.intro Tryz.func38 (by decide) rfl (rs := [.tmp 4]) rfl Tryz.ntmps38 (by simp) ?_; have hm9 : l.length ≤ 2 ^ 63 - 1 := h
  have hw := wrapI (m - (l.length : Int)) (by omega) (by omega)
  have qq := szR_cases l.length m
  refine SW.ra ?_; refine SW.rg fun K hK => ?_; simp -implicitDefEqProofs [hw]; repeat refine ⟨by omega, ?_⟩
  refine hK _ ?_; clear hK K; refine SW.seqK fun K1 hK1 => ?_; refine SW.ra ?_; refine SW.cond _ rfl (by simp) ?_ ?_
  case' refine_1 =>
   intro hb1; refine SW.ra ?_; refine SW.ret ?_; simp [Ex.then, Ex.ib]
   all_goals (simp at *)
   all_goals omega
  intro hb1; refine SW.skip ?_; refine hK1 _ ?_; refine SW.ra ?_; refine SW.ret ?_; simp [Ex.then, Ex.ib]
  all_goals (simp at *)
  all_goals omega
theorem szItemS_ok (l : List Item) (m : Int) (h : l.length ≤ maxLen) (h0 : 0 ≤ m) (h1 : m ≤ 1048576) : Fn Tryz.prog 180 [.fz (ItemS l), .int .i64 m] (.int .i64 (szR l.length m)) := by
  refine Fn.intro Tryz.func180 (by decide) rfl (rs := [.tmp 4]) rfl Tryz.ntmps180 (by simp) ?_; have hm9 : l.length ≤ 2 ^ 63 - 1 := h
  have hw := wrapI (m - (l.length : Int)) (by omega) (by omega)
  have qq := szR_cases l.length m
  refine SW.ra ?_; refine SW.rg fun K hK => ?_; simp -implicitDefEqProofs [hw]; repeat refine ⟨by omega, ?_⟩
  refine hK _ ?_; clear hK K; refine SW.seqK fun K1 hK1 => ?_; refine SW.ra ?_; refine SW.cond _ rfl (by simp) ?_ ?_
  case' refine_1 =>
   intro hb1; refine SW.ra ?_; refine SW.ret ?_; simp [Ex.then, Ex.ib]
   all_goals (simp at *)
   all_goals omega
  intro hb1; refine SW.skip ?_; refine hK1 _ ?_; refine SW.ra ?_; refine SW.ret ?_; simp [Ex.then, Ex.ib]
  all_goals (simp at *)
  all_goals omega
theorem szGor_ok (d : Gor) (m : Int) (h : d.fit) (h0 : 0 ≤ m) (h1 : m ≤ 1048576) : Fn Tryz.prog 98 [.agg d.fr, .int .i64 m] (.int .i64 (szR d.sz m)) := by
  refine Fn.intro Tryz.func98 (by decide) rfl (rs := [.tmp 4]) rfl Tryz.ntmps98 (by simp) ?_; unfold Gor.fit at h; obtain ⟨b2, b4⟩ := h; refine SW.ra ?_; refine SW.rg fun K hK => ?_; simp -implicitDefEqProofs
  iterate 2 (try refine ⟨by omega, ?_⟩)
  refine CallK.fzE (szIntS_ok d.regs (m) b2 (by omega) (by omega)) (by simp) ?_; simp -implicitDefEqProofs; repeat refine ⟨by omega, ?_⟩
  refine hK _ ?_; clear hK K; refine SW.seqK fun K1 hK1 => ?_; refine SW.ra ?_; refine SW.cond _ rfl (by simp) ?_ ?_
  case' refine_1 =>
   intro hb1; have q0 := szR_cases d.regs.length (m)
   refine SW.ra ?_; refine SW.ret ?_; simp [Ex.then, Ex.ib]
   all_goals (
     have qq := szR_cases d.sz m
     unfold Gor.sz at qq ⊢
     first | (simp at *; done) | (simp at *; omega))
  intro hb1; have q0 := szR_cases d.regs.length (m)
  have n0 : 0 ≤ szR d.regs.length (m) := by simp at hb1; omega
  refine SW.skip ?_; refine hK1 _ ?_; refine SW.rg fun K hK => ?_; simp -implicitDefEqProofs; iterate 2 (try refine ⟨by omega, ?_⟩)
  refine CallK.fzE (szItemS_ok d.trace (szR d.regs.length (m)) b4 (by omega) (by omega)) (by simp) ?_; simp -implicitDefEqProofs; repeat refine ⟨by omega, ?_⟩
  refine hK _ ?_; clear hK K; refine SW.seqK fun K2 hK2 => ?_; refine SW.ra ?_; refine SW.cond _ rfl (by simp) ?_ ?_
  case' refine_1 =>
   intro hb2; have q1 := szR_cases d.trace.length (szR d.regs.length (m))
   refine SW.ra ?_; refine SW.ret ?_; simp [Ex.then, Ex.ib]
   all_goals (
     have qq := szR_cases d.sz m
     unfold Gor.sz at qq ⊢
     first | (simp at *; done) | (simp at *; omega))
  intro hb2; have q1 := szR_cases d.trace.length (szR d.regs.length (m))
  have n1 : 0 ≤ szR d.trace.length (szR d.regs.length (m)) := by simp at hb2; omega
  refine SW.skip ?_; refine hK2 _ ?_; refine SW.ra ?_; refine SW.ret ?_; simp [Ex.then, Ex.ib]
  all_goals (
    have qq := szR_cases d.sz m
    unfold Gor.sz at qq ⊢
    first | (simp at *; done) | (simp at *; omega))
theorem szGorS_ok (l : List Gor) (m : Int) (hh : l.length ≤ maxLen ∧ ∀ x ∈ l, x.fit) (h0 : 0 ≤ m) (h1 : m ≤ 1048576) : Fn Tryz.prog 41 [.fz (GorSf l), .int .i64 m] (.int .i64 (szR (szL Gor.sz l) m)) := by
  refine Fn.intro Tryz.func41 (by decide) rfl (rs := [.tmp 4]) rfl Tryz.ntmps41 (by simp) ?_; obtain ⟨h, hf⟩ := hh; have hm9 : l.length ≤ 2 ^ 63 - 1 := h
  have hw := wrapI (m - (l.length : Int)) (by omega) (by omega)
  have qq := szR_cases (szL Gor.sz l) m
  have hL : szL Gor.sz l = l.length + (l.map Gor.sz).sum := rfl
  refine SW.ra ?_; refine SW.rg fun K hK => ?_; simp -implicitDefEqProofs [hw]; repeat refine ⟨by omega, ?_⟩
  refine hK _ ?_; clear hK K; refine SW.seqK fun K1 hK1 => ?_; refine SW.ra ?_; refine SW.cond _ rfl (by simp) ?_ ?_
  case' refine_1 =>
   intro hb1; refine SW.ra ?_; refine SW.ret ?_; simp [Ex.then, Ex.ib]
   first
     | (simp at hb3; omega)
     | (simp at hb1; omega)
     | omega
  intro hb1; refine SW.skip ?_; refine hK1 _ ?_; refine SW.seqK fun K2 hK2 => ?_; refine SW.ra ?_; refine SW.block ?_
  refine SW.loop (α := Nat × Nat) (fun x => ⟨[(5, .int .i64 (x.1 : Nat)), (1, .int .i64 (m - (x.2 : Int))), (0, .fz (GorSf l))], []⟩) (fun x => x.1 ≤ l.length ∧ x.2 = l.length + ((l.take x.1).map Gor.sz).sum ∧ (x.2 : Int) ≤ m) (fun x => l.length - x.1) ((0, l.length)) ?_ ?_ (fun x hx => ?_)
  case' refine_1 =>
   exact ⟨by simp, by simp, by simp at hb1; simp only []; omega⟩
  case' refine_2 =>
   exact Wk.cut (by simp) (by simp [subE]) (by simp [cutH]) (by simp [lowE, lowN]) (by simp)
  case' refine_3 =>
   obtain ⟨k, A⟩ := x; simp only [] at hx; obtain ⟨hk, hA, hm3⟩ := hx; simp only []; refine SW.seqK fun K3 hK3 => ?_; refine SW.ra ?_; refine SW.cond _ rfl (by simp) ?_ ?_
   case' refine_1 =>
    intro hb2; have hlt : k < l.length := by simp at hb2; omega
    obtain ⟨x, hxk⟩ : ∃ x, l[k]? = some x := ⟨_, List.getElem?_eq_getElem hlt⟩
    have hxm := List.mem_of_getElem? hxk
    have hst := szL_take (f := Gor.sz) hxk
    have htot := sum_take Gor.sz l (k + 1)
    have hq := szR_cases x.sz (m - (A : Int))
    refine SW.skip ?_; refine hK3 _ ?_; refine SW.seqK fun K4 hK4 => ?_; refine SW.block ?_; refine SW.rg fun K hK => ?_; simp -implicitDefEqProofs [hxk]; iterate 2 (try refine ⟨by omega, ?_⟩)
    refine CallK.fzE (szGor_ok x (m - (A : Int)) (hf x hxm) (by omega) (by omega)) (by simp) ?_; simp -implicitDefEqProofs [hxk]; repeat refine ⟨by omega, ?_⟩
    refine hK _ ?_; clear hK K; refine SW.ra ?_; refine SW.cond _ rfl (by simp) ?_ ?_
    case' refine_1 =>
     intro hb3; refine SW.ra ?_; refine SW.ret ?_; simp [Ex.then, Ex.ib]
     first
       | (simp at hb3; omega)
       | (simp at hb1; omega)
       | omega
    intro hb3; have hq2 : szR x.sz (m - (A : Int)) = m - (A : Int) - (x.sz : Int) := by simp at hb3; omega
    refine SW.skip ?_; refine hK4 _ ?_; refine SW.ea ?_; refine ⟨(k + 1, A + x.sz), ⟨by simp only []; omega, by simp only []; rw [hst]; omega, by simp only []; simp at hb3; omega⟩, by simp only []; omega, ?_⟩
    exact Wk.cut (by simp) (by simp [subE, wrap1 k (by omega), hq2]; omega) (by simp [cutH]) (by simp [lowE, lowN]) (by simp)
   intro hb2; have hk : k = l.length := by simp at hb2; omega
   subst hk; rw [List.take_length] at hA; refine SW.exit ?_; simp only [Ex.then, Ex.ib]; try simp only [if_true, if_false, reduceIte]
   refine hK2 _ ?_; refine SW.ra ?_; refine SW.ret ?_; simp [Ex.then, Ex.ib]
   first
     | (simp at hb3; omega)
     | (simp at hb1; omega)
     | omega
theorem szCaseS_ok (l : List Case) (m : Int) (h : l.length ≤ maxLen) (h0 : 0 ≤ m) (h1 : m ≤ 1048576) : Fn Tryz.prog 178 [.fz (CaseS l), .int .i64 m] (.int .i64 (szR l.length m)) := by
  refine Fn.intro Tryz.func178 (by decide) rfl (rs := [.tmp 4]) rfl Tryz.ntmps178 (by simp) ?_; have hm9 : l.length ≤ 2 ^ 63 - 1 := h
  have hw := wrapI (m - (l.length : Int)) (by omega) (by omega)
  have qq := szR_cases l.length m
  refine SW.ra ?_; refine SW.rg fun K hK => ?_; simp -implicitDefEqProofs [hw]; repeat refine ⟨by omega, ?_⟩
  refine hK _ ?_; clear hK K; refine SW.seqK fun K1 hK1 => ?_; refine SW.ra ?_; refine SW.cond _ rfl (by simp) ?_ ?_
  case' refine_1 =>
   intro hb1; refine SW.ra ?_; refine SW.ret ?_; simp [Ex.then, Ex.ib]
   all_goals (simp at *)
   all_goals omega
  intro hb1; refine SW.skip ?_; refine hK1 _ ?_; refine SW.ra ?_; refine SW.ret ?_; simp [Ex.then, Ex.ib]
  all_goals (simp at *)
  all_goals omega
theorem szInstrS_ok (l : List Instr) (m : Int) (h : l.length ≤ maxLen) (h0 : 0 ≤ m) (h1 : m ≤ 1048576) : Fn Tryz.prog 179 [.fz (InstrS l), .int .i64 m] (.int .i64 (szR l.length m)) := by
  refine Fn.intro Tryz.func179 (by decide) rfl (rs := [.tmp 4]) rfl Tryz.ntmps179 (by simp) ?_; have hm9 : l.length ≤ 2 ^ 63 - 1 := h
  have hw := wrapI (m - (l.length : Int)) (by omega) (by omega)
  have qq := szR_cases l.length m
  refine SW.ra ?_; refine SW.rg fun K hK => ?_; simp -implicitDefEqProofs [hw]; repeat refine ⟨by omega, ?_⟩
  refine hK _ ?_; clear hK K; refine SW.seqK fun K1 hK1 => ?_; refine SW.ra ?_; refine SW.cond _ rfl (by simp) ?_ ?_
  case' refine_1 =>
   intro hb1; refine SW.ra ?_; refine SW.ret ?_; simp [Ex.then, Ex.ib]
   all_goals (simp at *)
   all_goals omega
  intro hb1; refine SW.skip ?_; refine hK1 _ ?_; refine SW.ra ?_; refine SW.ret ?_; simp [Ex.then, Ex.ib]
  all_goals (simp at *)
  all_goals omega
theorem szSelect_ok (d : Select) (m : Int) (h : d.fit) (h0 : 0 ≤ m) (h1 : m ≤ 1048576) : Fn Tryz.prog 96 [.agg d.fr, .int .i64 m] (.int .i64 (szR d.sz m)) := by
  refine Fn.intro Tryz.func96 (by decide) rfl (rs := [.tmp 4]) rfl Tryz.ntmps96 (by simp) ?_; unfold Select.fit at h; have b0 := h
  refine SW.ra ?_; refine SW.rg fun K hK => ?_; simp -implicitDefEqProofs; iterate 2 (try refine ⟨by omega, ?_⟩)
  refine CallK.fzE (szCaseS_ok d.cases (m) b0 (by omega) (by omega)) (by simp) ?_; simp -implicitDefEqProofs; repeat refine ⟨by omega, ?_⟩
  refine hK _ ?_; clear hK K; refine SW.seqK fun K1 hK1 => ?_; refine SW.ra ?_; refine SW.cond _ rfl (by simp) ?_ ?_
  case' refine_1 =>
   intro hb1; have q0 := szR_cases d.cases.length (m)
   refine SW.ra ?_; refine SW.ret ?_; simp [Ex.then, Ex.ib]
   all_goals (
     have qq := szR_cases d.sz m
     unfold Select.sz at qq ⊢
     first | (simp at *; done) | (simp at *; omega))
  intro hb1; have q0 := szR_cases d.cases.length (m)
  have n0 : 0 ≤ szR d.cases.length (m) := by simp at hb1; omega
  refine SW.skip ?_; refine hK1 _ ?_; refine SW.ra ?_; refine SW.ret ?_; simp [Ex.then, Ex.ib]
  all_goals (
    have qq := szR_cases d.sz m
    unfold Select.sz at qq ⊢
    first | (simp at *; done) | (simp at *; omega))
theorem szSelectS_ok (l : List Select) (m : Int) (hh : l.length ≤ maxLen ∧ ∀ x ∈ l, x.fit) (h0 : 0 ≤ m) (h1 : m ≤ 1048576) : Fn Tryz.prog 39 [.fz (SelectSf l), .int .i64 m] (.int .i64 (szR (szL Select.sz l) m)) := by
  refine Fn.intro Tryz.func39 (by decide) rfl (rs := [.tmp 4]) rfl Tryz.ntmps39 (by simp) ?_; obtain ⟨h, hf⟩ := hh; have hm9 : l.length ≤ 2 ^ 63 - 1 := h
  have hw := wrapI (m - (l.length : Int)) (by omega) (by omega)
  have qq := szR_cases (szL Select.sz l) m
  have hL : szL Select.sz l = l.length + (l.map Select.sz).sum := rfl
  refine SW.ra ?_; refine SW.rg fun K hK => ?_; simp -implicitDefEqProofs [hw]; repeat refine ⟨by omega, ?_⟩
  refine hK _ ?_; clear hK K; refine SW.seqK fun K1 hK1 => ?_; refine SW.ra ?_; refine SW.cond _ rfl (by simp) ?_ ?_
  case' refine_1 =>
   intro hb1; refine SW.ra ?_; refine SW.ret ?_; simp [Ex.then, Ex.ib]
   first
     | (simp at hb3; omega)
     | (simp at hb1; omega)
     | omega
  intro hb1; refine SW.skip ?_; refine hK1 _ ?_; refine SW.seqK fun K2 hK2 => ?_; refine SW.ra ?_; refine SW.block ?_
  refine SW.loop (α := Nat × Nat) (fun x => ⟨[(5, .int .i64 (x.1 : Nat)), (1, .int .i64 (m - (x.2 : Int))), (0, .fz (SelectSf l))], []⟩) (fun x => x.1 ≤ l.length ∧ x.2 = l.length + ((l.take x.1).map Select.sz).sum ∧ (x.2 : Int) ≤ m) (fun x => l.length - x.1) ((0, l.length)) ?_ ?_ (fun x hx => ?_)
  case' refine_1 =>
   exact ⟨by simp, by simp, by simp at hb1; simp only []; omega⟩
  case' refine_2 =>
   exact Wk.cut (by simp) (by simp [subE]) (by simp [cutH]) (by simp [lowE, lowN]) (by simp)
  case' refine_3 =>
   obtain ⟨k, A⟩ := x; simp only [] at hx; obtain ⟨hk, hA, hm3⟩ := hx; simp only []; refine SW.seqK fun K3 hK3 => ?_; refine SW.ra ?_; refine SW.cond _ rfl (by simp) ?_ ?_
   case' refine_1 =>
    intro hb2; have hlt : k < l.length := by simp at hb2; omega
    obtain ⟨x, hxk⟩ : ∃ x, l[k]? = some x := ⟨_, List.getElem?_eq_getElem hlt⟩
    have hxm := List.mem_of_getElem? hxk
    have hst := szL_take (f := Select.sz) hxk
    have htot := sum_take Select.sz l (k + 1)
    have hq := szR_cases x.sz (m - (A : Int))
    refine SW.skip ?_; refine hK3 _ ?_; refine SW.seqK fun K4 hK4 => ?_; refine SW.block ?_; refine SW.rg fun K hK => ?_; simp -implicitDefEqProofs [hxk]; iterate 2 (try refine ⟨by omega, ?_⟩)
    refine CallK.fzE (szSelect_ok x (m - (A : Int)) (hf x hxm) (by omega) (by omega)) (by simp) ?_; simp -implicitDefEqProofs [hxk]; repeat refine ⟨by omega, ?_⟩
    refine hK _ ?_; clear hK K; refine SW.ra ?_; refine SW.cond _ rfl (by simp) ?_ ?_
    case' refine_1 =>
     intro hb3; refine SW.ra ?_; refine SW.ret ?_; simp [Ex.then, Ex.ib]
     first
       | (simp at hb3; omega)
       | (simp at hb1; omega)
       | omega
    intro hb3; have hq2 : szR x.sz (m - (A : Int)) = m - (A : Int) - (x.sz : Int) := by simp at hb3; omega
    refine SW.skip ?_; refine hK4 _ ?_; refine SW.ea ?_; refine ⟨(k + 1, A + x.sz), ⟨by simp only []; omega, by simp only []; rw [hst]; omega, by simp only []; simp at hb3; omega⟩, by simp only []; omega, ?_⟩
    exact Wk.cut (by simp) (by simp [subE, wrap1 k (by omega), hq2]; omega) (by simp [cutH]) (by simp [lowE, lowN]) (by simp)
   intro hb2; have hk : k = l.length := by simp at hb2; omega
   subst hk; rw [List.take_length] at hA; refine SW.exit ?_; simp only [Ex.then, Ex.ib]; try simp only [if_true, if_false, reduceIte]
   refine hK2 _ ?_; refine SW.ra ?_; refine SW.ret ?_; simp [Ex.then, Ex.ib]
   first
     | (simp at hb3; omega)
     | (simp at hb1; omega)
     | omega
theorem szProc_ok (d : Proc) (m : Int) (h : d.fit) (h0 : 0 ≤ m) (h1 : m ≤ 1048576) : Fn Tryz.prog 97 [.agg d.fr, .int .i64 m] (.int .i64 (szR d.sz m)) := by
  refine Fn.intro Tryz.func97 (by decide) rfl (rs := [.tmp 4]) rfl Tryz.ntmps97 (by simp) ?_; unfold Proc.fit at h; have b0 := h
  refine SW.ra ?_; refine SW.rg fun K hK => ?_; simp -implicitDefEqProofs; iterate 2 (try refine ⟨by omega, ?_⟩)
  refine CallK.fzE (szInstrS_ok d.code (m) b0 (by omega) (by omega)) (by simp) ?_; simp -implicitDefEqProofs; repeat refine ⟨by omega, ?_⟩
  refine hK _ ?_; clear hK K; refine SW.seqK fun K1 hK1 => ?_; refine SW.ra ?_; refine SW.cond _ rfl (by simp) ?_ ?_
  case' refine_1 =>
   intro hb1; have q0 := szR_cases d.code.length (m)
   refine SW.ra ?_; refine SW.ret ?_; simp [Ex.then, Ex.ib]
   all_goals (
     have qq := szR_cases d.sz m
     unfold Proc.sz at qq ⊢
     first | (simp at *; done) | (simp at *; omega))
  intro hb1; have q0 := szR_cases d.code.length (m)
  have n0 : 0 ≤ szR d.code.length (m) := by simp at hb1; omega
  refine SW.skip ?_; refine hK1 _ ?_; refine SW.ra ?_; refine SW.ret ?_; simp [Ex.then, Ex.ib]
  all_goals (
    have qq := szR_cases d.sz m
    unfold Proc.sz at qq ⊢
    first | (simp at *; done) | (simp at *; omega))
theorem szProcS_ok (l : List Proc) (m : Int) (hh : l.length ≤ maxLen ∧ ∀ x ∈ l, x.fit) (h0 : 0 ≤ m) (h1 : m ≤ 1048576) : Fn Tryz.prog 40 [.fz (ProcSf l), .int .i64 m] (.int .i64 (szR (szL Proc.sz l) m)) := by
  refine Fn.intro Tryz.func40 (by decide) rfl (rs := [.tmp 4]) rfl Tryz.ntmps40 (by simp) ?_; obtain ⟨h, hf⟩ := hh; have hm9 : l.length ≤ 2 ^ 63 - 1 := h
  have hw := wrapI (m - (l.length : Int)) (by omega) (by omega)
  have qq := szR_cases (szL Proc.sz l) m
  have hL : szL Proc.sz l = l.length + (l.map Proc.sz).sum := rfl
  refine SW.ra ?_; refine SW.rg fun K hK => ?_; simp -implicitDefEqProofs [hw]; repeat refine ⟨by omega, ?_⟩
  refine hK _ ?_; clear hK K; refine SW.seqK fun K1 hK1 => ?_; refine SW.ra ?_; refine SW.cond _ rfl (by simp) ?_ ?_
  case' refine_1 =>
   intro hb1; refine SW.ra ?_; refine SW.ret ?_; simp [Ex.then, Ex.ib]
   first
     | (simp at hb3; omega)
     | (simp at hb1; omega)
     | omega
  intro hb1; refine SW.skip ?_; refine hK1 _ ?_; refine SW.seqK fun K2 hK2 => ?_; refine SW.ra ?_; refine SW.block ?_
  refine SW.loop (α := Nat × Nat) (fun x => ⟨[(5, .int .i64 (x.1 : Nat)), (1, .int .i64 (m - (x.2 : Int))), (0, .fz (ProcSf l))], []⟩) (fun x => x.1 ≤ l.length ∧ x.2 = l.length + ((l.take x.1).map Proc.sz).sum ∧ (x.2 : Int) ≤ m) (fun x => l.length - x.1) ((0, l.length)) ?_ ?_ (fun x hx => ?_)
  case' refine_1 =>
   exact ⟨by simp, by simp, by simp at hb1; simp only []; omega⟩
  case' refine_2 =>
   exact Wk.cut (by simp) (by simp [subE]) (by simp [cutH]) (by simp [lowE, lowN]) (by simp)
  case' refine_3 =>
   obtain ⟨k, A⟩ := x; simp only [] at hx; obtain ⟨hk, hA, hm3⟩ := hx; simp only []; refine SW.seqK fun K3 hK3 => ?_; refine SW.ra ?_; refine SW.cond _ rfl (by simp) ?_ ?_
   case' refine_1 =>
    intro hb2; have hlt : k < l.length := by simp at hb2; omega
    obtain ⟨x, hxk⟩ : ∃ x, l[k]? = some x := ⟨_, List.getElem?_eq_getElem hlt⟩
    have hxm := List.mem_of_getElem? hxk
    have hst := szL_take (f := Proc.sz) hxk
    have htot := sum_take Proc.sz l (k + 1)
    have hq := szR_cases x.sz (m - (A : Int))
    refine SW.skip ?_; refine hK3 _ ?_; refine SW.seqK fun K4 hK4 => ?_; refine SW.block ?_; refine SW.rg fun K hK => ?_; simp -implicitDefEqProofs [hxk]; iterate 2 (try refine ⟨by omega, ?_⟩)
    refine CallK.fzE (szProc_ok x (m - (A : Int)) (hf x hxm) (by omega) (by omega)) (by simp) ?_; simp -implicitDefEqProofs [hxk]; repeat refine ⟨by omega, ?_⟩
    refine hK _ ?_; clear hK K; refine SW.ra ?_; refine SW.cond _ rfl (by simp) ?_ ?_
    case' refine_1 =>
     intro hb3; refine SW.ra ?_; refine SW.ret ?_; simp [Ex.then, Ex.ib]
     first
       | (simp at hb3; omega)
       | (simp at hb1; omega)
       | omega
    intro hb3; have hq2 : szR x.sz (m - (A : Int)) = m - (A : Int) - (x.sz : Int) := by simp at hb3; omega
    refine SW.skip ?_; refine hK4 _ ?_; refine SW.ea ?_; refine ⟨(k + 1, A + x.sz), ⟨by simp only []; omega, by simp only []; rw [hst]; omega, by simp only []; simp at hb3; omega⟩, by simp only []; omega, ?_⟩
    exact Wk.cut (by simp) (by simp [subE, wrap1 k (by omega), hq2]; omega) (by simp [cutH]) (by simp [lowE, lowN]) (by simp)
   intro hb2; have hk : k = l.length := by simp at hb2; omega
   subst hk; rw [List.take_length] at hA; refine SW.exit ?_; simp only [Ex.then, Ex.ib]; try simp only [if_true, if_false, reduceIte]
   refine hK2 _ ?_; refine SW.ra ?_; refine SW.ret ?_; simp [Ex.then, Ex.ib]
   first
     | (simp at hb3; omega)
     | (simp at hb1; omega)
     | omega
theorem szProg_ok (d : Prog) (m : Int) (h : d.fit) (h0 : 0 ≤ m) (h1 : m ≤ 1048576) : Fn Tryz.prog 8 [.agg d.fr, .int .i64 m] (.int .i64 (szR d.sz m)) := by
  refine Fn.intro Tryz.func8 (by decide) rfl (rs := [.tmp 4]) rfl Tryz.ntmps8 (by simp) ?_; unfold Prog.fit at h; obtain ⟨b0, b2, c2, b3, c3⟩ := h; refine SW.ra ?_; refine SW.rg fun K hK => ?_; simp -implicitDefEqProofs
  iterate 2 (try refine ⟨by omega, ?_⟩)
  refine CallK.fzE (szIntS_ok d.caps (m) b0 (by omega) (by omega)) (by simp) ?_; simp -implicitDefEqProofs; repeat refine ⟨by omega, ?_⟩
  refine hK _ ?_; clear hK K; refine SW.seqK fun K1 hK1 => ?_; refine SW.ra ?_; refine SW.cond _ rfl (by simp) ?_ ?_
  case' refine_1 =>
   intro hb1; have q0 := szR_cases d.caps.length (m)
   refine SW.ra ?_; refine SW.ret ?_; simp [Ex.then, Ex.ib]
   all_goals (
     have qq := szR_cases d.sz m
     unfold Prog.sz at qq ⊢
     first | (simp at *; done) | (simp at *; omega))
  intro hb1; have q0 := szR_cases d.caps.length (m)
  have n0 : 0 ≤ szR d.caps.length (m) := by simp at hb1; omega
  refine SW.skip ?_; refine hK1 _ ?_; refine SW.rg fun K hK => ?_; simp -implicitDefEqProofs; iterate 2 (try refine ⟨by omega, ?_⟩)
  refine CallK.fzE (szSelectS_ok d.sels (szR d.caps.length (m)) ⟨b2, c2⟩ (by omega) (by omega)) (by simp) ?_; simp -implicitDefEqProofs; repeat refine ⟨by omega, ?_⟩
  refine hK _ ?_; clear hK K; refine SW.seqK fun K2 hK2 => ?_; refine SW.ra ?_; refine SW.cond _ rfl (by simp) ?_ ?_
  case' refine_1 =>
   intro hb2; have q1 := szR_cases (szL Select.sz d.sels) (szR d.caps.length (m))
   refine SW.ra ?_; refine SW.ret ?_; simp [Ex.then, Ex.ib]
   all_goals (
     have qq := szR_cases d.sz m
     unfold Prog.sz at qq ⊢
     first | (simp at *; done) | (simp at *; omega))
  intro hb2; have q1 := szR_cases (szL Select.sz d.sels) (szR d.caps.length (m))
  have n1 : 0 ≤ szR (szL Select.sz d.sels) (szR d.caps.length (m)) := by simp at hb2; omega
  refine SW.skip ?_; refine hK2 _ ?_; refine SW.rg fun K hK => ?_; simp -implicitDefEqProofs; iterate 2 (try refine ⟨by omega, ?_⟩)
  refine CallK.fzE (szProcS_ok d.procs (szR (szL Select.sz d.sels) (szR d.caps.length (m))) ⟨b3, c3⟩ (by omega) (by omega)) (by simp) ?_; simp -implicitDefEqProofs; repeat refine ⟨by omega, ?_⟩
  refine hK _ ?_; clear hK K; refine SW.seqK fun K3 hK3 => ?_; refine SW.ra ?_; refine SW.cond _ rfl (by simp) ?_ ?_
  case' refine_1 =>
   intro hb3; have q2 := szR_cases (szL Proc.sz d.procs) (szR (szL Select.sz d.sels) (szR d.caps.length (m)))
   refine SW.ra ?_; refine SW.ret ?_; simp [Ex.then, Ex.ib]
   all_goals (
     have qq := szR_cases d.sz m
     unfold Prog.sz at qq ⊢
     first | (simp at *; done) | (simp at *; omega))
  intro hb3; have q2 := szR_cases (szL Proc.sz d.procs) (szR (szL Select.sz d.sels) (szR d.caps.length (m)))
  have n2 : 0 ≤ szR (szL Proc.sz d.procs) (szR (szL Select.sz d.sels) (szR d.caps.length (m))) := by simp at hb3; omega
  refine SW.skip ?_; refine hK3 _ ?_; refine SW.ra ?_; refine SW.ret ?_; simp [Ex.then, Ex.ib]
  all_goals (
    have qq := szR_cases d.sz m
    unfold Prog.sz at qq ⊢
    first | (simp at *; done) | (simp at *; omega))
end HT
namespace HT
open Go Go.Proofs HK
theorem rdInt : Reads Tryz.prog 3 (fun n : Int => [.int .i64 n]) (fun n => (Lit.int .i64 n).wf = true) := Reads.int (by kernel_rfl)
theorem rdBool : Reads Tryz.prog 4 (fun b : Bool => [.bool b]) (fun _ => True) := Reads.bool (by kernel_rfl)
theorem rdIntS : Reads Tryz.prog 22 (fun l : List Int => [.fz (IntS l)]) (fun l => l.length ≤ maxLen) :=
  (Reads.slice (e := 3) (by kernel_rfl) rdInt (Nat.lt_of_lt_of_eq (m := 1) (by omega) (by kernel_rfl))).map id (by intro _; rfl) (fun _ h => h.2)
theorem rdWaiter : Reads Tryz.prog 33 Waiter.cl (fun _ => True) :=
  (Reads.struct (l := [(3, 0), (3, 1), (3, 2)]) (tot := 3) (by kernel_rfl) (ReadsF.cons 1 (by kernel_rfl) rdInt (ReadsF.cons 1 (by kernel_rfl) rdInt (ReadsF.cons 1 (by kernel_rfl) rdInt ReadsF.nil)))).map
    (fun x => ⟨x.1, x.2.1, x.2.2.1⟩) (by intro _; rfl) (fun _ _ => trivial)
theorem rdWaiterS : Reads Tryz.prog 151 (fun l : List Waiter => [.fz (WaiterS l)]) (fun l => l.length ≤ maxLen) :=
  (Reads.slice (e := 33) (by kernel_rfl) rdWaiter (Nat.lt_of_lt_of_eq (m := 3) (by omega) (by kernel_rfl))).map id (by intro _; rfl) (fun _ h => h.2)
theorem rdItem : Reads Tryz.prog 265 Item.cl (fun _ => True) :=
  (Reads.struct (l := [(3, 0), (3, 1), (3, 2), (4, 3)]) (tot := 4) (by kernel_rfl) (ReadsF.cons 1 (by kernel_rfl) rdInt (ReadsF.cons 1 (by kernel_rfl) rdInt (ReadsF.cons 1 (by kernel_rfl) rdInt (ReadsF.cons 1 (by kernel_rfl) rdBool ReadsF.nil))))).map
    (fun x => ⟨x.1, x.2.1, x.2.2.1, x.2.2.2.1⟩) (by intro _; rfl) (fun _ _ => trivial)
theorem rdItemS : Reads Tryz.prog 147 (fun l : List Item => [.fz (ItemS l)]) (fun l => l.length ≤ maxLen) :=
  (Reads.slice (e := 265) (by kernel_rfl) rdItem (Nat.lt_of_lt_of_eq (m := 4) (by omega) (by kernel_rfl))).map id (by intro _; rfl) (fun _ h => h.2)
theorem rdChan : Reads Tryz.prog 153 Chan.fr (fun x => x.fit) :=
  (Reads.struct (l := [(3, 0), (22, 1), (151, 2), (151, 3), (4, 4)]) (tot := 5) (by kernel_rfl) (ReadsF.cons 1 (by kernel_rfl) rdInt (ReadsF.cons 1 (by kernel_rfl) rdIntS (ReadsF.cons 1 (by kernel_rfl) rdWaiterS (ReadsF.cons 1 (by kernel_rfl) rdWaiterS (ReadsF.cons 1 (by kernel_rfl) rdBool ReadsF.nil)))))).map
    (fun x => ⟨x.1, x.2.1, x.2.2.1, x.2.2.2.1, x.2.2.2.2.1⟩) (by intro _; rfl) (fun _ h => ⟨h.2.1, h.2.2.1, h.2.2.2.1⟩)
theorem rdChanS : Reads Tryz.prog 28 (fun l : List Chan => [.fz (ChanSf l)]) (fun l => l.length ≤ maxLen ∧ ∀ x ∈ l, x.fit) :=
  (Reads.slice (e := 153) (by kernel_rfl) rdChan (Nat.lt_of_lt_of_eq (m := 5) (by omega) (by kernel_rfl))).map id (by intro _; rfl) (fun _ h => ⟨h.2, h.1⟩)
theorem rdMutex : Reads Tryz.prog 156 Mutex.fr (fun x => x.fit) :=
  (Reads.struct (l := [(3, 0), (22, 1)]) (tot := 2) (by kernel_rfl) (ReadsF.cons 1 (by kernel_rfl) rdInt (ReadsF.cons 1 (by kernel_rfl) rdIntS ReadsF.nil))).map
    (fun x => ⟨x.1, x.2.1⟩) (by intro _; rfl) (fun _ h => h.2.1)
theorem rdMutexS : Reads Tryz.prog 29 (fun l : List Mutex => [.fz (MutexSf l)]) (fun l => l.length ≤ maxLen ∧ ∀ x ∈ l, x.fit) :=
  (Reads.slice (e := 156) (by kernel_rfl) rdMutex (Nat.lt_of_lt_of_eq (m := 2) (by omega) (by kernel_rfl))).map id (by intro _; rfl) (fun _ h => ⟨h.2, h.1⟩)
theorem rdGor : Reads Tryz.prog 149 Gor.fr (fun x => x.fit) :=
  (Reads.struct (l := [(3, 0), (3, 1), (22, 2), (3, 3), (147, 4)]) (tot := 5) (by kernel_rfl) (ReadsF.cons 1 (by kernel_rfl) rdInt (ReadsF.cons 1 (by kernel_rfl) rdInt (ReadsF.cons 1 (by kernel_rfl) rdIntS (ReadsF.cons 1 (by kernel_rfl) rdInt (ReadsF.cons 1 (by kernel_rfl) rdItemS ReadsF.nil)))))).map
    (fun x => ⟨x.1, x.2.1, x.2.2.1, x.2.2.2.1, x.2.2.2.2.1⟩) (by intro _; rfl) (fun _ h => ⟨h.2.2.1, h.2.2.2.2.1⟩)
theorem rdGorS : Reads Tryz.prog 27 (fun l : List Gor => [.fz (GorSf l)]) (fun l => l.length ≤ maxLen ∧ ∀ x ∈ l, x.fit) :=
  (Reads.slice (e := 149) (by kernel_rfl) rdGor (Nat.lt_of_lt_of_eq (m := 5) (by omega) (by kernel_rfl))).map id (by intro _; rfl) (fun _ h => ⟨h.2, h.1⟩)
theorem rdEng : Reads Tryz.prog 31 Eng.fr (fun x => x.fit) :=
  (Reads.struct (l := [(27, 0), (28, 1), (29, 2)]) (tot := 3) (by kernel_rfl) (ReadsF.cons 1 (by kernel_rfl) rdGorS (ReadsF.cons 1 (by kernel_rfl) rdChanS (ReadsF.cons 1 (by kernel_rfl) rdMutexS ReadsF.nil)))).map
    (fun x => ⟨x.1, x.2.1, x.2.2.1⟩) (by intro _; rfl) (fun _ h => ⟨h.1.1, h.1.2, h.2.1.1, h.2.1.2, h.2.2.1.1, h.2.2.1.2⟩)
theorem rdCase : Reads Tryz.prog 261 Case.cl (fun _ => True) :=
  (Reads.struct (l := [(4, 0), (3, 1), (3, 2), (3, 3), (3, 4)]) (tot := 5) (by kernel_rfl) (ReadsF.cons 1 (by kernel_rfl) rdBool (ReadsF.cons 1 (by kernel_rfl) rdInt (ReadsF.cons 1 (by kernel_rfl) rdInt (ReadsF.cons 1 (by kernel_rfl) rdInt (ReadsF.cons 1 (by kernel_rfl) rdInt ReadsF.nil)))))).map
    (fun x => ⟨x.1, x.2.1, x.2.2.1, x.2.2.2.1, x.2.2.2.2.1⟩) (by intro _; rfl) (fun _ _ => trivial)
theorem rdCaseS : Reads Tryz.prog 139 (fun l : List Case => [.fz (CaseS l)]) (fun l => l.length ≤ maxLen) :=
  (Reads.slice (e := 261) (by kernel_rfl) rdCase (Nat.lt_of_lt_of_eq (m := 5) (by omega) (by kernel_rfl))).map id (by intro _; rfl) (fun _ h => h.2)
theorem rdInstr : Reads Tryz.prog 263 Instr.cl (fun _ => True) :=
  (Reads.struct (l := [(3, 0), (3, 1), (3, 2), (3, 3)]) (tot := 4) (by kernel_rfl) (ReadsF.cons 1 (by kernel_rfl) rdInt (ReadsF.cons 1 (by kernel_rfl) rdInt (ReadsF.cons 1 (by kernel_rfl) rdInt (ReadsF.cons 1 (by kernel_rfl) rdInt ReadsF.nil))))).map
    (fun x => ⟨x.1, x.2.1, x.2.2.1, x.2.2.2.1⟩) (by intro _; rfl) (fun _ _ => trivial)
theorem rdInstrS : Reads Tryz.prog 143 (fun l : List Instr => [.fz (InstrS l)]) (fun l => l.length ≤ maxLen) :=
  (Reads.slice (e := 263) (by kernel_rfl) rdInstr (Nat.lt_of_lt_of_eq (m := 4) (by omega) (by kernel_rfl))).map id (by intro _; rfl) (fun _ h => h.2)
theorem rdSelect : Reads Tryz.prog 141 Select.fr (fun x => x.fit) :=
  (Reads.struct (l := [(139, 0), (3, 1)]) (tot := 2) (by kernel_rfl) (ReadsF.cons 1 (by kernel_rfl) rdCaseS (ReadsF.cons 1 (by kernel_rfl) rdInt ReadsF.nil))).map
    (fun x => ⟨x.1, x.2.1⟩) (by intro _; rfl) (fun _ h => h.1)
theorem rdSelectS : Reads Tryz.prog 23 (fun l : List Select => [.fz (SelectSf l)]) (fun l => l.length ≤ maxLen ∧ ∀ x ∈ l, x.fit) :=
  (Reads.slice (e := 141) (by kernel_rfl) rdSelect (Nat.lt_of_lt_of_eq (m := 2) (by omega) (by kernel_rfl))).map id (by intro _; rfl) (fun _ h => ⟨h.2, h.1⟩)
theorem rdProc : Reads Tryz.prog 145 Proc.fr (fun x => x.fit) :=
  (Reads.struct (l := [(143, 0)]) (tot := 1) (by kernel_rfl) (ReadsF.cons 1 (by kernel_rfl) rdInstrS ReadsF.nil)).map
    (fun x => ⟨x.1⟩) (by intro _; rfl) (fun _ h => h.1)
theorem rdProcS : Reads Tryz.prog 24 (fun l : List Proc => [.fz (ProcSf l)]) (fun l => l.length ≤ maxLen ∧ ∀ x ∈ l, x.fit) :=
  (Reads.slice (e := 145) (by kernel_rfl) rdProc (Nat.lt_of_lt_of_eq (m := 1) (by omega) (by kernel_rfl))).map id (by intro _; rfl) (fun _ h => ⟨h.2, h.1⟩)
theorem rdProg : Reads Tryz.prog 26 Prog.fr (fun x => x.fit) :=
  (Reads.struct (l := [(22, 0), (3, 1), (23, 2), (24, 3)]) (tot := 4) (by kernel_rfl) (ReadsF.cons 1 (by kernel_rfl) rdIntS (ReadsF.cons 1 (by kernel_rfl) rdInt (ReadsF.cons 1 (by kernel_rfl) rdSelectS (ReadsF.cons 1 (by kernel_rfl) rdProcS ReadsF.nil))))).map
    (fun x => ⟨x.1, x.2.1, x.2.2.1, x.2.2.2.1⟩) (by intro _; rfl) (fun _ h => ⟨h.1, h.2.2.1.1, h.2.2.1.2, h.2.2.2.1.1, h.2.2.2.1.2⟩)
end HT
