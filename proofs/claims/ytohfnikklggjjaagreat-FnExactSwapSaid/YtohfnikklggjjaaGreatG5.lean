import Derived.Test.YtohfnikklggjjaaGreatG4
import Derived.Test.YtohfnikklggjjaaGreatG3
/-
  My own texts (road H): HGT4 HGT7.
-/
set_option linter.unusedSimpArgs false
set_option linter.unusedVariables false
namespace HT
open Go Go.Proofs HK
set_option maxHeartbeats 1000000 in
theorem szIntS_ok (l : List Int) (m : Int) (h : l.length ≤ maxLen) (h0 : 0 ≤ m) (h1 : m ≤ 1048576) : Fn Tryz.prog 15 [.fz (IntS l), .int .i64 m] (.int .i64 (szR l.length m)) := by
  refine Fn.intro Tryz.func15 (by decide) rfl (rs := [.tmp 4]) rfl Tryz.ntmps15 (by simp) ?_; have hm9 : l.length ≤ 2 ^ 63 - 1 := h
  have hw := wrapI (m - (l.length : Int)) (by omega) (by omega)
  have qq := szR_cases l.length m
  refine SW.rg fun K hK => ?_; simp -implicitDefEqProofs; repeat refine ⟨by omega, ?_⟩
  refine hK _ ?_; clear hK K; refine SW.rg fun K hK => ?_; simp -implicitDefEqProofs [hw]; repeat refine ⟨by omega, ?_⟩
  refine hK _ ?_; clear hK K; refine SW.seqK fun K1 hK1 => ?_; refine SW.rg fun K hK => ?_; simp -implicitDefEqProofs; repeat refine ⟨by omega, ?_⟩
  refine hK _ ?_; clear hK K; refine SW.cond _ rfl (by simp) ?_ ?_
  case' refine_2 =>
   intro hb1
   first
   | (exfalso; simp at hb1; done)
   | (exfalso; simp at hb1; omega)
   | (
    refine SW.skip ?_; refine hK1 _ ?_; refine SW.rg fun K hK => ?_; simp -implicitDefEqProofs; repeat refine ⟨by omega, ?_⟩
    refine hK _ ?_; clear hK K; refine SW.ret ?_; simp [Ex.then, Ex.ib]
    all_goals (simp at *)
    all_goals omega)
  rotate_right
  case' _ =>
   intro hb1
   first
   | (exfalso; simp at hb1; done)
   | (exfalso; simp at hb1; omega)
   | (
    refine SW.rg fun K hK => ?_; simp -implicitDefEqProofs; repeat refine ⟨by omega, ?_⟩
    refine hK _ ?_; clear hK K; refine SW.ret ?_; simp [Ex.then, Ex.ib]
    all_goals (simp at *)
    all_goals omega)
set_option maxHeartbeats 1000000 in
theorem szCaseS_ok (l : List Case) (m : Int) (h : l.length ≤ maxLen) (h0 : 0 ≤ m) (h1 : m ≤ 1048576) : Fn Tryz.prog 47 [.fz (CaseS l), .int .i64 m] (.int .i64 (szR l.length m)) := by
  refine Fn.intro Tryz.func47 (by decide) rfl (rs := [.tmp 4]) rfl Tryz.ntmps47 (by simp) ?_; have hm9 : l.length ≤ 2 ^ 63 - 1 := h
  have hw := wrapI (m - (l.length : Int)) (by omega) (by omega)
  have qq := szR_cases l.length m
  refine SW.rg fun K hK => ?_; simp -implicitDefEqProofs; repeat refine ⟨by omega, ?_⟩
  refine hK _ ?_; clear hK K; refine SW.rg fun K hK => ?_; simp -implicitDefEqProofs [hw]; repeat refine ⟨by omega, ?_⟩
  refine hK _ ?_; clear hK K; refine SW.seqK fun K1 hK1 => ?_; refine SW.rg fun K hK => ?_; simp -implicitDefEqProofs; repeat refine ⟨by omega, ?_⟩
  refine hK _ ?_; clear hK K; refine SW.cond _ rfl (by simp) ?_ ?_
  case' refine_2 =>
   intro hb1
   first
   | (exfalso; simp at hb1; done)
   | (exfalso; simp at hb1; omega)
   | (
    refine SW.skip ?_; refine hK1 _ ?_; refine SW.rg fun K hK => ?_; simp -implicitDefEqProofs; repeat refine ⟨by omega, ?_⟩
    refine hK _ ?_; clear hK K; refine SW.ret ?_; simp [Ex.then, Ex.ib]
    all_goals (simp at *)
    all_goals omega)
  rotate_right
  case' _ =>
   intro hb1
   first
   | (exfalso; simp at hb1; done)
   | (exfalso; simp at hb1; omega)
   | (
    refine SW.rg fun K hK => ?_; simp -implicitDefEqProofs; repeat refine ⟨by omega, ?_⟩
    refine hK _ ?_; clear hK K; refine SW.ret ?_; simp [Ex.then, Ex.ib]
    all_goals (simp at *)
    all_goals omega)
set_option maxHeartbeats 1000000 in
theorem szInstrS_ok (l : List Instr) (m : Int) (h : l.length ≤ maxLen) (h0 : 0 ≤ m) (h1 : m ≤ 1048576) : Fn Tryz.prog 48 [.fz (InstrS l), .int .i64 m] (.int .i64 (szR l.length m)) := by
  refine Fn.intro Tryz.func48 (by decide) rfl (rs := [.tmp 4]) rfl Tryz.ntmps48 (by simp) ?_; have hm9 : l.length ≤ 2 ^ 63 - 1 := h
  have hw := wrapI (m - (l.length : Int)) (by omega) (by omega)
  have qq := szR_cases l.length m
  refine SW.rg fun K hK => ?_; simp -implicitDefEqProofs; repeat refine ⟨by omega, ?_⟩
  refine hK _ ?_; clear hK K; refine SW.rg fun K hK => ?_; simp -implicitDefEqProofs [hw]; repeat refine ⟨by omega, ?_⟩
  refine hK _ ?_; clear hK K; refine SW.seqK fun K1 hK1 => ?_; refine SW.rg fun K hK => ?_; simp -implicitDefEqProofs; repeat refine ⟨by omega, ?_⟩
  refine hK _ ?_; clear hK K; refine SW.cond _ rfl (by simp) ?_ ?_
  case' refine_2 =>
   intro hb1
   first
   | (exfalso; simp at hb1; done)
   | (exfalso; simp at hb1; omega)
   | (
    refine SW.skip ?_; refine hK1 _ ?_; refine SW.rg fun K hK => ?_; simp -implicitDefEqProofs; repeat refine ⟨by omega, ?_⟩
    refine hK _ ?_; clear hK K; refine SW.ret ?_; simp [Ex.then, Ex.ib]
    all_goals (simp at *)
    all_goals omega)
  rotate_right
  case' _ =>
   intro hb1
   first
   | (exfalso; simp at hb1; done)
   | (exfalso; simp at hb1; omega)
   | (
    refine SW.rg fun K hK => ?_; simp -implicitDefEqProofs; repeat refine ⟨by omega, ?_⟩
    refine hK _ ?_; clear hK K; refine SW.ret ?_; simp [Ex.then, Ex.ib]
    all_goals (simp at *)
    all_goals omega)
set_option maxHeartbeats 1000000 in
theorem szSelect_ok (d : Select) (m : Int) (h : d.fit) (h0 : 0 ≤ m) (h1 : m ≤ 1048576) : Fn Tryz.prog 32 [.agg d.fr, .int .i64 m] (.int .i64 (szR d.sz m)) := by
  refine Fn.intro Tryz.func32 (by decide) rfl (rs := [.tmp 4]) rfl Tryz.ntmps32 (by simp) ?_; unfold Select.fit at h; have b0 := h
  refine SW.rg fun K hK => ?_; simp -implicitDefEqProofs; repeat refine ⟨by omega, ?_⟩
  refine hK _ ?_; clear hK K; refine SW.rg fun K hK => ?_; simp -implicitDefEqProofs; iterate 2 (try refine ⟨by omega, ?_⟩)
  refine CallK.fzE (szCaseS_ok d.cases (m) b0 (by omega) (by omega)) (by simp) ?_; simp -implicitDefEqProofs; repeat refine ⟨by omega, ?_⟩
  refine hK _ ?_; clear hK K; refine SW.seqK fun K1 hK1 => ?_; refine SW.rg fun K hK => ?_; simp -implicitDefEqProofs; repeat refine ⟨by omega, ?_⟩
  refine hK _ ?_; clear hK K; refine SW.cond _ rfl (by simp) ?_ ?_
  case' refine_2 =>
   intro hb1; have q0 := szR_cases d.cases.length (m)
   have n0 : 0 ≤ szR d.cases.length (m) := by simp at hb1; omega
   first
   | (exfalso; simp at hb1; done)
   | (exfalso; simp at hb1; omega)
   | (
    refine SW.skip ?_; refine hK1 _ ?_; refine SW.rg fun K hK => ?_; simp -implicitDefEqProofs; repeat refine ⟨by omega, ?_⟩
    refine hK _ ?_; clear hK K; refine SW.ret ?_; simp [Ex.then, Ex.ib]
    all_goals (
      have qq := szR_cases d.sz m
      unfold Select.sz at qq ⊢
      first | (simp at *; done) | (simp at *; omega)))
  rotate_right
  case' _ =>
   intro hb1; have q0 := szR_cases d.cases.length (m)
   first
   | (exfalso; simp at hb1; done)
   | (exfalso; simp at hb1; omega)
   | (
    refine SW.rg fun K hK => ?_; simp -implicitDefEqProofs; repeat refine ⟨by omega, ?_⟩
    refine hK _ ?_; clear hK K; refine SW.ret ?_; simp [Ex.then, Ex.ib]
    all_goals (
      have qq := szR_cases d.sz m
      unfold Select.sz at qq ⊢
      first | (simp at *; done) | (simp at *; omega)))
set_option maxHeartbeats 1000000 in
theorem szSelectS_ok (l : List Select) (m : Int) (hh : l.length ≤ maxLen ∧ ∀ x ∈ l, x.fit) (h0 : 0 ≤ m) (h1 : m ≤ 1048576) : Fn Tryz.prog 16 [.fz (SelectSf l), .int .i64 m] (.int .i64 (szR (szL Select.sz l) m)) := by
  refine Fn.intro Tryz.func16 (by decide) rfl (rs := [.tmp 4]) rfl Tryz.ntmps16 (by simp) ?_; obtain ⟨h, hf⟩ := hh; have hm9 : l.length ≤ 2 ^ 63 - 1 := h
  have hw := wrapI (m - (l.length : Int)) (by omega) (by omega)
  have qq := szR_cases (szL Select.sz l) m
  have hL : szL Select.sz l = l.length + (l.map Select.sz).sum := rfl
  refine SW.rg fun K hK => ?_; simp -implicitDefEqProofs; repeat refine ⟨by omega, ?_⟩
  refine hK _ ?_; clear hK K; refine SW.rg fun K hK => ?_; simp -implicitDefEqProofs [hw]; repeat refine ⟨by omega, ?_⟩
  refine hK _ ?_; clear hK K; refine SW.seqK fun K1 hK1 => ?_; refine SW.rg fun K hK => ?_; simp -implicitDefEqProofs; repeat refine ⟨by omega, ?_⟩
  refine hK _ ?_; clear hK K; refine SW.cond _ rfl (by simp) ?_ ?_
  case' refine_2 =>
   intro hb1
   first
   | (exfalso; simp at hb1; done)
   | (exfalso; simp at hb1; omega)
   | (
    refine SW.skip ?_; refine hK1 _ ?_; refine SW.seqK fun K2 hK2 => ?_; refine SW.rg fun K hK => ?_; simp -implicitDefEqProofs; repeat refine ⟨by omega, ?_⟩
    refine hK _ ?_; clear hK K; refine SW.block ?_
    refine SW.loop (α := Nat × Nat) (fun x => ⟨[(5, .int .i64 (x.1 : Nat)), (1, .int .i64 (m - (x.2 : Int))), (0, .fz (SelectSf l))], []⟩) (fun x => x.1 ≤ l.length ∧ x.2 = l.length + ((l.take x.1).map Select.sz).sum ∧ (x.2 : Int) ≤ m) (fun x => l.length - x.1) ((0, l.length)) ?_ ?_ (fun x hx => ?_)
    case' refine_1 =>
     exact ⟨by simp, by simp, by simp at hb1; simp only []; omega⟩
    case' refine_2 =>
     exact Wk.cut (by simp) (by simp [subE]) (by simp [cutH]) (by simp [lowE, lowN]) (by simp)
    case' refine_3 =>
     obtain ⟨k, A⟩ := x; simp only [] at hx; obtain ⟨hk, hA, hm3⟩ := hx; simp only []; refine SW.seqK fun K3 hK3 => ?_; refine SW.rg fun K hK => ?_; simp -implicitDefEqProofs; repeat refine ⟨by omega, ?_⟩
     refine hK _ ?_; clear hK K; refine SW.cond _ rfl (by simp) ?_ ?_
     case' refine_2 =>
      intro hb2; have hk : k = l.length := by simp at hb2; omega
      subst hk; rw [List.take_length] at hA
      first
      | (exfalso; simp at hb2; done)
      | (exfalso; simp at hb2; omega)
      | (
       refine SW.exit ?_; simp only [Ex.then, Ex.ib]; try simp only [if_true, if_false, reduceIte]
       refine hK2 _ ?_; refine SW.rg fun K hK => ?_; simp -implicitDefEqProofs; repeat refine ⟨by omega, ?_⟩
       refine hK _ ?_; clear hK K; refine SW.ret ?_; simp [Ex.then, Ex.ib]
       first
         | (simp at hb3; omega)
         | (simp at hb1; omega)
         | omega)
     rotate_right
     case' _ =>
      intro hb2; have hlt : k < l.length := by simp at hb2; omega
      obtain ⟨x, hxk⟩ : ∃ x, l[k]? = some x := ⟨_, List.getElem?_eq_getElem hlt⟩
      have hxm := List.mem_of_getElem? hxk
      have hst := szL_take (f := Select.sz) hxk
      have htot := sum_take Select.sz l (k + 1)
      have hq := szR_cases x.sz (m - (A : Int))
      first
      | (exfalso; simp at hb2; done)
      | (exfalso; simp at hb2; omega)
      | (
       refine SW.skip ?_; refine hK3 _ ?_; refine SW.seqK fun K4 hK4 => ?_; refine SW.block ?_; refine SW.rg fun K hK => ?_; simp -implicitDefEqProofs [hxk]; iterate 2 (try refine ⟨by omega, ?_⟩)
       refine CallK.fzE (szSelect_ok x (m - (A : Int)) (hf x hxm) (by omega) (by omega)) (by simp) ?_; simp -implicitDefEqProofs [hxk]; repeat refine ⟨by omega, ?_⟩
       refine hK _ ?_; clear hK K; refine SW.rg fun K hK => ?_; simp -implicitDefEqProofs; repeat refine ⟨by omega, ?_⟩
       refine hK _ ?_; clear hK K; refine SW.cond _ rfl (by simp) ?_ ?_
       case' refine_2 =>
        intro hb3; have hq2 : szR x.sz (m - (A : Int)) = m - (A : Int) - (x.sz : Int) := by simp at hb3; omega
        first
        | (exfalso; simp at hb3; done)
        | (exfalso; simp at hb3; omega)
        | (
         refine SW.skip ?_; refine hK4 _ ?_; refine SW.regionE fun K hK => ?_; simp -implicitDefEqProofs; repeat refine ⟨by omega, ?_⟩
         refine hK _ ?_; clear hK K; refine ⟨(k + 1, A + x.sz), ⟨by simp only []; omega, by simp only []; rw [hst]; omega, by simp only []; simp at hb3; omega⟩, by simp only []; omega, ?_⟩
         exact Wk.cut (by simp) (by simp [subE, wrap1 k (by omega), hq2]; omega) (by simp [cutH]) (by simp [lowE, lowN]) (by simp))
       rotate_right
       case' _ =>
        intro hb3
        first
        | (exfalso; simp at hb3; done)
        | (exfalso; simp at hb3; omega)
        | (
         refine SW.rg fun K hK => ?_; simp -implicitDefEqProofs; repeat refine ⟨by omega, ?_⟩
         refine hK _ ?_; clear hK K; refine SW.ret ?_; simp [Ex.then, Ex.ib]
         first
           | (simp at hb3; omega)
           | (simp at hb1; omega)
           | omega)))
  rotate_right
  case' _ =>
   intro hb1
   first
   | (exfalso; simp at hb1; done)
   | (exfalso; simp at hb1; omega)
   | (
    refine SW.rg fun K hK => ?_; simp -implicitDefEqProofs; repeat refine ⟨by omega, ?_⟩
    refine hK _ ?_; clear hK K; refine SW.ret ?_; simp [Ex.then, Ex.ib]
    first
      | (simp at hb3; omega)
      | (simp at hb1; omega)
      | omega)
set_option maxHeartbeats 1000000 in
theorem szProc_ok (d : Proc) (m : Int) (h : d.fit) (h0 : 0 ≤ m) (h1 : m ≤ 1048576) : Fn Tryz.prog 33 [.agg d.fr, .int .i64 m] (.int .i64 (szR d.sz m)) := by
  refine Fn.intro Tryz.func33 (by decide) rfl (rs := [.tmp 4]) rfl Tryz.ntmps33 (by simp) ?_; unfold Proc.fit at h; have b0 := h
  refine SW.rg fun K hK => ?_; simp -implicitDefEqProofs; repeat refine ⟨by omega, ?_⟩
  refine hK _ ?_; clear hK K; refine SW.rg fun K hK => ?_; simp -implicitDefEqProofs; iterate 2 (try refine ⟨by omega, ?_⟩)
  refine CallK.fzE (szInstrS_ok d.code (m) b0 (by omega) (by omega)) (by simp) ?_; simp -implicitDefEqProofs; repeat refine ⟨by omega, ?_⟩
  refine hK _ ?_; clear hK K; refine SW.seqK fun K1 hK1 => ?_; refine SW.rg fun K hK => ?_; simp -implicitDefEqProofs; repeat refine ⟨by omega, ?_⟩
  refine hK _ ?_; clear hK K; refine SW.cond _ rfl (by simp) ?_ ?_
  case' refine_2 =>
   intro hb1; have q0 := szR_cases d.code.length (m)
   have n0 : 0 ≤ szR d.code.length (m) := by simp at hb1; omega
   first
   | (exfalso; simp at hb1; done)
   | (exfalso; simp at hb1; omega)
   | (
    refine SW.skip ?_; refine hK1 _ ?_; refine SW.rg fun K hK => ?_; simp -implicitDefEqProofs; repeat refine ⟨by omega, ?_⟩
    refine hK _ ?_; clear hK K; refine SW.ret ?_; simp [Ex.then, Ex.ib]
    all_goals (
      have qq := szR_cases d.sz m
      unfold Proc.sz at qq ⊢
      first | (simp at *; done) | (simp at *; omega)))
  rotate_right
  case' _ =>
   intro hb1; have q0 := szR_cases d.code.length (m)
   first
   | (exfalso; simp at hb1; done)
   | (exfalso; simp at hb1; omega)
   | (
    refine SW.rg fun K hK => ?_; simp -implicitDefEqProofs; repeat refine ⟨by omega, ?_⟩
    refine hK _ ?_; clear hK K; refine SW.ret ?_; simp [Ex.then, Ex.ib]
    all_goals (
      have qq := szR_cases d.sz m
      unfold Proc.sz at qq ⊢
      first | (simp at *; done) | (simp at *; omega)))
set_option maxHeartbeats 1000000 in
theorem szProcS_ok (l : List Proc) (m : Int) (hh : l.length ≤ maxLen ∧ ∀ x ∈ l, x.fit) (h0 : 0 ≤ m) (h1 : m ≤ 1048576) : Fn Tryz.prog 17 [.fz (ProcSf l), .int .i64 m] (.int .i64 (szR (szL Proc.sz l) m)) := by
  refine Fn.intro Tryz.func17 (by decide) rfl (rs := [.tmp 4]) rfl Tryz.ntmps17 (by simp) ?_; obtain ⟨h, hf⟩ := hh; have hm9 : l.length ≤ 2 ^ 63 - 1 := h
  have hw := wrapI (m - (l.length : Int)) (by omega) (by omega)
  have qq := szR_cases (szL Proc.sz l) m
  have hL : szL Proc.sz l = l.length + (l.map Proc.sz).sum := rfl
  refine SW.rg fun K hK => ?_; simp -implicitDefEqProofs; repeat refine ⟨by omega, ?_⟩
  refine hK _ ?_; clear hK K; refine SW.rg fun K hK => ?_; simp -implicitDefEqProofs [hw]; repeat refine ⟨by omega, ?_⟩
  refine hK _ ?_; clear hK K; refine SW.seqK fun K1 hK1 => ?_; refine SW.rg fun K hK => ?_; simp -implicitDefEqProofs; repeat refine ⟨by omega, ?_⟩
  refine hK _ ?_; clear hK K; refine SW.cond _ rfl (by simp) ?_ ?_
  case' refine_2 =>
   intro hb1
   first
   | (exfalso; simp at hb1; done)
   | (exfalso; simp at hb1; omega)
   | (
    refine SW.skip ?_; refine hK1 _ ?_; refine SW.seqK fun K2 hK2 => ?_; refine SW.rg fun K hK => ?_; simp -implicitDefEqProofs; repeat refine ⟨by omega, ?_⟩
    refine hK _ ?_; clear hK K; refine SW.block ?_
    refine SW.loop (α := Nat × Nat) (fun x => ⟨[(5, .int .i64 (x.1 : Nat)), (1, .int .i64 (m - (x.2 : Int))), (0, .fz (ProcSf l))], []⟩) (fun x => x.1 ≤ l.length ∧ x.2 = l.length + ((l.take x.1).map Proc.sz).sum ∧ (x.2 : Int) ≤ m) (fun x => l.length - x.1) ((0, l.length)) ?_ ?_ (fun x hx => ?_)
    case' refine_1 =>
     exact ⟨by simp, by simp, by simp at hb1; simp only []; omega⟩
    case' refine_2 =>
     exact Wk.cut (by simp) (by simp [subE]) (by simp [cutH]) (by simp [lowE, lowN]) (by simp)
    case' refine_3 =>
     obtain ⟨k, A⟩ := x; simp only [] at hx; obtain ⟨hk, hA, hm3⟩ := hx; simp only []; refine SW.seqK fun K3 hK3 => ?_; refine SW.rg fun K hK => ?_; simp -implicitDefEqProofs; repeat refine ⟨by omega, ?_⟩
     refine hK _ ?_; clear hK K; refine SW.cond _ rfl (by simp) ?_ ?_
     case' refine_2 =>
      intro hb2; have hk : k = l.length := by simp at hb2; omega
      subst hk; rw [List.take_length] at hA
      first
      | (exfalso; simp at hb2; done)
      | (exfalso; simp at hb2; omega)
      | (
       refine SW.exit ?_; simp only [Ex.then, Ex.ib]; try simp only [if_true, if_false, reduceIte]
       refine hK2 _ ?_; refine SW.rg fun K hK => ?_; simp -implicitDefEqProofs; repeat refine ⟨by omega, ?_⟩
       refine hK _ ?_; clear hK K; refine SW.ret ?_; simp [Ex.then, Ex.ib]
       first
         | (simp at hb3; omega)
         | (simp at hb1; omega)
         | omega)
     rotate_right
     case' _ =>
      intro hb2; have hlt : k < l.length := by simp at hb2; omega
      obtain ⟨x, hxk⟩ : ∃ x, l[k]? = some x := ⟨_, List.getElem?_eq_getElem hlt⟩
      have hxm := List.mem_of_getElem? hxk
      have hst := szL_take (f := Proc.sz) hxk
      have htot := sum_take Proc.sz l (k + 1)
      have hq := szR_cases x.sz (m - (A : Int))
      first
      | (exfalso; simp at hb2; done)
      | (exfalso; simp at hb2; omega)
      | (
       refine SW.skip ?_; refine hK3 _ ?_; refine SW.seqK fun K4 hK4 => ?_; refine SW.block ?_; refine SW.rg fun K hK => ?_; simp -implicitDefEqProofs [hxk]; iterate 2 (try refine ⟨by omega, ?_⟩)
       refine CallK.fzE (szProc_ok x (m - (A : Int)) (hf x hxm) (by omega) (by omega)) (by simp) ?_; simp -implicitDefEqProofs [hxk]; repeat refine ⟨by omega, ?_⟩
       refine hK _ ?_; clear hK K; refine SW.rg fun K hK => ?_; simp -implicitDefEqProofs; repeat refine ⟨by omega, ?_⟩
       refine hK _ ?_; clear hK K; refine SW.cond _ rfl (by simp) ?_ ?_
       case' refine_2 =>
        intro hb3; have hq2 : szR x.sz (m - (A : Int)) = m - (A : Int) - (x.sz : Int) := by simp at hb3; omega
        first
        | (exfalso; simp at hb3; done)
        | (exfalso; simp at hb3; omega)
        | (
         refine SW.skip ?_; refine hK4 _ ?_; refine SW.regionE fun K hK => ?_; simp -implicitDefEqProofs; repeat refine ⟨by omega, ?_⟩
         refine hK _ ?_; clear hK K; refine ⟨(k + 1, A + x.sz), ⟨by simp only []; omega, by simp only []; rw [hst]; omega, by simp only []; simp at hb3; omega⟩, by simp only []; omega, ?_⟩
         exact Wk.cut (by simp) (by simp [subE, wrap1 k (by omega), hq2]; omega) (by simp [cutH]) (by simp [lowE, lowN]) (by simp))
       rotate_right
       case' _ =>
        intro hb3
        first
        | (exfalso; simp at hb3; done)
        | (exfalso; simp at hb3; omega)
        | (
         refine SW.rg fun K hK => ?_; simp -implicitDefEqProofs; repeat refine ⟨by omega, ?_⟩
         refine hK _ ?_; clear hK K; refine SW.ret ?_; simp [Ex.then, Ex.ib]
         first
           | (simp at hb3; omega)
           | (simp at hb1; omega)
           | omega)))
  rotate_right
  case' _ =>
   intro hb1
   first
   | (exfalso; simp at hb1; done)
   | (exfalso; simp at hb1; omega)
   | (
    refine SW.rg fun K hK => ?_; simp -implicitDefEqProofs; repeat refine ⟨by omega, ?_⟩
    refine hK _ ?_; clear hK K; refine SW.ret ?_; simp [Ex.then, Ex.ib]
    first
      | (simp at hb3; omega)
      | (simp at hb1; omega)
      | omega)
set_option maxHeartbeats 1000000 in
theorem szProg_ok (d : Prog) (m : Int) (h : d.fit) (h0 : 0 ≤ m) (h1 : m ≤ 1048576) : Fn Tryz.prog 4 [.agg d.fr, .int .i64 m] (.int .i64 (szR d.sz m)) := by
  refine Fn.intro Tryz.func4 (by decide) rfl (rs := [.tmp 4]) rfl Tryz.ntmps4 (by simp) ?_; unfold Prog.fit at h; obtain ⟨b0, b2, c2, b3, c3⟩ := h; refine SW.rg fun K hK => ?_; simp -implicitDefEqProofs; repeat refine ⟨by omega, ?_⟩
  refine hK _ ?_; clear hK K; refine SW.rg fun K hK => ?_; simp -implicitDefEqProofs; iterate 2 (try refine ⟨by omega, ?_⟩)
  refine CallK.fzE (szIntS_ok d.caps (m) b0 (by omega) (by omega)) (by simp) ?_; simp -implicitDefEqProofs; repeat refine ⟨by omega, ?_⟩
  refine hK _ ?_; clear hK K; refine SW.seqK fun K1 hK1 => ?_; refine SW.rg fun K hK => ?_; simp -implicitDefEqProofs; repeat refine ⟨by omega, ?_⟩
  refine hK _ ?_; clear hK K; refine SW.cond _ rfl (by simp) ?_ ?_
  case' refine_2 =>
   intro hb1; have q0 := szR_cases d.caps.length (m)
   have n0 : 0 ≤ szR d.caps.length (m) := by simp at hb1; omega
   first
   | (exfalso; simp at hb1; done)
   | (exfalso; simp at hb1; omega)
   | (
    refine SW.skip ?_; refine hK1 _ ?_; refine SW.rg fun K hK => ?_; simp -implicitDefEqProofs; iterate 2 (try refine ⟨by omega, ?_⟩)
    refine CallK.fzE (szSelectS_ok d.sels (szR d.caps.length (m)) ⟨b2, c2⟩ (by omega) (by omega)) (by simp) ?_; simp -implicitDefEqProofs; repeat refine ⟨by omega, ?_⟩
    refine hK _ ?_; clear hK K; refine SW.seqK fun K2 hK2 => ?_; refine SW.rg fun K hK => ?_; simp -implicitDefEqProofs; repeat refine ⟨by omega, ?_⟩
    refine hK _ ?_; clear hK K; refine SW.cond _ rfl (by simp) ?_ ?_
    case' refine_2 =>
     intro hb2; have q1 := szR_cases (szL Select.sz d.sels) (szR d.caps.length (m))
     have n1 : 0 ≤ szR (szL Select.sz d.sels) (szR d.caps.length (m)) := by simp at hb2; omega
     first
     | (exfalso; simp at hb2; done)
     | (exfalso; simp at hb2; omega)
     | (
      refine SW.skip ?_; refine hK2 _ ?_; refine SW.rg fun K hK => ?_; simp -implicitDefEqProofs; iterate 2 (try refine ⟨by omega, ?_⟩)
      refine CallK.fzE (szProcS_ok d.procs (szR (szL Select.sz d.sels) (szR d.caps.length (m))) ⟨b3, c3⟩ (by omega) (by omega)) (by simp) ?_; simp -implicitDefEqProofs; repeat refine ⟨by omega, ?_⟩
      refine hK _ ?_; clear hK K; refine SW.seqK fun K3 hK3 => ?_; refine SW.rg fun K hK => ?_; simp -implicitDefEqProofs; repeat refine ⟨by omega, ?_⟩
      refine hK _ ?_; clear hK K; refine SW.cond _ rfl (by simp) ?_ ?_
      case' refine_2 =>
       intro hb3; have q2 := szR_cases (szL Proc.sz d.procs) (szR (szL Select.sz d.sels) (szR d.caps.length (m)))
       have n2 : 0 ≤ szR (szL Proc.sz d.procs) (szR (szL Select.sz d.sels) (szR d.caps.length (m))) := by simp at hb3; omega
       first
       | (exfalso; simp at hb3; done)
       | (exfalso; simp at hb3; omega)
       | (
        refine SW.skip ?_; refine hK3 _ ?_; refine SW.rg fun K hK => ?_; simp -implicitDefEqProofs; repeat refine ⟨by omega, ?_⟩
        refine hK _ ?_; clear hK K; refine SW.ret ?_; simp [Ex.then, Ex.ib]
        all_goals (
          have qq := szR_cases d.sz m
          unfold Prog.sz at qq ⊢
          first | (simp at *; done) | (simp at *; omega)))
      rotate_right
      case' _ =>
       intro hb3; have q2 := szR_cases (szL Proc.sz d.procs) (szR (szL Select.sz d.sels) (szR d.caps.length (m)))
       first
       | (exfalso; simp at hb3; done)
       | (exfalso; simp at hb3; omega)
       | (
        refine SW.rg fun K hK => ?_; simp -implicitDefEqProofs; repeat refine ⟨by omega, ?_⟩
        refine hK _ ?_; clear hK K; refine SW.ret ?_; simp [Ex.then, Ex.ib]
        all_goals (
          have qq := szR_cases d.sz m
          unfold Prog.sz at qq ⊢
          first | (simp at *; done) | (simp at *; omega))))
    rotate_right
    case' _ =>
     intro hb2; have q1 := szR_cases (szL Select.sz d.sels) (szR d.caps.length (m))
     first
     | (exfalso; simp at hb2; done)
     | (exfalso; simp at hb2; omega)
     | (
      refine SW.rg fun K hK => ?_; simp -implicitDefEqProofs; repeat refine ⟨by omega, ?_⟩
      refine hK _ ?_; clear hK K; refine SW.ret ?_; simp [Ex.then, Ex.ib]
      all_goals (
        have qq := szR_cases d.sz m
        unfold Prog.sz at qq ⊢
        first | (simp at *; done) | (simp at *; omega))))
  rotate_right
  case' _ =>
   intro hb1; have q0 := szR_cases d.caps.length (m)
   first
   | (exfalso; simp at hb1; done)
   | (exfalso; simp at hb1; omega)
   | (
    refine SW.rg fun K hK => ?_; simp -implicitDefEqProofs; repeat refine ⟨by omega, ?_⟩
    refine hK _ ?_; clear hK K; refine SW.ret ?_; simp [Ex.then, Ex.ib]
    all_goals (
      have qq := szR_cases d.sz m
      unfold Prog.sz at qq ⊢
      first | (simp at *; done) | (simp at *; omega)))
end HT
set_option linter.unusedSimpArgs false
set_option linter.unusedVariables false
namespace HT
open Go Go.Proofs HK
theorem rdInt : Reads Tryz.prog 3 (fun n : Int => [.int .i64 n]) (fun n => (Lit.int .i64 n).wf = true) := Reads.int (by kernel_rfl)
theorem rdBool : Reads Tryz.prog 4 (fun b : Bool => [.bool b]) (fun _ => True) := Reads.bool (by kernel_rfl)
theorem rdIntS : Reads Tryz.prog 22 (fun l : List Int => [.fz (IntS l)]) (fun l => l.length ≤ maxLen) :=
  (Reads.slice (e := 3) (by kernel_rfl) rdInt (Nat.lt_of_lt_of_eq (m := 1) (by omega) (by kernel_rfl))).map id (by intro _; rfl) (fun _ h => h.2)
theorem rdCase : Reads Tryz.prog 107 Case.cl (fun _ => True) :=
  (Reads.struct (l := [(4, 0), (3, 1), (3, 2), (3, 3), (3, 4)]) (tot := 5) (by kernel_rfl) (ReadsF.cons 1 (by kernel_rfl) rdBool (ReadsF.cons 1 (by kernel_rfl) rdInt (ReadsF.cons 1 (by kernel_rfl) rdInt (ReadsF.cons 1 (by kernel_rfl) rdInt (ReadsF.cons 1 (by kernel_rfl) rdInt ReadsF.nil)))))).map
    (fun x => ⟨x.1, x.2.1, x.2.2.1, x.2.2.2.1, x.2.2.2.2.1⟩) (by intro _; rfl) (fun _ _ => trivial)
theorem rdCaseS : Reads Tryz.prog 63 (fun l : List Case => [.fz (CaseS l)]) (fun l => l.length ≤ maxLen) :=
  (Reads.slice (e := 107) (by kernel_rfl) rdCase (Nat.lt_of_lt_of_eq (m := 5) (by omega) (by kernel_rfl))).map id (by intro _; rfl) (fun _ h => h.2)
theorem rdInstr : Reads Tryz.prog 109 Instr.cl (fun _ => True) :=
  (Reads.struct (l := [(3, 0), (3, 1), (3, 2), (3, 3)]) (tot := 4) (by kernel_rfl) (ReadsF.cons 1 (by kernel_rfl) rdInt (ReadsF.cons 1 (by kernel_rfl) rdInt (ReadsF.cons 1 (by kernel_rfl) rdInt (ReadsF.cons 1 (by kernel_rfl) rdInt ReadsF.nil))))).map
    (fun x => ⟨x.1, x.2.1, x.2.2.1, x.2.2.2.1⟩) (by intro _; rfl) (fun _ _ => trivial)
theorem rdInstrS : Reads Tryz.prog 67 (fun l : List Instr => [.fz (InstrS l)]) (fun l => l.length ≤ maxLen) :=
  (Reads.slice (e := 109) (by kernel_rfl) rdInstr (Nat.lt_of_lt_of_eq (m := 4) (by omega) (by kernel_rfl))).map id (by intro _; rfl) (fun _ h => h.2)
theorem rdSelect : Reads Tryz.prog 65 Select.fr (fun x => x.fit) :=
  (Reads.struct (l := [(63, 0), (3, 1)]) (tot := 2) (by kernel_rfl) (ReadsF.cons 1 (by kernel_rfl) rdCaseS (ReadsF.cons 1 (by kernel_rfl) rdInt ReadsF.nil))).map
    (fun x => ⟨x.1, x.2.1⟩) (by intro _; rfl) (fun _ h => h.1)
theorem rdSelectS : Reads Tryz.prog 23 (fun l : List Select => [.fz (SelectSf l)]) (fun l => l.length ≤ maxLen ∧ ∀ x ∈ l, x.fit) :=
  (Reads.slice (e := 65) (by kernel_rfl) rdSelect (Nat.lt_of_lt_of_eq (m := 2) (by omega) (by kernel_rfl))).map id (by intro _; rfl) (fun _ h => ⟨h.2, h.1⟩)
theorem rdProc : Reads Tryz.prog 69 Proc.fr (fun x => x.fit) :=
  (Reads.struct (l := [(67, 0)]) (tot := 1) (by kernel_rfl) (ReadsF.cons 1 (by kernel_rfl) rdInstrS ReadsF.nil)).map
    (fun x => ⟨x.1⟩) (by intro _; rfl) (fun _ h => h.1)
theorem rdProcS : Reads Tryz.prog 24 (fun l : List Proc => [.fz (ProcSf l)]) (fun l => l.length ≤ maxLen ∧ ∀ x ∈ l, x.fit) :=
  (Reads.slice (e := 69) (by kernel_rfl) rdProc (Nat.lt_of_lt_of_eq (m := 1) (by omega) (by kernel_rfl))).map id (by intro _; rfl) (fun _ h => ⟨h.2, h.1⟩)
theorem rdProg : Reads Tryz.prog 26 Prog.fr (fun x => x.fit) :=
  (Reads.struct (l := [(22, 0), (3, 1), (23, 2), (24, 3)]) (tot := 4) (by kernel_rfl) (ReadsF.cons 1 (by kernel_rfl) rdIntS (ReadsF.cons 1 (by kernel_rfl) rdInt (ReadsF.cons 1 (by kernel_rfl) rdSelectS (ReadsF.cons 1 (by kernel_rfl) rdProcS ReadsF.nil))))).map
    (fun x => ⟨x.1, x.2.1, x.2.2.1, x.2.2.2.1⟩) (by intro _; rfl) (fun _ h => ⟨h.1, h.2.2.1.1, h.2.2.1.2, h.2.2.2.1.1, h.2.2.2.1.2⟩)
end HT
