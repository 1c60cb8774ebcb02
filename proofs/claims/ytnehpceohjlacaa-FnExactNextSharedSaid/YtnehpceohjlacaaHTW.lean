import Derived.Test.YtnehpceohjlacaaG15
/-
  My own texts (road H): HTW.
-/
set_option linter.unusedSimpArgs false
set_option linter.unusedVariables false
namespace HT
open Go Go.Proofs HK
set_option maxHeartbeats 1000000 in
theorem burn_i (p : Prog) (g : Gor) (most : Int) (h : p.ok) (hI : Inv p g 1050000) : Fn Try.prog 56 [.agg p.fr, .agg g.fr, .int .i64 most] (.tup [.agg (burnR p most 2000 g 0).1.ow, .int .i64 (burnR p most 2000 g 0).2]) := by
  refine Fn.intro Try.func56 (by decide) rfl (rs := [.cell 6 41, .tmp 7]) rfl Try.ntmps56 (by simp) ?_
  have hg6 := hI.regs
  have htr := hI.trace
  refine SW.regionK fun K hK => ?_
  simp -implicitDefEqProofs
  repeat (refine And.intro (by clear hK; first | omega | (intros; simp_all; done) | (intros; grind)) ?_)
  refine hK _ ?_
  clear hK K
  refine SW.regionK fun K hK => ?_
  simp -implicitDefEqProofs
  repeat (refine And.intro (by clear hK; first | omega | (intros; simp_all; done) | (intros; grind)) ?_)
  refine CallK.imE (copy_i g (by omega) (by omega)) (by simp) (Gor_oI _) ?_
  simp -implicitDefEqProofs
  repeat (refine And.intro (by clear hK; first | omega | (intros; simp_all; done) | (intros; grind)) ?_)
  refine hK _ ?_
  clear hK K
  refine SW.regionK fun K hK => ?_
  simp -implicitDefEqProofs
  repeat (refine And.intro (by clear hK; first | omega | (intros; simp_all; done) | (intros; grind)) ?_)
  refine hK _ ?_
  clear hK K
  refine SW.seqK fun K1 hK1 => ?_
  refine SW.block ?_
  refine SW.loop (α := Nat × Gor) (fun x => ⟨[(8, .int .i64 (x.1 : Nat)), (2, .int .i64 most), (3, .ptr 0 0 0), (4, .ptr 1 0 0), (6, .ptr 2 0 0)], [some ⟨4, [p.fr]⟩, some ⟨5, [[.int .i64 x.2.proc, .int .i64 x.2.pc, .sl 3 0 x.2.regs.length, .int .i64 x.2.state, .sl 4 0 x.2.trace.length]]⟩, some ⟨5, [[.int .i64 0, .int .i64 0, .nil, .int .i64 0, .nil]]⟩, some ⟨1, IntS x.2.regs⟩, some ⟨4, ItemS x.2.trace⟩]⟩) (fun x => x.1 ≤ 2000 ∧ Inv p x.2 (1050000 + x.1) ∧ burnR p most (2000 - x.1) x.2 x.1 = burnR p most 2000 g 0) (fun x => 2000 - x.1) ((0, g)) ?_ ?_ (fun x hx => ?_)
  case' refine_1 =>
   exact ⟨by simp, hI, rfl⟩
  case' refine_2 =>
   exact Wk.cut (by simp) (by simp [subE]) (by simp [cutH]) (by simp [lowE, lowN]) (by simp)
  case' refine_3 =>
   obtain ⟨n, g'⟩ := x
   simp only [] at hx
   obtain ⟨hn, hJ, hbr⟩ := hx
   have here := hJ.here
   have hg6' := hJ.regs
   have htr' := hJ.trace
   simp only []
   refine SW.seqK fun K2 hK2 => ?_
   refine SW.regionK fun K hK => ?_
   simp -implicitDefEqProofs
   repeat (refine And.intro (by clear hK; first | omega | (intros; simp_all; done) | (intros; grind)) ?_)
   refine CallG.fzE (by simp) (fun _ => instr_i p g' here) (by simp) ?_
   simp -implicitDefEqProofs
   repeat (refine And.intro (by clear hK; first | omega | (intros; simp_all; done) | (intros; grind)) ?_)
   refine CallG.fzE (by simp) (fun _ => shared_i (atI p g').op) (by simp) ?_
   simp -implicitDefEqProofs
   repeat (refine And.intro (by clear hK; first | omega | (intros; simp_all; done) | (intros; grind)) ?_)
   refine hK _ ?_
   clear hK K
   refine SW.cond _ rfl (by simp) ?_ ?_
   case' refine_2 =>
    intro hb1
    first
    | (exfalso; simp at hb1; done)
    | (exfalso; simp at hb1; omega)
    | (
     have hend : burnR p most 2000 g 0 = (g', (n : Int)) := by
       rw [← hbr]
       refine burnR_end ?_
       by_cases h9 : n = 2000
       · exact .inl (by omega)
       · refine .inr ?_
         have h8 : n < 2000 := by omega
         simp [isLoc] at hb1 ⊢
         grind
     refine SW.exit ?_
     simp only [Ex.then, Ex.inBlock]
     try simp only [if_true, if_false, reduceIte]
     refine hK1 _ ?_
     refine SW.regionK fun K hK => ?_
     simp -implicitDefEqProofs
     repeat (refine And.intro (by clear hK; first | omega | (intros; simp_all; done) | (intros; grind)) ?_)
     refine hK _ ?_
     clear hK K
     refine SW.ret ?_
     simp [Ex.then, Ex.inBlock, -strN]
     all_goals (simp [hend, strS_int, strS_bool, -strN]))
   rotate_right
   case' _ =>
    intro hb1
    first
    | (exfalso; simp at hb1; done)
    | (exfalso; simp at hb1; omega)
    | (
     have hcn : (decide ((n : Int) < most) && isLoc p g') = true ∧ n < 2000 := by
       simp [isLoc] at hb1 ⊢
       grind
     have hsh : isShared (atI p g').op = false := by
       have := hcn.1
       simp [isLoc] at this
       exact this.2.2
     have hJ2 := inv_step hJ hsh
     have hbr2 : burnR p most (2000 - (n + 1)) (stepG p g') ((n + 1 : Nat) : Int) = burnR p most 2000 g 0 := by
       rw [← hbr, show 2000 - n = (2000 - (n + 1)) + 1 by omega, burnR_go hcn.1]
       simp
     refine SW.skip ?_
     refine hK2 _ ?_
     refine SW.block ?_
     refine SW.regionK fun K hK => ?_
     simp -implicitDefEqProofs [frameH, merge, fids, renB, List.range_succ]
     repeat (refine And.intro (by clear hK; first | omega | (intros; simp_all; done) | (intros; grind)) ?_)
     refine CallS.mono (CallS.frame [3, 4] (stepLocal_i p g' h ⟨hJ.prog, here, hg6', by omega⟩ hsh) (by simp) (by simp [lowN]) (by simp) (by simp) (by simp [renH]) (by simp) (by simp) ?_) ?_
     · rintro o h' ⟨rfl, rfl⟩
       refine ⟨by simp, ?_, by simp [lowN], by simp [nfz, strN]⟩
       intro y hy
       simp only [List.mem_cons, List.not_mem_nil, or_false] at hy
       rcases hy with rfl | rfl | rfl | rfl | rfl
       · rfl
       · rfl
       · exact IntS_nfz _ _
       · exact ItemS_nfz _ _
       · simp [nfzB, nfz, lowN, strN]
     rintro o h' ⟨o0, h0, ⟨rfl, rfl⟩, rfl, rfl⟩
     simp -implicitDefEqProofs [frameH, merge, fids, renB, List.range_succ]
     repeat (refine And.intro (by clear hK; first | omega | (intros; simp_all; done) | (intros; grind)) ?_)
     refine hK _ ?_
     clear hK K
     refine SW.regionE fun K hK => ?_
     simp -implicitDefEqProofs
     repeat (refine And.intro (by clear hK; first | omega | (intros; simp_all; done) | (intros; grind)) ?_)
     refine hK _ ?_
     clear hK K
     refine ⟨(n + 1, stepG p g'), ⟨by simp only []; omega, hJ2, hbr2⟩, by simp only []; omega, ?_⟩
     exact Wk.ren [0, 1, 2, 5, 6] (by simp) (by simp) (by simp) (by simp) (by simp [renE, renN, wrap1 n (by omega)]) (by simp [renH]) (by simp [lowE, lowN]) (by simp))
set_option maxHeartbeats 1000000 in
theorem burn_s (p : Prog) (g : Gor) (most : Int) (h : p.ok) (hI : Inv p g 1050000) : Fn Try.prog 53 [.agg p.fr, .agg g.fr, .int .i64 most] (.tup [.agg (burnR p most 2000 g 0).1.ow, .int .i64 (burnR p most 2000 g 0).2]) := by
  refine Fn.intro Try.func53 (by decide) rfl (rs := [.cell 6 41, .tmp 7]) rfl Try.ntmps53 (by simp) ?_
  have hg6 := hI.regs
  have htr := hI.trace
  refine SW.regionK fun K hK => ?_
  simp -implicitDefEqProofs
  repeat (refine And.intro (by clear hK; first | omega | (intros; simp_all; done) | (intros; grind)) ?_)
  refine hK _ ?_
  clear hK K
  refine SW.regionK fun K hK => ?_
  simp -implicitDefEqProofs
  repeat (refine And.intro (by clear hK; first | omega | (intros; simp_all; done) | (intros; grind)) ?_)
  refine CallK.imE (copy_s g (by omega) (by omega)) (by simp) (Gor_oI _) ?_
  simp -implicitDefEqProofs
  repeat (refine And.intro (by clear hK; first | omega | (intros; simp_all; done) | (intros; grind)) ?_)
  refine hK _ ?_
  clear hK K
  refine SW.regionK fun K hK => ?_
  simp -implicitDefEqProofs
  repeat (refine And.intro (by clear hK; first | omega | (intros; simp_all; done) | (intros; grind)) ?_)
  refine hK _ ?_
  clear hK K
  refine SW.seqK fun K1 hK1 => ?_
  refine SW.block ?_
  refine SW.loop (α := Nat × Gor) (fun x => ⟨[(9, .int .i64 (x.1 : Nat)), (2, .int .i64 most), (3, .ptr 0 0 0), (6, .ptr 2 0 0), (8, .ptr 5 0 0)], [some ⟨4, [p.fr]⟩, some ⟨5, [g.fr]⟩, some ⟨5, [[.int .i64 0, .int .i64 0, .nil, .int .i64 0, .nil]]⟩, some ⟨1, IntS x.2.regs⟩, some ⟨4, ItemS x.2.trace⟩, some ⟨5, [[.int .i64 x.2.proc, .int .i64 x.2.pc, .sl 3 0 x.2.regs.length, .int .i64 x.2.state, .sl 4 0 x.2.trace.length]]⟩]⟩) (fun x => x.1 ≤ 2000 ∧ Inv p x.2 (1050000 + x.1) ∧ burnR p most (2000 - x.1) x.2 x.1 = burnR p most 2000 g 0) (fun x => 2000 - x.1) ((0, g)) ?_ ?_ (fun x hx => ?_)
  case' refine_1 =>
   exact ⟨by simp, hI, rfl⟩
  case' refine_2 =>
   exact Wk.cut (by simp) (by simp [subE]) (by simp [cutH]) (by simp [lowE, lowN]) (by simp)
  case' refine_3 =>
   obtain ⟨n, g'⟩ := x
   simp only [] at hx
   obtain ⟨hn, hJ, hbr⟩ := hx
   have here := hJ.here
   have hg6' := hJ.regs
   have htr' := hJ.trace
   simp only []
   refine SW.seqK fun K2 hK2 => ?_
   refine SW.regionK fun K hK => ?_
   simp -implicitDefEqProofs
   repeat (refine And.intro (by clear hK; first | omega | (intros; simp_all; done) | (intros; grind)) ?_)
   refine CallG.fzE (by simp) (fun _ => isLoc_s p g' here) (by simp) ?_
   simp -implicitDefEqProofs
   repeat (refine And.intro (by clear hK; first | omega | (intros; simp_all; done) | (intros; grind)) ?_)
   refine hK _ ?_
   clear hK K
   refine SW.cond _ rfl (by simp) ?_ ?_
   case' refine_2 =>
    intro hb1
    first
    | (exfalso; simp at hb1; done)
    | (exfalso; simp at hb1; omega)
    | (
     have hend : burnR p most 2000 g 0 = (g', (n : Int)) := by
       rw [← hbr]
       refine burnR_end ?_
       by_cases h9 : n = 2000
       · exact .inl (by omega)
       · refine .inr ?_
         have h8 : n < 2000 := by omega
         simp [isLoc] at hb1 ⊢
         grind
     refine SW.exit ?_
     simp only [Ex.then, Ex.inBlock]
     try simp only [if_true, if_false, reduceIte]
     refine hK1 _ ?_
     refine SW.regionK fun K hK => ?_
     simp -implicitDefEqProofs
     repeat (refine And.intro (by clear hK; first | omega | (intros; simp_all; done) | (intros; grind)) ?_)
     refine hK _ ?_
     clear hK K
     refine SW.ret ?_
     simp [Ex.then, Ex.inBlock, -strN]
     all_goals (simp [hend, strS_int, strS_bool, -strN]))
   rotate_right
   case' _ =>
    intro hb1
    first
    | (exfalso; simp at hb1; done)
    | (exfalso; simp at hb1; omega)
    | (
     have hcn : (decide ((n : Int) < most) && isLoc p g') = true ∧ n < 2000 := by
       simp [isLoc] at hb1 ⊢
       grind
     have hsh : isShared (atI p g').op = false := by
       have := hcn.1
       simp [isLoc] at this
       exact this.2.2
     have hJ2 := inv_step hJ hsh
     have hbr2 : burnR p most (2000 - (n + 1)) (stepG p g') ((n + 1 : Nat) : Int) = burnR p most 2000 g 0 := by
       rw [← hbr, show 2000 - n = (2000 - (n + 1)) + 1 by omega, burnR_go hcn.1]
       simp
     refine SW.skip ?_
     refine hK2 _ ?_
     refine SW.block ?_
     refine SW.regionK fun K hK => ?_
     simp -implicitDefEqProofs
     repeat (refine And.intro (by clear hK; first | omega | (intros; simp_all; done) | (intros; grind)) ?_)
     refine CallK.imE (stepL_s p g' h ⟨hJ.prog, here, hg6', by omega⟩ hsh) (by simp) (Gor_oI _) ?_
     simp -implicitDefEqProofs
     repeat (refine And.intro (by clear hK; first | omega | (intros; simp_all; done) | (intros; grind)) ?_)
     refine hK _ ?_
     clear hK K
     refine SW.regionE fun K hK => ?_
     simp -implicitDefEqProofs
     repeat (refine And.intro (by clear hK; first | omega | (intros; simp_all; done) | (intros; grind)) ?_)
     refine hK _ ?_
     clear hK K
     refine ⟨(n + 1, stepG p g'), ⟨by simp only []; omega, hJ2, hbr2⟩, by simp only []; omega, ?_⟩
     exact Wk.ren [0, 1, 2, 6, 7, 5] (by simp) (by simp) (by simp) (by simp) (by simp [renE, renN, wrap1 n (by omega)]) (by simp [renH]) (by simp [lowE, lowN]) (by simp))
end HT
