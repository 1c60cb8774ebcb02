import Derived.Test.YtdhoappjadnhcaaGreatG14
import Derived.Test.YtdhoappjadnhcaaGreatG2b
/-
  My own texts (road H): HCTT HCTU.
-/
set_option maxHeartbeats 8000000
set_option linter.unusedSimpArgs false
set_option linter.unusedVariables false
namespace HT
open Go Go.Proofs HK
def stepG (p : Prog) (g : Gor) : Gor :=
  if (atI p g).op = 1 then over g 0
  else if (atI p g).op = 6 then { g with pc := (atI p g).a }
  else if (atI p g).op = 7 then { g with pc := if regD g (atI p g).a ≠ 0 then (atI p g).b else g.pc + 1 }
  else if (atI p g).op = 2 then { setR g (atI p g).a (atI p g).b with pc := g.pc + 1 }
  else { setR g (atI p g).a (calcR (atI p g).op (regD g (atI p g).b) (regD g (atI p g).c)) with pc := g.pc + 1 }
structure Inv (p : Prog) (g : Gor) (T : Nat) : Prop where
  prog : progOk p = true
  here : atOk p g
  regs : g.regs.length = 6
  trace : g.trace.length ≤ T
def burnR (p : Prog) (most : Int) : Nat → Gor → Int → Gor × Int
  | 0, g, n => (g, n)
  | f + 1, g, n => if decide (n < most) && isLoc p g then burnR p most f (stepG p g) (n + 1) else (g, n)
theorem over_s (g : Gor) (why : Int) (hl : g.regs.length ≤ 2 ^ 29) (ht : g.trace.length ≤ 2 ^ 29) : Fn Tryz.prog 111 [.agg g.fr, .int .i64 why] (.agg (over g why).ow) := by
  refine Fn.intro Tryz.func111 (by decide) rfl (rs := [.cell 4 97]) rfl Tryz.ntmps111 (by simp) ?_; obtain ⟨proc, pc, regs, state, trace⟩ := g; simp only [] at hl ht; refine SW.rb ?_; refine SW.rg fun K hK => ?_; simp -implicitDefEqProofs
  repeat (refine And.intro (by clear hK; first | omega | (intros; simp_all; done) | (intros; grind)) ?_)
  refine CallK.imE (copy_s ⟨proc, pc, regs, state, trace⟩ (by simpa using hl) (by simpa using ht)) (by simp) (Gor_oI _) ?_; simp -implicitDefEqProofs
  repeat (refine And.intro (by clear hK; first | omega | (intros; simp_all; done) | (intros; grind)) ?_)
  refine hK _ ?_; clear hK K; refine SW.seqK fun K1 hK1 => ?_; refine SW.rb ?_; refine SW.cond _ rfl (by simp) ?_ ?_
  case' refine_1 =>
   intro hb1; have hw : why = 0 := by simpa using hb1
   refine SW.rb ?_; refine SW.rg fun K hK => ?_; simp -implicitDefEqProofs; repeat (refine And.intro (by clear hK; first | omega | (intros; simp_all; done) | (intros; grind)) ?_)
   refine CallK.imE (tell_s ⟨proc, pc, regs, 3, trace⟩ ⟨9, 0, 0, false⟩ (by simpa using hl) (by simp; omega)) (by simp) (Gor_oI _) ?_; simp -implicitDefEqProofs
   repeat (refine And.intro (by clear hK; first | omega | (intros; simp_all; done) | (intros; grind)) ?_)
   refine hK _ ?_; clear hK K; refine SW.ret ?_; simp [Ex.then, Ex.ib, -strN]
   all_goals first
     | (simp [over, tell, hw, -strN]; exact ⟨IntS_strM _, ItemS_strM _⟩)
     | (simp [over, tell, hw]; done)
     | fail
  intro hb1; have hw : ¬ why = 0 := by simpa using hb1
  refine SW.skip ?_; refine hK1 _ ?_; refine SW.rb ?_; refine SW.rg fun K hK => ?_; simp -implicitDefEqProofs; repeat (refine And.intro (by clear hK; first | omega | (intros; simp_all; done) | (intros; grind)) ?_)
  refine CallK.imE (tell_s ⟨proc, pc, regs, 4, trace⟩ ⟨10, 0, why, false⟩ (by simpa using hl) (by simp; omega)) (by simp) (Gor_oI _) ?_; simp -implicitDefEqProofs
  repeat (refine And.intro (by clear hK; first | omega | (intros; simp_all; done) | (intros; grind)) ?_)
  refine hK _ ?_; clear hK K; refine SW.ret ?_; simp [Ex.then, Ex.ib, -strN]
  all_goals first
    | (simp [over, tell, hw, -strN]; exact ⟨IntS_strM _, ItemS_strM _⟩)
    | (simp [over, tell, hw]; done)
    | fail
theorem over_i (g : Gor) (why : Int) (hl : g.regs.length ≤ 2 ^ 29) (ht : g.trace.length ≤ 2 ^ 29) : Fn Tryz.prog 133 [.agg g.fr, .int .i64 why] (.agg (over g why).ow) := by
  refine Fn.intro Tryz.func133 (by decide) rfl (rs := [.cell 4 97]) rfl Tryz.ntmps133 (by simp) ?_; obtain ⟨proc, pc, regs, state, trace⟩ := g; simp only [] at hl ht; refine SW.rb ?_; refine SW.seqK fun K1 hK1 => ?_; refine SW.rb ?_
  refine SW.cond _ rfl (by simp) ?_ ?_
  case' refine_1 =>
   intro hb1; have hw : why = 0 := by simpa using hb1
   refine SW.rb ?_; refine SW.rg fun K hK => ?_; simp -implicitDefEqProofs; repeat (refine And.intro (by clear hK; first | omega | (intros; simp_all; done) | (intros; grind)) ?_)
   refine CallK.imE (tell_i ⟨proc, pc, regs, 3, trace⟩ ⟨9, 0, 0, false⟩ (by simpa using hl) (by simp; omega)) (by simp) (Gor_oI _) ?_; simp -implicitDefEqProofs
   repeat (refine And.intro (by clear hK; first | omega | (intros; simp_all; done) | (intros; grind)) ?_)
   refine hK _ ?_; clear hK K; refine SW.ret ?_; simp [Ex.then, Ex.ib, -strN]
   all_goals first
     | (simp [over, tell, hw, -strN]; exact ⟨IntS_strM _, ItemS_strM _⟩)
     | (simp [over, tell, hw]; done)
     | fail
  intro hb1; have hw : ¬ why = 0 := by simpa using hb1
  refine SW.skip ?_; refine hK1 _ ?_; refine SW.rb ?_; refine SW.rg fun K hK => ?_; simp -implicitDefEqProofs; repeat (refine And.intro (by clear hK; first | omega | (intros; simp_all; done) | (intros; grind)) ?_)
  refine CallK.imE (tell_i ⟨proc, pc, regs, 4, trace⟩ ⟨10, 0, why, false⟩ (by simpa using hl) (by simp; omega)) (by simp) (Gor_oI _) ?_; simp -implicitDefEqProofs
  repeat (refine And.intro (by clear hK; first | omega | (intros; simp_all; done) | (intros; grind)) ?_)
  refine hK _ ?_; clear hK K; refine SW.ret ?_; simp [Ex.then, Ex.ib, -strN]
  all_goals first
    | (simp [over, tell, hw, -strN]; exact ⟨IntS_strM _, ItemS_strM _⟩)
    | (simp [over, tell, hw]; done)
    | fail
end HT
namespace HT
open Go Go.Proofs HK
theorem imQ {P : Program} {N : Sz} {ds : List (Option Tmp)} {l : List (Bool × Oper)} {d : Option Tmp} {env : Env} {h : Heap} {K : St → Prop} {fid : FuncId} {us vs : List AV} {out : AV} (hf : Fn P fid vs out) (he : us.map (viewN h 6) = vs) (hok : okI out = true)
    (k : runQ P N ds l ⟨putE env d (imp h.length out).1, h ++ (imp h.length out).2.map some⟩ K) : CallQI P N ds l d env h K fid us := CallQI.im (by rw [he]; exact hf) hok k
theorem regD_get {g : Gor} {r v : Int} (h0 : 0 ≤ r) (h : g.regs[r.toNat]? = some v) : regD g r = v := by
  rw [regD, if_pos h0, h]; rfl
end HT
