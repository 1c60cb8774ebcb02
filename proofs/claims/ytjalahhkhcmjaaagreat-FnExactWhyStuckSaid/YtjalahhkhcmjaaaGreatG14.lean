import Derived.Test.YtjalahhkhcmjaaaGreatG12
import Derived.Test.YtjalahhkhcmjaaaGreatG13
/-
  My own texts (road H): HMTR HMTS.
-/
set_option linter.unusedSimpArgs false
set_option linter.unusedVariables false
namespace HT
open Go Go.Proofs HK
def regD (g : Gor) (r : Int) : Int := if 0 ≤ r then (g.regs[r.toNat]?).getD 0 else 0
def setR (g : Gor) (r v : Int) : Gor := if 0 ≤ r ∧ r < (g.regs.length : Int) ∧ valOk v = true then { g with regs := g.regs.set r.toNat v } else g
def modI (n m : Int) : Int := if n.tmod m < 0 then n.tmod m + m else n.tmod m
def calcR (op x y : Int) : Int := if valOk x && valOk y then (if op = 3 then modI (x + y) 1000 else if op = 4 then modI (x - y) 1000 else if op = 5 then (if x < y then 1 else 0) else 0) else 0
def tell (g : Gor) (i : Item) : Gor := { g with trace := g.trace ++ [i] }
def over (g : Gor) (why : Int) : Gor := if why = 0 then { g with state := 3, trace := g.trace ++ [⟨9, 0, 0, false⟩] } else { g with state := 4, trace := g.trace ++ [⟨10, 0, why, false⟩] }
end HT
set_option linter.unusedSimpArgs false
set_option linter.unusedVariables false
namespace HT
open Go Go.Proofs HK
set_option maxHeartbeats 1000000 in
theorem reg_s2 (g : Gor) (r : Int) (hl : g.regs.length ≤ 2 ^ 29) : Fn Tryz.prog 87 [.agg g.fr, .int .i64 r] (.int .i64 (regD g r)) := by
  refine Fn.intro Tryz.func87 (by decide) rfl (rs := [.tmp 4]) rfl Tryz.ntmps87 (by simp) ?_; refine SW.rg fun K hK => ?_; simp -implicitDefEqProofs
  repeat (refine And.intro (by clear hK; first | omega | (intros; simp_all; done) | (intros; grind)) ?_)
  refine hK _ ?_; clear hK K; refine SW.seqK fun K1 hK1 => ?_; refine SW.rg fun K hK => ?_; simp -implicitDefEqProofs; repeat (refine And.intro (by clear hK; first | omega | (intros; simp_all; done) | (intros; grind)) ?_)
  refine hK _ ?_; clear hK K; refine SW.cond _ rfl (by simp) ?_ ?_
  case' refine_2 =>
   intro hb1; have hA : 0 ≤ r := by simp at hb1; omega
   have hB : r < g.regs.length := by simp at hb1; omega
   obtain ⟨x, hxk⟩ : ∃ q, g.regs[r.toNat]? = some q := ⟨_, List.getElem?_eq_getElem (by omega)⟩
   have hxE : ∀ h, g.regs[r.toNat]'h = x := fun h => (List.getElem?_eq_some_iff.1 hxk).2
   first
   | (exfalso; simp at hb1; done)
   | (exfalso; simp at hb1; omega)
   | (
    refine SW.skip ?_; refine hK1 _ ?_; refine SW.rg fun K hK => ?_; simp -implicitDefEqProofs [hA, hB, hxk, hxE]; repeat (refine And.intro (by clear hK; first | omega | (intros; simp_all; done) | (intros; grind)) ?_)
    refine hK _ ?_; clear hK K; refine SW.ret ?_; simp [Ex.then, Ex.ib]
    first
      | (rw [hno]; done)
      | (simp [regD, hA, hxk]; done)
      | fail)
  rotate_right
  case' _ =>
   intro hb1
   have hno : regD g r = 0 := by
     unfold regD; split
     · rw [List.getElem?_eq_none (by simp at hb1; omega)]; rfl
     · rfl
   first
   | (exfalso; simp at hb1; done)
   | (exfalso; simp at hb1; omega)
   | (
    refine SW.rg fun K hK => ?_; simp -implicitDefEqProofs; repeat (refine And.intro (by clear hK; first | omega | (intros; simp_all; done) | (intros; grind)) ?_)
    refine hK _ ?_; clear hK K; refine SW.ret ?_; simp [Ex.then, Ex.ib]
    first
      | (rw [hno]; done)
      | (simp [regD, hA, hxk]; done)
      | fail)
end HT
