import Derived.Test.YtjalahhkhcmjaaaGreatG14
import Derived.Test.YtjalahhkhcmjaaaGreatG2b
/-
  My own texts (road H): HMTT HMTU.
-/
set_option linter.unusedSimpArgs false
set_option linter.unusedVariables false
namespace HT
open Go Go.Proofs HK
def stepG (p : Prog) (g : Gor) : Gor :=
  if (atI p g).op = 1 then over g 0
  else if (atI p g).op = 6 then { g with pc := (atI p g).a }
  else if (atI p g).op = 7 then { g with pc := if regD g (atI p g).a ≠ 0 then (atI p g).b else g.pc + 1 }
  else if (atI p g).op = 2 then { setR g (atI p g).a (atI p g).b with pc := g.pc + 1 }
  else { setR g (atI p g).a (calcR (atI p g).op (regD g (atI p g).b) (regD g (atI p g).c)) with pc := g.pc + 1 }
structure Inv (p : Prog) (g : Gor) (T : Nat) : Prop where
  prog : progOk p = true
  here : atOk p g
  regs : g.regs.length = 6
  trace : g.trace.length ≤ T
def burnR (p : Prog) (most : Int) : Nat → Gor → Int → Gor × Int
  | 0, g, n => (g, n)
  | f + 1, g, n => if decide (n < most) && isLoc p g then burnR p most f (stepG p g) (n + 1) else (g, n)
end HT
set_option linter.unusedSimpArgs false
set_option linter.unusedVariables false
namespace HT
open Go Go.Proofs HK
theorem imQ {P : Program} {N : Sz} {ds : List (Option Tmp)} {l : List (Bool × Oper)} {d : Option Tmp} {env : Env} {h : Heap} {K : St → Prop} {fid : FuncId} {us vs : List AV} {out : AV} (hf : Fn P fid vs out) (he : us.map (viewN h 6) = vs) (hok : okI out = true)
    (k : runQ P N ds l ⟨putE env d (imp h.length out).1, h ++ (imp h.length out).2.map some⟩ K) : CallQI P N ds l d env h K fid us := CallQI.im (by rw [he]; exact hf) hok k
theorem regD_get {g : Gor} {r v : Int} (h0 : 0 ≤ r) (h : g.regs[r.toNat]? = some v) : regD g r = v := by
  rw [regD, if_pos h0, h]; rfl
end HT
