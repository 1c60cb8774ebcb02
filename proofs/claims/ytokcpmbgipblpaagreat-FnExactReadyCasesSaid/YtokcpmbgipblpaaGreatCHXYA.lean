import Derived.Test.YtokcpmbgipblpaaGreatCHXY9
/-
  My own texts (road H): HXYA.
-/
set_option linter.unusedSimpArgs false
set_option linter.unusedVariables false
namespace HT
open Go Go.Proofs HK
def rcG (p : Prog) (e : Eng) (g : Gor) : List Int := if (atI p g).op = 11 then (match p.sels[(atI p g).a.toNat]? with | some s => rdy e 0 s.cases | none => []) else []
def rcV (p : Prog) (e : Eng) (n : Int) : List Int := if asked p e n then (match e.gs[n.toNat]? with | some g => rcG p e g | none => []) else []
def choicesV (p : Prog) (e : Eng) (n : Int) : Int := if asked p e n then max 1 ((rcV p e n).length : Int) else 0
def blkG (p : Prog) (e : Eng) (n : Int) (g : Gor) : Bool :=
  if (atI p g).op = 8 then !caseR e ⟨true, (atI p g).a, 0, 0, 0⟩
  else if (atI p g).op = 9 then !caseR e ⟨false, (atI p g).a, 0, 0, 0⟩
  else if (atI p g).op = 12 then (match e.mus[(atI p g).a.toNat]? with | some u => decide (0 ≤ u.owner) && !decide (u.owner = n) | none => false)
  else if (atI p g).op = 11 then (match p.sels[(atI p g).a.toNat]? with | some s => decide (s.els < 0) && decide ((rdy e 0 s.cases).length = 0) | none => false)
  else false
def blkV (p : Prog) (e : Eng) (n : Int) : Bool := asked p e n && (match e.gs[n.toNat]? with | some g => blkG p e n g | none => false)
end HT
