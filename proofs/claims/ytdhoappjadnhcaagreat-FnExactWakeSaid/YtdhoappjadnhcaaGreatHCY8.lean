import Derived.Test.YtdhoappjadnhcaaGreatHCY5
import Derived.Test.YtdhoappjadnhcaaGreatHCTD
/-
  My own texts (road H): HCY8.
-/
set_option maxHeartbeats 8000000
set_option linter.unusedSimpArgs false
set_option linter.unusedVariables false
namespace HT
open Go Go.Proofs HK
theorem engOk_prog {p : Prog} {e : Eng} (h : engOk p e = true) : progOk p = true := by
  simp only [engOk, Bool.and_eq_true] at h; exact h.1.1.1.1.1
theorem engOk_gor {p : Prog} {e : Eng} (h : engOk p e = true) {g : Gor} (hg : g ∈ e.gs) : gorOk p g = true := by
  have hp := engOk_prog h
  simp only [engOk, Bool.and_eq_true, List.all_eq_true] at h; have := h.1.2 g hg
  simp only [gFit, Bool.and_eq_true] at this; simp [gorOk, hp, this.1]
def stFrom (s : Int) : Nat → List Gor → List Int
  | _, [] => []
  | k, g :: r => (if g.state = s then [(k : Int)] else []) ++ stFrom s (k + 1) r
def status (p : Prog) (e : Eng) : Int := if engOk p e then (if 0 < (stFrom 1 0 e.gs).length then 1 else if 0 < (stFrom 2 0 e.gs).length then 3 else 2) else 0
def asked (p : Prog) (e : Eng) (n : Int) : Bool := engOk p e && decide (0 ≤ n) && decide (n < (e.gs.length : Int)) && (match e.gs[n.toNat]? with | some g => decide (g.state = 1) | none => false)
def rdy (e : Eng) : Nat → List Case → List Int
  | _, [] => []
  | k, x :: r => (if caseR e x then [(k : Int)] else []) ++ rdy e (k + 1) r
end HT
