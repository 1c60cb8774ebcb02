import Derived.Test.YtdhoappjadnhcaaGreatHCTB
import Derived.Test.YtdhoappjadnhcaaGreatG4
/-
  My own texts (road H): HCTD.
-/
set_option maxHeartbeats 8000000
set_option linter.unusedSimpArgs false
set_option linter.unusedVariables false
namespace HT
open Go Go.Proofs HK
def canSend (c : Chan) : Bool := chanOk c && (c.closed || decide (0 < c.recvs.length) || decide ((c.buf.length : Int) < c.cap))
def canRecv (c : Chan) : Bool := chanOk c && (decide (0 < c.buf.length) || decide (0 < c.sends.length) || c.closed)
def caseR (e : Eng) (x : Case) : Bool := if 0 ≤ x.chan then match e.chans[x.chan.toNat]? with
    | some c => if x.send then canSend c else canRecv c
    | none => false
  else false
end HT
