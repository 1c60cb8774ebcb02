import Derived.Test.YtjalahhkhcmjaaaDoorG4
import Derived.Test.YtjalahhkhcmjaaaDoorG5
/-
  My own texts (road H): HLT5 HLTA.
-/
set_option linter.unusedSimpArgs false
set_option linter.unusedVariables false
namespace HT
open Go Go.Proofs HK
def trc (l : List Item) : List Item := match l.getLast? with
  | some x => if x.kind == 9 then l.dropLast else l
  | none => l
end HT
set_option linter.unusedSimpArgs false
set_option linter.unusedVariables false
namespace HT
open Go Go.Proofs HK
def valOk (n : Int) : Bool := decide (0 ≤ n) && decide (n ≤ 999)
def wOk (q : Bool) (w : Waiter) : Bool := decide (0 ≤ w.g) && decide (-1 ≤ w.cas) && valOk w.v && (q || decide (w.v = 0))
def chanHead (c : Chan) : Bool := decide (0 ≤ c.cap) && decide (c.cap ≤ 4) && decide ((c.buf.length : Int) ≤ c.cap)
def chanMid (c : Chan) : Bool := decide (0 < c.sends.length) && (decide ((c.buf.length : Int) < c.cap) || decide (0 < c.recvs.length) || c.closed)
def chanTail (c : Chan) : Bool := decide (c.recvs.length = 0) || (decide (c.buf.length = 0) && !c.closed)
def chanOk (c : Chan) : Bool := chanHead c && c.buf.all valOk && c.sends.all (wOk true) && c.recvs.all (wOk false) && !chanMid c && chanTail c
set_option maxHeartbeats 1000000 in
theorem val_s (a : Int) : Fn Tryd.prog 41 [.int .i64 a] (.bool (valOk a)) := by
  refine Fn.intro Tryd.func41 (by decide) rfl (rs := [.tmp 2]) rfl Tryd.ntmps41 (by simp) ?_; refine SW.rg fun K hK => ?_; simp -implicitDefEqProofs; repeat refine ⟨by omega, ?_⟩
  refine hK _ ?_; clear hK K; refine SW.rg fun K hK => ?_; simp -implicitDefEqProofs; repeat refine ⟨by omega, ?_⟩
  refine hK _ ?_; clear hK K; refine SW.ret ?_; simp [Ex.then, Ex.ib]
  all_goals simp [valOk]
set_option maxHeartbeats 1000000 in
theorem val_i (a : Int) : Fn Tryd.prog 45 [.int .i64 a] (.bool (valOk a)) := by
  refine Fn.intro Tryd.func45 (by decide) rfl (rs := [.tmp 2]) rfl Tryd.ntmps45 (by simp) ?_; refine SW.rg fun K hK => ?_; simp -implicitDefEqProofs; repeat refine ⟨by omega, ?_⟩
  refine hK _ ?_; clear hK K; refine SW.rg fun K hK => ?_; simp -implicitDefEqProofs; repeat refine ⟨by omega, ?_⟩
  refine hK _ ?_; clear hK K; refine SW.ret ?_; simp [Ex.then, Ex.ib]
  all_goals simp [valOk]
def idxV (l : List Int) : Int := if l.all valOk then -1 else ((l.takeWhile valOk).length : Int)
end HT
