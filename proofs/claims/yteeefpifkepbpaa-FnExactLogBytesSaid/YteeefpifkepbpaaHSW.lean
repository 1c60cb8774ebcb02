import Derived.Test.YteeefpifkepbpaaHSV
import Derived.Test.YteeefpifkepbpaaHK51
/-
  My own texts (road H): HSW.
-/
set_option linter.unusedSimpArgs false
namespace HS
open Go Go.Proofs HK
def wordL : List Int := [82, 69, 80, 76, 65, 89, 49]
def hdOk (c : List Int) : Bool := (getV c 7).isSome && decide (wordL ++ varB (nv (getV c 7)) = c)
def rdL (c : List Int) : List Deed := (readL c 4 0 0).getD []
def rdOk (c : List Int) : Bool := decide (0 < (rdL c).length)
def logL (st : Nat) : List Deed → List (List Int) → List Deed × Nat
  | cur, [] => (cur, st)
  | cur, c :: r => if (rdOk c && fitL (cur ++ rdL c) && decide (cur.length % 4 = 0)) = true then logL st (cur ++ rdL c) r else (cur, 2)
theorem putVar_s7 (n : Int) (h : numOk n = true) : Fn Try.prog 54 [.fz (YS wordL), .int .i64 n] (.tup [.own 1 (YS (wordL ++ varB n.toNat)), .bool true]) := by rw [← putVar_yes h]; exact putVar_spec wordL n (by decide)
set_option maxHeartbeats 1000000 in
theorem head_s (n : Int) (h : numOk n = true) : Fn Try.prog 84 [.int .i64 n] (.own 1 (YS (wordL ++ varB n.toNat))) := by
  refine Fn.intro Try.func84 (by decide) rfl (rs := [.tmp 2]) rfl Try.ntmps84 (by simp) ?_; refine SW.rg fun K hK => ?_; simp -implicitDefEqProofs; repeat refine ⟨by omega, ?_⟩
  refine hK _ ?_; clear hK K; refine SW.regionCK fun K hK => ?_; simp -implicitDefEqProofs [rc_conv, bytB]; refine CallK.imE (putVar_s7 n h) (by simp [YS, wordL]) (by simp) ?_; simp -implicitDefEqProofs; refine hK _ ?_; clear hK K
  refine SW.rg fun K hK => ?_; simp -implicitDefEqProofs; repeat refine ⟨by omega, ?_⟩
  refine hK _ ?_; clear hK K; refine SW.ret ?_; simp [Ex.then, Ex.ib]
  all_goals first
    | exact fun x hx y hy => by obtain ⟨n, rfl⟩ := YS_int hx hy; rfl
    | fail
end HS
