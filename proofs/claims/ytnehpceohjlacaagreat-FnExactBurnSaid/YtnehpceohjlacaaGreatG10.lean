import Derived.Test.YtnehpceohjlacaaGreatG9
/-
  My own texts (road H): HZTI.
-/
set_option linter.unusedSimpArgs false
set_option linter.unusedVariables false
namespace HT
open Go Go.Proofs HK
structure Deed where
  g : Int
  op : Int
  obj : Int
  cas : Int
deriving DecidableEq
@[simp] def Deed.cl (d : Deed) : List AV := [.int .i64 d.g, .int .i64 d.op, .int .i64 d.obj, .int .i64 d.cas]
def DeedS (l : List Deed) : List (List AV) := l.map Deed.cl
@[simp] theorem DeedS_length (l : List Deed) : (DeedS l).length = l.length := by simp [DeedS]
@[simp] theorem DeedS_get (l : List Deed) (k : Nat) : (DeedS l)[k]? = (l[k]?).map Deed.cl := by simp [DeedS]
@[simp] theorem DeedS_getE (l : List Deed) (k : Nat) (h : k < (DeedS l).length) : (DeedS l)[k] = Deed.cl (l[k]'(by simpa using h)) := by simp [DeedS]
@[simp] theorem DeedS_take (l : List Deed) : List.take l.length (DeedS l) = DeedS l := by
  have := List.take_length (l := DeedS l)
  rwa [DeedS_length] at this
@[simp] theorem DeedS_nil : DeedS [] = [] := rfl
theorem DeedS_app (a b : List Deed) : DeedS (a ++ b) = DeedS a ++ DeedS b := by simp [DeedS]
theorem DeedS_takeN (l : List Deed) (k : Nat) : (DeedS l).take k = DeedS (l.take k) := by simp [DeedS, List.map_take]
theorem DeedS_dropN (l : List Deed) (k : Nat) : (DeedS l).drop k = DeedS (l.drop k) := by simp [DeedS, List.map_drop]
theorem DeedS_len {l : List Deed} {e : List AV} (h : e ∈ DeedS l) : e.length = 4 := by
  obtain ⟨d, _, rfl⟩ := List.mem_map.1 h
  rfl
theorem DeedS_lenG (l : List Deed) (k : Nat) (h : k < l.length) : ((Option.map Deed.cl l[k]?).getD []).length = 4 := by simp [h]
@[simp] theorem DeedS_ren (l : List Deed) (ids : List Nat) (d : Nat) : (DeedS l).map (List.map (renN ids (d + 1))) = DeedS l := by
  simp [DeedS, Function.comp_def]
@[simp] theorem DeedS_low (n : Nat) (l : List Deed) : lowEs n (DeedS l) = true := by
  simp [lowEs, DeedS]
@[simp] theorem DeedS_lowT (n : Nat) (l : List Deed) (k : Nat) : lowEs n ((DeedS l).take k) = true := lowEs_take (DeedS_low n l) k
@[simp] theorem DeedS_str (d : Nat) (l : List Deed) : ((DeedS l).all fun e => e.all (strN (d + 1))) = true := by
  simp [DeedS, -strN, strS_int, strS_bool]
theorem DeedS_okI (l : List Deed) : okI (.own 4 (DeedS l)) = true := by
  simp [okI]
@[simp] theorem DeedS_view (l : List Deed) (h : Heap) (d : Nat) : (DeedS l).map (List.map (viewN h (d + 1))) = DeedS l := by
  simp [DeedS, DeedS, Function.comp_def]
def isShared (n : Int) : Bool := decide (8 ≤ n) && decide (n ≤ 15)
def objOk (p : Prog) (d : Deed) : Bool :=
  if d.op = 8 ∨ d.op = 9 ∨ d.op = 10 then inR d.obj (-1) p.caps.length
  else if d.op = 11 then inR d.obj 0 p.sels.length
  else if d.op = 12 ∨ d.op = 13 then inR d.obj 0 p.mus
  else if d.op = 14 then inR d.obj 0 p.procs.length
  else decide (d.obj = 0)
def caseS (s : Select) (c : Int) : Bool := if c = -3 then decide (s.els < 0) else if c = -1 then decide (0 ≤ s.els) else decide (0 ≤ c) && decide (c < s.cases.length)
def caseD (p : Prog) (d : Deed) : Bool :=
  if d.op = 11 then (match p.sels[d.obj.toNat]? with | some s => caseS s d.cas | none => false) else decide (d.cas = -2)
def evIn (p : Prog) (d : Deed) : Bool := decide (0 ≤ d.g) && decide (d.g < 10) && isShared d.op && objOk p d && caseD p d
def evOk (p : Prog) (d : Deed) : Bool := progOk p && evIn p d
theorem progOk_mus {p : Prog} (h : progOk p = true) : 0 ≤ p.mus ∧ p.mus ≤ 4 := by
  simp [progOk, headOk] at h; omega
theorem progOk_els {p : Prog} (h : progOk p = true) {N : Nat} {s : Select} (hs : p.sels[N]? = some s) : -1 ≤ s.els := by
  simp only [progOk, Bool.and_eq_true, List.all_eq_true] at h
  have := h.1.2 s (List.mem_of_getElem? hs)
  simp only [selPOk, Bool.and_eq_true] at this
  exact selOk_els this.2
set_option maxHeartbeats 1000000 in
theorem shared_s (a : Int) : Fn Tryz.prog 80 [.int .i64 a] (.bool (isShared a)) := by
  refine Fn.intro Tryz.func80 (by decide) rfl (rs := [.tmp 2]) rfl Tryz.ntmps80 (by simp) ?_
  refine SW.regionK fun K hK => ?_
  simp -implicitDefEqProofs
  repeat refine ⟨by omega, ?_⟩
  refine hK _ ?_
  clear hK K
  refine SW.regionK fun K hK => ?_
  simp -implicitDefEqProofs
  repeat refine ⟨by omega, ?_⟩
  refine hK _ ?_
  clear hK K
  refine SW.ret ?_
  simp [Ex.then, Ex.inBlock]
  all_goals simp [isShared]
set_option maxHeartbeats 1000000 in
theorem shared_i (a : Int) : Fn Tryz.prog 57 [.int .i64 a] (.bool (isShared a)) := by
  refine Fn.intro Tryz.func57 (by decide) rfl (rs := [.tmp 2]) rfl Tryz.ntmps57 (by simp) ?_
  refine SW.regionK fun K hK => ?_
  simp -implicitDefEqProofs
  repeat refine ⟨by omega, ?_⟩
  refine hK _ ?_
  clear hK K
  refine SW.regionK fun K hK => ?_
  simp -implicitDefEqProofs
  repeat refine ⟨by omega, ?_⟩
  refine hK _ ?_
  clear hK K
  refine SW.ret ?_
  simp [Ex.then, Ex.inBlock]
  all_goals simp [isShared]
end HT
