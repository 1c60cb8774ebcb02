import Derived.Test.YtdhoappjadnhcaaGreatG9
/-
  My own texts (road H): HCTI.
-/
set_option maxHeartbeats 8000000
set_option linter.unusedSimpArgs false
set_option linter.unusedVariables false
namespace HT
open Go Go.Proofs HK
structure Deed where
  g : Int
  op : Int
  obj : Int
  cas : Int
deriving DecidableEq
@[simp] def Deed.cl (d : Deed) : List AV := [.int .i64 d.g, .int .i64 d.op, .int .i64 d.obj, .int .i64 d.cas]
def DeedS (l : List Deed) : List (List AV) := l.map Deed.cl
@[simp] theorem DeedS_length (l : List Deed) : (DeedS l).length = l.length := by simp [DeedS]
@[simp] theorem DeedS_get (l : List Deed) (k : Nat) : (DeedS l)[k]? = (l[k]?).map Deed.cl := by simp [DeedS]
@[simp] theorem DeedS_getE (l : List Deed) (k : Nat) (h : k < (DeedS l).length) : (DeedS l)[k] = Deed.cl (l[k]'(by simpa using h)) := by simp [DeedS]
@[simp] theorem DeedS_take (l : List Deed) : List.take l.length (DeedS l) = DeedS l := by
  have := List.take_length (l := DeedS l)
  rwa [DeedS_length] at this
@[simp] theorem DeedS_nil : DeedS [] = [] := rfl
@[simp] theorem DeedS_ren (l : List Deed) (ids : List Nat) (d : Nat) : (DeedS l).map (List.map (renN ids (d + 1))) = DeedS l := by
  simp [DeedS, Function.comp_def]
@[simp] theorem DeedS_low (n : Nat) (l : List Deed) : lowEs n (DeedS l) = true := by
  simp [lowEs, DeedS]
@[simp] theorem DeedS_lowT (n : Nat) (l : List Deed) (k : Nat) : lowEs n ((DeedS l).take k) = true := lowEs_take (DeedS_low n l) k
@[simp] theorem DeedS_str (d : Nat) (l : List Deed) : ((DeedS l).all fun e => e.all (strN (d + 1))) = true := by
  simp [DeedS, -strN, strS_int, strS_bool]
@[simp] theorem DeedS_view (l : List Deed) (h : Heap) (d : Nat) : (DeedS l).map (List.map (viewN h (d + 1))) = DeedS l := by
  simp [DeedS, DeedS, Function.comp_def]
def isShared (n : Int) : Bool := decide (8 ≤ n) && decide (n ≤ 15)
def objOk (p : Prog) (d : Deed) : Bool :=
  if d.op = 8 ∨ d.op = 9 ∨ d.op = 10 then inR d.obj (-1) p.caps.length
  else if d.op = 11 then inR d.obj 0 p.sels.length
  else if d.op = 12 ∨ d.op = 13 then inR d.obj 0 p.mus
  else if d.op = 14 then inR d.obj 0 p.procs.length
  else decide (d.obj = 0)
def caseS (s : Select) (c : Int) : Bool := if c = -3 then decide (s.els < 0) else if c = -1 then decide (0 ≤ s.els) else decide (0 ≤ c) && decide (c < s.cases.length)
def caseD (p : Prog) (d : Deed) : Bool :=
  if d.op = 11 then (match p.sels[d.obj.toNat]? with | some s => caseS s d.cas | none => false) else decide (d.cas = -2)
def evIn (p : Prog) (d : Deed) : Bool := decide (0 ≤ d.g) && decide (d.g < 10) && isShared d.op && objOk p d && caseD p d
def evOk (p : Prog) (d : Deed) : Bool := progOk p && evIn p d
theorem progOk_els {p : Prog} (h : progOk p = true) {N : Nat} {s : Select} (hs : p.sels[N]? = some s) : -1 ≤ s.els := by
  simp only [progOk, Bool.and_eq_true, List.all_eq_true] at h; have := h.1.2 s (List.mem_of_getElem? hs)
  simp only [selPOk, Bool.and_eq_true] at this; exact selOk_els this.2
end HT
