import Derived.Test.YtjalahhkhcmjaaaGreatG6
import Derived.Test.YtjalahhkhcmjaaaGreatG2b
/-
  My own texts (road H): HMTP HMTQ HMTV.
-/
set_option linter.unusedSimpArgs false
set_option linter.unusedVariables false
namespace HT
open Go Go.Proofs HK
def mkL {α : Type} (f : Int → α) (F s : Int) (k : Nat) : List α := (List.range k).map fun (i : Nat) => f (s + F * (i : Int))
section
variable {α : Type} {f : Int → α} {F s : Int} {l : List α} {k n : Nat} {x : α}
@[simp] theorem mkL_length : (mkL f F s k).length = k := by simp [mkL]
@[simp] theorem mkL_zero : mkL f F s 0 = [] := rfl
end
def mkInt1 (s : Int) : Int := s
abbrev mkInt (s : Int) (k : Nat) : List Int := mkL mkInt1 1 s k
@[simp] theorem IntS_renB (ids : List Nat) (l : List Int) : renB ids (some ⟨1, IntS l⟩) = some ⟨1, IntS l⟩ := by
  simp [renB]
@[simp] theorem mkInt_take (s : Int) (k : Nat) : List.take k (IntS (mkInt s k)) = IntS (mkInt s k) := List.take_of_length_le (by simp)
def mkItem1 (s : Int) : Item := ⟨s, s + 1, s + 1 + 1, (s + 1 + 1 + 1).tmod 3 == 0⟩
abbrev mkItem (s : Int) (k : Nat) : List Item := mkL mkItem1 4 s k
@[simp] theorem ItemS_renB (ids : List Nat) (l : List Item) : renB ids (some ⟨4, ItemS l⟩) = some ⟨4, ItemS l⟩ := by
  simp [renB]
@[simp] theorem mkItem_take (s : Int) (k : Nat) : List.take k (ItemS (mkItem s k)) = ItemS (mkItem s k) := List.take_of_length_le (by simp)
def mkCase1 (s : Int) : Case := ⟨(s).tmod 3 == 0, s + 1, s + 1 + 1, s + 1 + 1 + 1, s + 1 + 1 + 1 + 1⟩
abbrev mkCase (s : Int) (k : Nat) : List Case := mkL mkCase1 5 s k
@[simp] theorem CaseS_renB (ids : List Nat) (l : List Case) : renB ids (some ⟨5, CaseS l⟩) = some ⟨5, CaseS l⟩ := by
  simp [renB]
@[simp] theorem mkCase_take (s : Int) (k : Nat) : List.take k (CaseS (mkCase s k)) = CaseS (mkCase s k) := List.take_of_length_le (by simp)
def mkInstr1 (s : Int) : Instr := ⟨s, s + 1, s + 1 + 1, s + 1 + 1 + 1⟩
abbrev mkInstr (s : Int) (k : Nat) : List Instr := mkL mkInstr1 4 s k
@[simp] theorem InstrS_renB (ids : List Nat) (l : List Instr) : renB ids (some ⟨4, InstrS l⟩) = some ⟨4, InstrS l⟩ := by
  simp [renB]
@[simp] theorem mkInstr_take (s : Int) (k : Nat) : List.take k (InstrS (mkInstr s k)) = InstrS (mkInstr s k) := List.take_of_length_le (by simp)
end HT
set_option linter.unusedSimpArgs false
set_option linter.unusedVariables false
namespace HT
open Go Go.Proofs HK
def Select.wt (d : Select) : Nat := 5 * d.cases.length + 1
def Select.ln (d : Select) : List Nat := [d.cases.length]
@[simp] theorem SelectSo_renB (ids : List Nat) (l : List Select) : renB ids (some ⟨2, SelectSo l⟩) = some ⟨2, SelectSo l⟩ := by
  simp [renB]
def Proc.wt (d : Proc) : Nat := 4 * d.code.length
def Proc.ln (d : Proc) : List Nat := [d.code.length]
@[simp] theorem ProcSo_renB (ids : List Nat) (l : List Proc) : renB ids (some ⟨1, ProcSo l⟩) = some ⟨1, ProcSo l⟩ := by
  simp [renB]
end HT
set_option linter.unusedSimpArgs false
set_option linter.unusedVariables false
namespace HT
open Go Go.Proofs HK
set_option linter.unusedVariables false
structure Place where
  mutex : Bool
  obj : Int
  send : Bool
  g : Int
  cas : Int
  v : Int
deriving DecidableEq
@[simp] def Place.cl (d : Place) : List AV := [.bool d.mutex, .int .i64 d.obj, .bool d.send, .int .i64 d.g, .int .i64 d.cas, .int .i64 d.v]
def PlaceS (l : List Place) : List (List AV) := l.map Place.cl
@[simp] theorem PlaceS_length (l : List Place) : (PlaceS l).length = l.length := by simp [PlaceS]
@[simp] theorem PlaceS_get (l : List Place) (k : Nat) : (PlaceS l)[k]? = (l[k]?).map Place.cl := by simp [PlaceS]
@[simp] theorem PlaceS_getE (l : List Place) (k : Nat) (h : k < (PlaceS l).length) : (PlaceS l)[k] = Place.cl (l[k]'(by simpa using h)) := by simp [PlaceS]
@[simp] theorem PlaceS_take (l : List Place) : List.take l.length (PlaceS l) = PlaceS l := by
  have := List.take_length (l := PlaceS l)
  rwa [PlaceS_length] at this
@[simp] theorem PlaceS_nil : PlaceS [] = [] := rfl
theorem PlaceS_app (a b : List Place) : PlaceS (a ++ b) = PlaceS a ++ PlaceS b := by simp [PlaceS]
theorem PlaceS_len {l : List Place} {e : List AV} (h : e ∈ PlaceS l) : e.length = 6 := by
  obtain ⟨d, _, rfl⟩ := List.mem_map.1 h; rfl
@[simp] theorem PlaceS_ren (l : List Place) (ids : List Nat) (d : Nat) : (PlaceS l).map (List.map (renN ids (d + 1))) = PlaceS l := by
  simp [PlaceS, Function.comp_def]
@[simp] theorem PlaceS_low (n : Nat) (l : List Place) : lowEs n (PlaceS l) = true := by
  simp [lowEs, PlaceS]
@[simp] theorem PlaceS_lowT (n : Nat) (l : List Place) (k : Nat) : lowEs n ((PlaceS l).take k) = true := lowEs_take (PlaceS_low n l) k
@[simp] theorem PlaceS_str (d : Nat) (l : List Place) : ((PlaceS l).all fun e => e.all (strN (d + 1))) = true := by
  simp [PlaceS, -strN, strS_int, strS_bool]
theorem PlaceS_okI (l : List Place) : okI (.own 6 (PlaceS l)) = true := by
  simp [okI]
@[simp] theorem PlaceS_view (l : List Place) (h : Heap) (d : Nat) : (PlaceS l).map (List.map (viewN h (d + 1))) = PlaceS l := by
  simp [PlaceS, PlaceS, Function.comp_def]
def mkPlace1 (s : Int) : Place := ⟨(s).tmod 3 == 0, s + 1, (s + 1 + 1).tmod 3 == 0, s + 1 + 1 + 1, s + 1 + 1 + 1 + 1, s + 1 + 1 + 1 + 1 + 1⟩
abbrev mkPlace (s : Int) (k : Nat) : List Place := mkL mkPlace1 6 s k
@[simp] theorem PlaceS_renB (ids : List Nat) (l : List Place) : renB ids (some ⟨6, PlaceS l⟩) = some ⟨6, PlaceS l⟩ := by
  simp [renB]
@[simp] theorem mkPlace_take (s : Int) (k : Nat) : List.take k (PlaceS (mkPlace s k)) = PlaceS (mkPlace s k) := List.take_of_length_le (by simp)
theorem wt_le {α : Type} {f g : α → Nat} (h : ∀ x, f x ≤ 8 + 8 * g x) : ∀ (l : List α), (l.map f).sum ≤ 8 * szL g l
  | [] => by simp
  | x :: l => by
    have h1 := wt_le h l
    have h2 := h x
    simp only [List.map_cons, List.sum_cons, szL, List.length_cons] at *; omega
def Prog.tw (d : Prog) : Nat := d.caps.length + (d.sels.map Select.wt).sum + (d.procs.map Proc.wt).sum
def Gor.tw (d : Gor) : Nat := d.regs.length + 4 * d.trace.length
theorem Prog.tw_le (d : Prog) : d.tw ≤ 8 * d.sz := by
  have h1 := wt_le (f := Select.wt) (g := Select.sz) (fun x => by simp only [Select.wt, Select.sz]; omega) d.sels
  have h2 := wt_le (f := Proc.wt) (g := Proc.sz) (fun x => by simp only [Proc.wt, Proc.sz]; omega) d.procs
  simp only [Prog.tw, Prog.sz]; omega
theorem Gor.tw_le (d : Gor) : d.tw ≤ 8 * d.sz := by
  simp only [Gor.tw, Gor.sz]; omega
end HT
