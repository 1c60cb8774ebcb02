import Derived.Test.YtfdaepchofckkaaG6
import Derived.Test.YtfdaepchofckkaaG2b
/-
  My own texts (road H): HZTP HZTQ HZTV.
-/
set_option linter.unusedSimpArgs false
set_option linter.unusedVariables false
namespace HT
open Go Go.Proofs HK
/-- Marks from s on, so many a part. -/
def mkL {α : Type} (f : Int → α) (F s : Int) (k : Nat) : List α := (List.range k).map fun (i : Nat) => f (s + F * (i : Int))
section
variable {α : Type} {f : Int → α} {F s : Int} {l : List α} {k n : Nat} {x : α}
@[simp] theorem mkL_length : (mkL f F s k).length = k := by simp [mkL]
@[simp] theorem mkL_zero : mkL f F s 0 = [] := rfl
theorem mkL_get (h : k < n) : (mkL f F s n)[k]? = some (f (s + F * (k : Int))) := by simp [mkL, h]
theorem mkL_mid (h : l[k]? = some x) : (mkL f F s k ++ l.drop k)[k]? = some x := by
  rw [List.getElem?_append_right (by simp)]
  simp [h]
theorem mkL_set (h : k < l.length) : (mkL f F s k ++ l.drop k).set k (f (s + F * (k : Int))) = mkL f F s (k + 1) ++ l.drop (k + 1) := by
  rw [List.set_append_right _ _ (by simp), List.drop_eq_getElem_cons h]
  have e4 : k - (mkL f F s k).length = 0 := by simp
  rw [e4, List.set_cons_zero]
  simp [mkL, List.range_succ]
end
theorem nfz_int (d : Nat) (k : IntKind) (n : Int) : nfz (d + 1) (.int k n) = true := rfl
theorem nfz_bool (d : Nat) (b : Bool) : nfz (d + 1) (.bool b) = true := rfl
theorem nfz_own (d sz : Nat) (es : List (List AV)) : nfz (d + 1) (.own sz es) = es.all fun e => e.all (strN 3) := rfl
theorem frame1 (H : Heap) (id : Nat) (b : Option Blk) : frameH H [id] [b] = H.set id (renB (fids [id] H.length 0) b) := by simp [frameH, merge]
def mkInt1 (s : Int) : Int := s
abbrev mkInt (s : Int) (k : Nat) : List Int := mkL mkInt1 1 s k
theorem IntS_setL (l : List Int) (k : Nat) (x : Int) : (IntS l).set k ((fun b => [AV.int .i64 b]) x) = IntS (l.set k x) := by
  simp [IntS, List.map_set]
theorem IntS_nfz (n : Nat) (l : List Int) : nfzB n (some ⟨1, IntS l⟩) = true := by
  simp [nfzB, IntS, nfz_int, nfz_bool]
@[simp] theorem IntS_renB (ids : List Nat) (l : List Int) : renB ids (some ⟨1, IntS l⟩) = some ⟨1, IntS l⟩ := by
  simp [renB]
@[simp] theorem mkInt_take (s : Int) (k : Nat) : List.take k (IntS (mkInt s k)) = IntS (mkInt s k) := List.take_of_length_le (by simp)
def mkItem1 (s : Int) : Item := ⟨s, s + 1, s + 1 + 1, (s + 1 + 1 + 1).tmod 3 == 0⟩
abbrev mkItem (s : Int) (k : Nat) : List Item := mkL mkItem1 4 s k
theorem ItemS_setL (l : List Item) (k : Nat) (x : Item) : (ItemS l).set k (Item.cl x) = ItemS (l.set k x) := by
  simp [ItemS, List.map_set]
theorem ItemS_nfz (n : Nat) (l : List Item) : nfzB n (some ⟨4, ItemS l⟩) = true := by
  simp [nfzB, ItemS, nfz_int, nfz_bool]
@[simp] theorem ItemS_renB (ids : List Nat) (l : List Item) : renB ids (some ⟨4, ItemS l⟩) = some ⟨4, ItemS l⟩ := by
  simp [renB]
@[simp] theorem mkItem_take (s : Int) (k : Nat) : List.take k (ItemS (mkItem s k)) = ItemS (mkItem s k) := List.take_of_length_le (by simp)
def mkCase1 (s : Int) : Case := ⟨(s).tmod 3 == 0, s + 1, s + 1 + 1, s + 1 + 1 + 1, s + 1 + 1 + 1 + 1⟩
abbrev mkCase (s : Int) (k : Nat) : List Case := mkL mkCase1 5 s k
theorem CaseS_setL (l : List Case) (k : Nat) (x : Case) : (CaseS l).set k (Case.cl x) = CaseS (l.set k x) := by
  simp [CaseS, List.map_set]
theorem CaseS_nfz (n : Nat) (l : List Case) : nfzB n (some ⟨5, CaseS l⟩) = true := by
  simp [nfzB, CaseS, nfz_int, nfz_bool]
@[simp] theorem CaseS_renB (ids : List Nat) (l : List Case) : renB ids (some ⟨5, CaseS l⟩) = some ⟨5, CaseS l⟩ := by
  simp [renB]
@[simp] theorem mkCase_take (s : Int) (k : Nat) : List.take k (CaseS (mkCase s k)) = CaseS (mkCase s k) := List.take_of_length_le (by simp)
def mkInstr1 (s : Int) : Instr := ⟨s, s + 1, s + 1 + 1, s + 1 + 1 + 1⟩
abbrev mkInstr (s : Int) (k : Nat) : List Instr := mkL mkInstr1 4 s k
theorem InstrS_setL (l : List Instr) (k : Nat) (x : Instr) : (InstrS l).set k (Instr.cl x) = InstrS (l.set k x) := by
  simp [InstrS, List.map_set]
theorem InstrS_nfz (n : Nat) (l : List Instr) : nfzB n (some ⟨4, InstrS l⟩) = true := by
  simp [nfzB, InstrS, nfz_int, nfz_bool]
@[simp] theorem InstrS_renB (ids : List Nat) (l : List Instr) : renB ids (some ⟨4, InstrS l⟩) = some ⟨4, InstrS l⟩ := by
  simp [renB]
@[simp] theorem mkInstr_take (s : Int) (k : Nat) : List.take k (InstrS (mkInstr s k)) = InstrS (mkInstr s k) := List.take_of_length_le (by simp)
end HT

set_option linter.unusedSimpArgs false
set_option linter.unusedVariables false
namespace HT
open Go Go.Proofs HK
theorem map_set_same {α β : Type} {f : α → β} {l : List α} {k : Nat} {x y : α} (h : l[k]? = some x) (e : f y = f x) : (l.set k y).map f = l.map f := by
  rw [List.map_set, e]
  refine List.ext_getElem? fun i => ?_
  rw [List.getElem?_set]
  split
  · rename_i hi
    subst hi
    split
    · rw [List.getElem?_map, h]; rfl
    · rename_i hlt
      rw [List.getElem?_eq_none (by omega)]
  · rfl
def Select.wt (d : Select) : Nat := 5 * d.cases.length + 1
def Select.ln (d : Select) : List Nat := [d.cases.length]
theorem SelectSo_nfz (n : Nat) (l : List Select) : nfzB n (some ⟨2, SelectSo l⟩) = true := by
  simp [nfzB, SelectSo, nfz_int, nfz_bool, nfz_own, -strN]
@[simp] theorem SelectSo_renB (ids : List Nat) (l : List Select) : renB ids (some ⟨2, SelectSo l⟩) = some ⟨2, SelectSo l⟩ := by
  simp [renB]
def Proc.wt (d : Proc) : Nat := 4 * d.code.length
def Proc.ln (d : Proc) : List Nat := [d.code.length]
theorem ProcSo_nfz (n : Nat) (l : List Proc) : nfzB n (some ⟨1, ProcSo l⟩) = true := by
  simp [nfzB, ProcSo, nfz_int, nfz_bool, nfz_own, -strN]
@[simp] theorem ProcSo_renB (ids : List Nat) (l : List Proc) : renB ids (some ⟨1, ProcSo l⟩) = some ⟨1, ProcSo l⟩ := by
  simp [renB]
end HT

set_option linter.unusedSimpArgs false
set_option linter.unusedVariables false
namespace HT
open Go Go.Proofs HK
set_option linter.unusedVariables false
structure Place where
  mutex : Bool
  obj : Int
  send : Bool
  g : Int
  cas : Int
  v : Int
deriving DecidableEq
@[simp] def Place.cl (d : Place) : List AV := [.bool d.mutex, .int .i64 d.obj, .bool d.send, .int .i64 d.g, .int .i64 d.cas, .int .i64 d.v]
def PlaceS (l : List Place) : List (List AV) := l.map Place.cl
@[simp] theorem PlaceS_length (l : List Place) : (PlaceS l).length = l.length := by simp [PlaceS]
@[simp] theorem PlaceS_get (l : List Place) (k : Nat) : (PlaceS l)[k]? = (l[k]?).map Place.cl := by simp [PlaceS]
@[simp] theorem PlaceS_getE (l : List Place) (k : Nat) (h : k < (PlaceS l).length) : (PlaceS l)[k] = Place.cl (l[k]'(by simpa using h)) := by simp [PlaceS]
@[simp] theorem PlaceS_take (l : List Place) : List.take l.length (PlaceS l) = PlaceS l := by
  have := List.take_length (l := PlaceS l)
  rwa [PlaceS_length] at this
@[simp] theorem PlaceS_nil : PlaceS [] = [] := rfl
theorem PlaceS_app (a b : List Place) : PlaceS (a ++ b) = PlaceS a ++ PlaceS b := by simp [PlaceS]
theorem PlaceS_takeN (l : List Place) (k : Nat) : (PlaceS l).take k = PlaceS (l.take k) := by simp [PlaceS, List.map_take]
theorem PlaceS_dropN (l : List Place) (k : Nat) : (PlaceS l).drop k = PlaceS (l.drop k) := by simp [PlaceS, List.map_drop]
theorem PlaceS_len {l : List Place} {e : List AV} (h : e ∈ PlaceS l) : e.length = 6 := by
  obtain ⟨d, _, rfl⟩ := List.mem_map.1 h
  rfl
theorem PlaceS_lenG (l : List Place) (k : Nat) (h : k < l.length) : ((Option.map Place.cl l[k]?).getD []).length = 6 := by simp [h]
@[simp] theorem PlaceS_ren (l : List Place) (ids : List Nat) (d : Nat) : (PlaceS l).map (List.map (renN ids (d + 1))) = PlaceS l := by
  simp [PlaceS, Function.comp_def]
@[simp] theorem PlaceS_low (n : Nat) (l : List Place) : lowEs n (PlaceS l) = true := by
  simp [lowEs, PlaceS]
@[simp] theorem PlaceS_lowT (n : Nat) (l : List Place) (k : Nat) : lowEs n ((PlaceS l).take k) = true := lowEs_take (PlaceS_low n l) k
@[simp] theorem PlaceS_str (d : Nat) (l : List Place) : ((PlaceS l).all fun e => e.all (strN (d + 1))) = true := by
  simp [PlaceS, -strN, strS_int, strS_bool]
theorem PlaceS_okI (l : List Place) : okI (.own 6 (PlaceS l)) = true := by
  simp [okI]
@[simp] theorem PlaceS_view (l : List Place) (h : Heap) (d : Nat) : (PlaceS l).map (List.map (viewN h (d + 1))) = PlaceS l := by
  simp [PlaceS, PlaceS, Function.comp_def]
def mkPlace1 (s : Int) : Place := ⟨(s).tmod 3 == 0, s + 1, (s + 1 + 1).tmod 3 == 0, s + 1 + 1 + 1, s + 1 + 1 + 1 + 1, s + 1 + 1 + 1 + 1 + 1⟩
abbrev mkPlace (s : Int) (k : Nat) : List Place := mkL mkPlace1 6 s k
theorem PlaceS_setL (l : List Place) (k : Nat) (x : Place) : (PlaceS l).set k (Place.cl x) = PlaceS (l.set k x) := by
  simp [PlaceS, List.map_set]
theorem PlaceS_nfz (n : Nat) (l : List Place) : nfzB n (some ⟨6, PlaceS l⟩) = true := by
  simp [nfzB, PlaceS, nfz_int, nfz_bool]
@[simp] theorem PlaceS_renB (ids : List Nat) (l : List Place) : renB ids (some ⟨6, PlaceS l⟩) = some ⟨6, PlaceS l⟩ := by
  simp [renB]
@[simp] theorem mkPlace_take (s : Int) (k : Nat) : List.take k (PlaceS (mkPlace s k)) = PlaceS (mkPlace s k) := List.take_of_length_le (by simp)
theorem wt_le {α : Type} {f g : α → Nat} (h : ∀ x, f x ≤ 8 + 8 * g x) : ∀ (l : List α), (l.map f).sum ≤ 8 * szL g l
  | [] => by simp
  | x :: l => by
    have h1 := wt_le h l
    have h2 := h x
    simp only [List.map_cons, List.sum_cons, szL, List.length_cons] at *
    omega
def Prog.tw (d : Prog) : Nat := d.caps.length + (d.sels.map Select.wt).sum + (d.procs.map Proc.wt).sum
def Gor.tw (d : Gor) : Nat := d.regs.length + 4 * d.trace.length
theorem Prog.tw_le (d : Prog) : d.tw ≤ 8 * d.sz := by
  have h1 := wt_le (f := Select.wt) (g := Select.sz) (fun x => by simp only [Select.wt, Select.sz]; omega) d.sels
  have h2 := wt_le (f := Proc.wt) (g := Proc.sz) (fun x => by simp only [Proc.wt, Proc.sz]; omega) d.procs
  simp only [Prog.tw, Prog.sz]
  omega
theorem Gor.tw_le (d : Gor) : d.tw ≤ 8 * d.sz := by
  simp only [Gor.tw, Gor.sz]
  omega
end HT
