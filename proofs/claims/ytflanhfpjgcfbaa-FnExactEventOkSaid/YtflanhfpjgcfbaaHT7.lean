/-
  My own text (road H): HT7.
-/
import Derived.Test.YtflanhfpjgcfbaaHB2
import Derived.Test.YtflanhfpjgcfbaaHT4
set_option linter.unusedSimpArgs false
namespace HT
open Go Go.Proofs HK
theorem rdInt : Reads Try.prog 3 (fun n : Int => [.int .i64 n]) (fun n => (Lit.int .i64 n).wf = true) := Reads.int (by kernel_rfl)
theorem rdBool : Reads Try.prog 4 (fun b : Bool => [.bool b]) (fun _ => True) := Reads.bool (by kernel_rfl)
theorem rdIntS : Reads Try.prog 48 (fun l : List Int => [.fz (IntS l)]) (fun l => l.length ≤ maxLen) :=
  (Reads.slice (e := 3) (by kernel_rfl) rdInt (Nat.lt_of_lt_of_eq (m := 1) (by omega) (by kernel_rfl))).map id (by intro _; rfl) (fun _ h => h.2)
theorem rdWaiter : Reads Try.prog 197 Waiter.cl (fun _ => True) :=
  (Reads.struct (l := [(3, 0), (3, 1), (3, 2)]) (tot := 3) (by kernel_rfl) (ReadsF.cons 1 (by kernel_rfl) rdInt (ReadsF.cons 1 (by kernel_rfl) rdInt (ReadsF.cons 1 (by kernel_rfl) rdInt ReadsF.nil)))).map
    (fun x => ⟨x.1, x.2.1, x.2.2.1⟩) (by intro _; rfl) (fun _ _ => trivial)
theorem rdWaiterS : Reads Try.prog 138 (fun l : List Waiter => [.fz (WaiterS l)]) (fun l => l.length ≤ maxLen) :=
  (Reads.slice (e := 197) (by kernel_rfl) rdWaiter (Nat.lt_of_lt_of_eq (m := 3) (by omega) (by kernel_rfl))).map id (by intro _; rfl) (fun _ h => h.2)
theorem rdItem : Reads Try.prog 169 Item.cl (fun _ => True) :=
  (Reads.struct (l := [(3, 0), (3, 1), (3, 2), (4, 3)]) (tot := 4) (by kernel_rfl) (ReadsF.cons 1 (by kernel_rfl) rdInt (ReadsF.cons 1 (by kernel_rfl) rdInt (ReadsF.cons 1 (by kernel_rfl) rdInt (ReadsF.cons 1 (by kernel_rfl) rdBool ReadsF.nil))))).map
    (fun x => ⟨x.1, x.2.1, x.2.2.1, x.2.2.2.1⟩) (by intro _; rfl) (fun _ _ => trivial)
theorem rdItemS : Reads Try.prog 66 (fun l : List Item => [.fz (ItemS l)]) (fun l => l.length ≤ maxLen) :=
  (Reads.slice (e := 169) (by kernel_rfl) rdItem (Nat.lt_of_lt_of_eq (m := 4) (by omega) (by kernel_rfl))).map id (by intro _; rfl) (fun _ h => h.2)
theorem rdChan : Reads Try.prog 140 Chan.fr (fun x => x.fit) :=
  (Reads.struct (l := [(3, 0), (48, 1), (138, 2), (138, 3), (4, 4)]) (tot := 5) (by kernel_rfl) (ReadsF.cons 1 (by kernel_rfl) rdInt (ReadsF.cons 1 (by kernel_rfl) rdIntS (ReadsF.cons 1 (by kernel_rfl) rdWaiterS (ReadsF.cons 1 (by kernel_rfl) rdWaiterS (ReadsF.cons 1 (by kernel_rfl) rdBool ReadsF.nil)))))).map
    (fun x => ⟨x.1, x.2.1, x.2.2.1, x.2.2.2.1, x.2.2.2.2.1⟩) (by intro _; rfl) (fun _ h => ⟨h.2.1, h.2.2.1, h.2.2.2.1⟩)
theorem rdChanS : Reads Try.prog 23 (fun l : List Chan => [.fz (ChanSf l)]) (fun l => l.length ≤ maxLen ∧ ∀ x ∈ l, x.fit) :=
  (Reads.slice (e := 140) (by kernel_rfl) rdChan (Nat.lt_of_lt_of_eq (m := 5) (by omega) (by kernel_rfl))).map id (by intro _; rfl) (fun _ h => ⟨h.2, h.1⟩)
theorem rdMutex : Reads Try.prog 143 Mutex.fr (fun x => x.fit) :=
  (Reads.struct (l := [(3, 0), (48, 1)]) (tot := 2) (by kernel_rfl) (ReadsF.cons 1 (by kernel_rfl) rdInt (ReadsF.cons 1 (by kernel_rfl) rdIntS ReadsF.nil))).map
    (fun x => ⟨x.1, x.2.1⟩) (by intro _; rfl) (fun _ h => h.2.1)
theorem rdMutexS : Reads Try.prog 24 (fun l : List Mutex => [.fz (MutexSf l)]) (fun l => l.length ≤ maxLen ∧ ∀ x ∈ l, x.fit) :=
  (Reads.slice (e := 143) (by kernel_rfl) rdMutex (Nat.lt_of_lt_of_eq (m := 2) (by omega) (by kernel_rfl))).map id (by intro _; rfl) (fun _ h => ⟨h.2, h.1⟩)
theorem rdGor : Reads Try.prog 68 Gor.fr (fun x => x.fit) :=
  (Reads.struct (l := [(3, 0), (3, 1), (48, 2), (3, 3), (66, 4)]) (tot := 5) (by kernel_rfl) (ReadsF.cons 1 (by kernel_rfl) rdInt (ReadsF.cons 1 (by kernel_rfl) rdInt (ReadsF.cons 1 (by kernel_rfl) rdIntS (ReadsF.cons 1 (by kernel_rfl) rdInt (ReadsF.cons 1 (by kernel_rfl) rdItemS ReadsF.nil)))))).map
    (fun x => ⟨x.1, x.2.1, x.2.2.1, x.2.2.2.1, x.2.2.2.2.1⟩) (by intro _; rfl) (fun _ h => ⟨h.2.2.1, h.2.2.2.2.1⟩)
theorem rdGorS : Reads Try.prog 22 (fun l : List Gor => [.fz (GorSf l)]) (fun l => l.length ≤ maxLen ∧ ∀ x ∈ l, x.fit) :=
  (Reads.slice (e := 68) (by kernel_rfl) rdGor (Nat.lt_of_lt_of_eq (m := 5) (by omega) (by kernel_rfl))).map id (by intro _; rfl) (fun _ h => ⟨h.2, h.1⟩)
theorem rdEng : Reads Try.prog 26 Eng.fr (fun x => x.fit) :=
  (Reads.struct (l := [(22, 0), (23, 1), (24, 2)]) (tot := 3) (by kernel_rfl) (ReadsF.cons 1 (by kernel_rfl) rdGorS (ReadsF.cons 1 (by kernel_rfl) rdChanS (ReadsF.cons 1 (by kernel_rfl) rdMutexS ReadsF.nil)))).map
    (fun x => ⟨x.1, x.2.1, x.2.2.1⟩) (by intro _; rfl) (fun _ h => ⟨h.1.1, h.1.2, h.2.1.1, h.2.1.2, h.2.2.1.1, h.2.2.1.2⟩)
theorem rdCase : Reads Try.prog 37 Case.cl (fun _ => True) :=
  (Reads.struct (l := [(4, 0), (3, 1), (3, 2), (3, 3), (3, 4)]) (tot := 5) (by kernel_rfl) (ReadsF.cons 1 (by kernel_rfl) rdBool (ReadsF.cons 1 (by kernel_rfl) rdInt (ReadsF.cons 1 (by kernel_rfl) rdInt (ReadsF.cons 1 (by kernel_rfl) rdInt (ReadsF.cons 1 (by kernel_rfl) rdInt ReadsF.nil)))))).map
    (fun x => ⟨x.1, x.2.1, x.2.2.1, x.2.2.2.1, x.2.2.2.2.1⟩) (by intro _; rfl) (fun _ _ => trivial)
theorem rdCaseS : Reads Try.prog 151 (fun l : List Case => [.fz (CaseS l)]) (fun l => l.length ≤ maxLen) :=
  (Reads.slice (e := 37) (by kernel_rfl) rdCase (Nat.lt_of_lt_of_eq (m := 5) (by omega) (by kernel_rfl))).map id (by intro _; rfl) (fun _ h => h.2)
theorem rdInstr : Reads Try.prog 200 Instr.cl (fun _ => True) :=
  (Reads.struct (l := [(3, 0), (3, 1), (3, 2), (3, 3)]) (tot := 4) (by kernel_rfl) (ReadsF.cons 1 (by kernel_rfl) rdInt (ReadsF.cons 1 (by kernel_rfl) rdInt (ReadsF.cons 1 (by kernel_rfl) rdInt (ReadsF.cons 1 (by kernel_rfl) rdInt ReadsF.nil))))).map
    (fun x => ⟨x.1, x.2.1, x.2.2.1, x.2.2.2.1⟩) (by intro _; rfl) (fun _ _ => trivial)
theorem rdInstrS : Reads Try.prog 155 (fun l : List Instr => [.fz (InstrS l)]) (fun l => l.length ≤ maxLen) :=
  (Reads.slice (e := 200) (by kernel_rfl) rdInstr (Nat.lt_of_lt_of_eq (m := 4) (by omega) (by kernel_rfl))).map id (by intro _; rfl) (fun _ h => h.2)
theorem rdSelect : Reads Try.prog 153 Select.fr (fun x => x.fit) :=
  (Reads.struct (l := [(151, 0), (3, 1)]) (tot := 2) (by kernel_rfl) (ReadsF.cons 1 (by kernel_rfl) rdCaseS (ReadsF.cons 1 (by kernel_rfl) rdInt ReadsF.nil))).map
    (fun x => ⟨x.1, x.2.1⟩) (by intro _; rfl) (fun _ h => h.1)
theorem rdSelectS : Reads Try.prog 49 (fun l : List Select => [.fz (SelectSf l)]) (fun l => l.length ≤ maxLen ∧ ∀ x ∈ l, x.fit) :=
  (Reads.slice (e := 153) (by kernel_rfl) rdSelect (Nat.lt_of_lt_of_eq (m := 2) (by omega) (by kernel_rfl))).map id (by intro _; rfl) (fun _ h => ⟨h.2, h.1⟩)
theorem rdProc : Reads Try.prog 157 Proc.fr (fun x => x.fit) :=
  (Reads.struct (l := [(155, 0)]) (tot := 1) (by kernel_rfl) (ReadsF.cons 1 (by kernel_rfl) rdInstrS ReadsF.nil)).map
    (fun x => ⟨x.1⟩) (by intro _; rfl) (fun _ h => h.1)
theorem rdProcS : Reads Try.prog 50 (fun l : List Proc => [.fz (ProcSf l)]) (fun l => l.length ≤ maxLen ∧ ∀ x ∈ l, x.fit) :=
  (Reads.slice (e := 157) (by kernel_rfl) rdProc (Nat.lt_of_lt_of_eq (m := 1) (by omega) (by kernel_rfl))).map id (by intro _; rfl) (fun _ h => ⟨h.2, h.1⟩)
theorem rdProg : Reads Try.prog 52 Prog.fr (fun x => x.fit) :=
  (Reads.struct (l := [(48, 0), (3, 1), (49, 2), (50, 3)]) (tot := 4) (by kernel_rfl) (ReadsF.cons 1 (by kernel_rfl) rdIntS (ReadsF.cons 1 (by kernel_rfl) rdInt (ReadsF.cons 1 (by kernel_rfl) rdSelectS (ReadsF.cons 1 (by kernel_rfl) rdProcS ReadsF.nil))))).map
    (fun x => ⟨x.1, x.2.1, x.2.2.1, x.2.2.2.1⟩) (by intro _; rfl) (fun _ h => ⟨h.1, h.2.2.1.1, h.2.2.1.2, h.2.2.2.1.1, h.2.2.2.1.2⟩)
end HT
