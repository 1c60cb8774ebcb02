import Derived.Test.YteeefpifkepbpaaEG2b
/-
  My own texts (road H): HK36.
-/
set_option linter.unusedVariables false
set_option linter.unusedSimpArgs false
namespace HK
open Go
def wOk2 : Oper → Oper → Bool
  | ⟨none, .store _ (.tmp a) (.tmp v), _, _, _, none⟩, ⟨some d, .extract (.tmp _) _, _, _, _, none⟩ => d != a && d != v
  | _, _ => false
def drawWOk (ops : List Oper) (l : List (Nat × Bool)) (i x : Nat) (r : List PSeg) : Bool :=
  qOk ops (ancT ops (l.map (·.1) ++ i :: planIdx r) []) [] [] l && planOk ops (ancT ops (l.map (·.1) ++ i :: planIdx r) []) (l.map (·.1) ++ [i]) r && l.contains (x, false) && match ops[i]?, ops[x]? with
    | some o, some ox => wOk2 o ox && (prd o).all (fun p => p != x && (l.map (·.1)).contains p) && decide (i ∉ l.map (·.1)) && (l.map (·.1)).all (fun z => z == x || (lkT (ancT ops (l.map (·.1) ++ i :: planIdx r) []) i).contains z)
    | _, _ => false
def runDW (P : Program) (N : Sz) (ops : List Oper) (ds : List (Option Tmp)) (l : List (Nat × Bool)) (i : Nat) (r : List PSeg) (st : St) (K : St → Prop) : Prop := match ops[i]? with
  | some o => runQ P N ds (l.filterMap fun x => (ops[x.1]?).map fun o => (x.2, o)) st fun s => runA P N ds [o] s fun s => runD P N ops ds r s K
  | none => False
section
variable {P : Program} {N : Sz} {w0 : World} {B0 : Cx}
end
section
variable {P : Program} {N : Sz} {ds : List (Option Tmp)} {K : St → Prop} {st : St} {ops : List Oper} {r : List PSeg}
@[simp] theorem rd_W {m : List (Nat × Bool)} {i : Nat} : runDW P N ops ds m i r st K = (match ops[i]? with | some o => runQ P N ds (m.filterMap fun x => (ops[x.1]?).map fun o => (x.2, o)) st (fun s => runA P N ds [o] s fun s => runD P N ops ds r s K) | none => False) := rfl
end
end HK
