/-
  My own text (road H): HK21.
-/
import Derived.Test.YtflanhfpjgcfbaaHK20
namespace HK
open Go

theorem thenN {K : St → Prop} {Q : Exit → St → Prop} : Ex.then K Q .normal = K := rfl
section
variable {P : Program} {N : Sz} {Q : Exit → St → Prop} {st : St}
theorem SW.seqK {x y : Code} (h : ∀ K : St → Prop, (∀ st, SW P N y Q st → K st) → SW P N x (Ex.then K Q) st) : SW P N (.seq x y) Q st := SW.seq (h _ fun _ h => h)
/-- A region ahead of more code. -/
theorem SW.regionK {id : Nat} {l : List Oper} {y : Code} (h : ∀ K : St → Prop, (∀ st, SW P N y Q st → K st) → runA P N (l.map (·.dst)) l st K) : SW P N (.seq (.region id l.toArray false) y) Q st :=
  SW.seq (SW.region (h _ fun _ h => h))
/-- A region that ends a block's text. -/
theorem SW.regionE {id : Nat} {l : List Oper} (h : ∀ K : St → Prop, (∀ st, Q .normal st → K st) → runA P N (l.map (·.dst)) l st K) : SW P N (.region id l.toArray false) Q st :=
  SW.region (h _ fun _ h => h)

variable {ds : List (Option Tmp)} {rest : List Oper} {K : St → Prop} {d : Option Tmp} {ty : TypeId} {pos : String} {af : Array Edge} {env : Env} {h : Heap} {j : Nat} {wt : Bool}
@[simp] theorem runA_nil : runA P N ds [] st K = K st := rfl
theorem runA_pure {op : Op} (hc : cls op = .pure) : runA P N ds (⟨d, op, ty, pos, af, none⟩ :: rest) ⟨env, h⟩ K = (dOk N d = true ∧ (evP P h (ev env) op).1 ∧ runA P N ds rest ⟨putE env d (evP P h (ev env) op).2, h⟩ K) := by
  simp only [runA, gval, hc]
theorem runA_alloc {op : Op} (hc : cls op = .alloc) : runA P N ds (⟨d, op, ty, pos, af, none⟩ :: rest) ⟨env, h⟩ K = (dOk N d = true ∧ (evA P (ev env) op).ok ∧ runA P N ds rest ⟨putE env d ((evA P (ev env) op).val h.length), h ++ [some (evA P (ev env) op).blk]⟩ K) := by
  simp only [runA, gval, hc]
@[simp] theorem runA_store {t : TypeId} {a v : Operand} : runA P N ds (⟨d, .store t a v, ty, pos, af, none⟩ :: rest) ⟨env, h⟩ K = (dOk N d = true ∧ (evS P h t (ev env a) (ev env v)).ok ∧ runA P N ds rest ⟨putE env d .undef, (evS P h t (ev env a) (ev env v)).h⟩ K) := rfl
@[simp] theorem runA_app {s x : Operand} {t xt : TypeId} : runA P N ds (⟨d, .call ⟨.builtin .append, #[s, x], #[t, xt]⟩, ty, pos, af, none⟩ :: rest) ⟨env, h⟩ K =
    (dOk N d = true ∧ (evApp P h t xt (ev env s) (ev env x)).1 ∧ runA P N ds rest ⟨putE env d (evApp P h t xt (ev env s) (ev env x)).2.2, (evApp P h t xt (ev env s) (ev env x)).2.1⟩ K) := rfl
/-- A call, and what follows. -/
def CallK (P : Program) (N : Sz) (ds : List (Option Tmp)) (rest : List Oper) (d : Option Tmp) (env : Env) (h : Heap) (K : St → Prop) (fid : FuncId) (as : List AV) : Prop := CallS P fid as h (fun out h' => runA P N ds rest ⟨putE env d out, h'⟩ K)
theorem runA_call {f : FuncId} {args : Array Operand} {ats : Array TypeId} : runA P N ds (⟨d, .call ⟨.value (.func f), args, ats⟩, ty, pos, af, none⟩ :: rest) ⟨env, h⟩ K =
    (dOk N d = true ∧ (True ∧ allGk (ev env) args.toList) ∧ CallK P N ds rest d env h K f ([] ++ (args.toList.map fun x => st1 (ev env x)) ++ [])) := rfl
/-- An operation that may be left out, and what follows. -/
def gRun (P : Program) (N : Sz) (ds : List (Option Tmp)) (rest : List Oper) (d : Option Tmp) (env : Env) (h : Heap) (K : St → Prop) (gv : GV) (ok : Prop) (v : AV) : Prop := match gv with
  | .free => False
  | .on g => (g = true → ok) ∧ runA P N ds rest ⟨putE env d (.cond g v), h⟩ K
  | .bad => False
@[simp] theorem gRun_on {g : Bool} {ok : Prop} {v : AV} : gRun P N ds rest d env h K (.on g) ok v = ((g = true → ok) ∧ runA P N ds rest ⟨putE env d (.cond g v), h⟩ K) := rfl
theorem runA_pure_g {op : Op} (hc : cls op = .pure) : runA P N ds (⟨d, op, ty, pos, af, some (j, wt)⟩ :: rest) ⟨env, h⟩ K = (dOk N d = true ∧ gRun P N ds rest d env h K (gval ds env (some (j, wt))) (evP P h (ev env) op).1 (evP P h (ev env) op).2) := by
  simp only [runA, hc]
  cases hg : gval ds env (some (j, wt)) <;> first | rfl | skip
  · unfold gval at hg; simp only at hg; split at hg
    · split at hg <;> cases hg
    · cases hg
/-- A call that may be left out, and what follows. -/
def CallG (P : Program) (N : Sz) (ds : List (Option Tmp)) (rest : List Oper) (d : Option Tmp) (env : Env) (h : Heap) (K : St → Prop) (fid : FuncId) (g : Bool) (gks : Prop) (as : List AV) : Prop :=
  ∃ out, (g = true → gks ∧ CallS P fid as h (fun o h' => o = out ∧ h' = h)) ∧ runA P N ds rest ⟨putE env d (.cond g out), h⟩ K
def gCall (P : Program) (N : Sz) (ds : List (Option Tmp)) (rest : List Oper) (d : Option Tmp) (env : Env) (h : Heap) (K : St → Prop) (fid : FuncId) (gv : GV) (gks : Prop) (as : List AV) : Prop := match gv with
  | .on g => CallG P N ds rest d env h K fid g gks as
  | _ => False
@[simp] theorem gCall_on {fid : FuncId} {g : Bool} {gks : Prop} {as : List AV} : gCall P N ds rest d env h K fid (.on g) gks as = CallG P N ds rest d env h K fid g gks as := rfl
@[simp] theorem run_call_g {f : FuncId} {args : Array Operand} {ats : Array TypeId} : runA P N ds (⟨d, .call ⟨.value (.func f), args, ats⟩, ty, pos, af, some (j, wt)⟩ :: rest) ⟨env, h⟩ K = (dOk N d = true ∧
    gCall P N ds rest d env h K f (gval ds env (some (j, wt))) (allGk (ev env) args.toList) (args.toList.map fun x => st1 (ev env x))) := by
  simp only [runA, cls, clsC, calleeOf, calleeGk, ev, st1, gk]
  cases hg : gval ds env (some (j, wt)) <;> first | rfl | skip
  · unfold gval at hg; simp only at hg; split at hg
    · split at hg <;> cases hg
    · cases hg
  · simp [gCall, CallG]
@[simp] theorem run_call {f : FuncId} {args : Array Operand} {ats : Array TypeId} : runA P N ds (⟨d, .call ⟨.value (.func f), args, ats⟩, ty, pos, af, none⟩ :: rest) ⟨env, h⟩ K =
    (dOk N d = true ∧ allGk (ev env) args.toList ∧ CallK P N ds rest d env h K f (args.toList.map fun x => st1 (ev env x))) := by
  rw [runA_call]; simp
/-- The call of a function of which Fn is known: no slice comes back, or it is read only. -/
theorem CallK.fz {fid : FuncId} {as : List AV} {out : AV} (hf : Fn P fid (as.map (viewN h 6)) out) (k : runA P N ds rest ⟨putE env d (viewN [] 6 out), h⟩ K) : CallK P N ds rest d env h K fid as :=
  (CallS.of_fn_fz (d' := 6) hf).mono fun o h' ⟨e1, e2⟩ => by subst e1; subst e2; exact k
/-- .. its slices get names. -/
theorem CallK.im {fid : FuncId} {as : List AV} {out : AV} (hf : Fn P fid (as.map (viewN h 6)) out) (hok : okI out = true) (k : runA P N ds rest ⟨putE env d (imp h.length out).1, h ++ (imp h.length out).2.map some⟩ K) : CallK P N ds rest d env h K fid as :=
  (CallS.of_fn hf hok).mono fun o h' ⟨e1, e2⟩ => by subst e1; subst e2; exact k
theorem CallG.fz {fid : FuncId} {as : List AV} {out : AV} {g : Bool} {gks : Prop} (hg : g = true → gks) (hf : g = true → Fn P fid (as.map (viewN h 6)) out) (k : runA P N ds rest ⟨putE env d (.cond g (viewN [] 6 out)), h⟩ K) : CallG P N ds rest d env h K fid g gks as :=
  ⟨_, fun e => ⟨hg e, CallS.of_fn_fz (d' := 6) (hf e)⟩, k⟩
@[simp] theorem run_move {x : Operand} : runA P N ds (⟨d, .move x, ty, pos, af, none⟩ :: rest) ⟨env, h⟩ K = (dOk N d = true ∧ (evP P h (ev env) (.move x)).1 ∧ runA P N ds rest ⟨putE env d (evP P h (ev env) (.move x)).2, h⟩ K) := rfl
@[simp] theorem run_move_g {x : Operand} : runA P N ds (⟨d, .move x, ty, pos, af, some (j, wt)⟩ :: rest) ⟨env, h⟩ K = (dOk N d = true ∧ gRun P N ds rest d env h K (gval ds env (some (j, wt))) (evP P h (ev env) (.move x)).1 (evP P h (ev env) (.move x)).2) := runA_pure_g rfl
@[simp] theorem run_assign {x : Operand} : runA P N ds (⟨d, .assign x, ty, pos, af, none⟩ :: rest) ⟨env, h⟩ K = (dOk N d = true ∧ (evP P h (ev env) (.assign x)).1 ∧ runA P N ds rest ⟨putE env d (evP P h (ev env) (.assign x)).2, h⟩ K) := rfl
@[simp] theorem run_assign_g {x : Operand} : runA P N ds (⟨d, .assign x, ty, pos, af, some (j, wt)⟩ :: rest) ⟨env, h⟩ K = (dOk N d = true ∧ gRun P N ds rest d env h K (gval ds env (some (j, wt))) (evP P h (ev env) (.assign x)).1 (evP P h (ev env) (.assign x)).2) := runA_pure_g rfl
@[simp] theorem run_pick {c a b : Operand} : runA P N ds (⟨d, .pick c a b, ty, pos, af, none⟩ :: rest) ⟨env, h⟩ K = (dOk N d = true ∧ (evP P h (ev env) (.pick c a b)).1 ∧ runA P N ds rest ⟨putE env d (evP P h (ev env) (.pick c a b)).2, h⟩ K) := rfl
@[simp] theorem run_pick_g {c a b : Operand} : runA P N ds (⟨d, .pick c a b, ty, pos, af, some (j, wt)⟩ :: rest) ⟨env, h⟩ K = (dOk N d = true ∧ gRun P N ds rest d env h K (gval ds env (some (j, wt))) (evP P h (ev env) (.pick c a b)).1 (evP P h (ev env) (.pick c a b)).2) := runA_pure_g rfl
@[simp] theorem run_load {t : TypeId} {x : Operand} : runA P N ds (⟨d, .load t x, ty, pos, af, none⟩ :: rest) ⟨env, h⟩ K = (dOk N d = true ∧ (evP P h (ev env) (.load t x)).1 ∧ runA P N ds rest ⟨putE env d (evP P h (ev env) (.load t x)).2, h⟩ K) := rfl
@[simp] theorem run_load_g {t : TypeId} {x : Operand} : runA P N ds (⟨d, .load t x, ty, pos, af, some (j, wt)⟩ :: rest) ⟨env, h⟩ K = (dOk N d = true ∧ gRun P N ds rest d env h K (gval ds env (some (j, wt))) (evP P h (ev env) (.load t x)).1 (evP P h (ev env) (.load t x)).2) := runA_pure_g rfl
@[simp] theorem run_fieldAddr {t : TypeId} {x : Operand} {f : Nat} : runA P N ds (⟨d, .fieldAddr t x f, ty, pos, af, none⟩ :: rest) ⟨env, h⟩ K = (dOk N d = true ∧ (evP P h (ev env) (.fieldAddr t x f)).1 ∧ runA P N ds rest ⟨putE env d (evP P h (ev env) (.fieldAddr t x f)).2, h⟩ K) := rfl
@[simp] theorem run_fieldAddr_g {t : TypeId} {x : Operand} {f : Nat} : runA P N ds (⟨d, .fieldAddr t x f, ty, pos, af, some (j, wt)⟩ :: rest) ⟨env, h⟩ K = (dOk N d = true ∧ gRun P N ds rest d env h K (gval ds env (some (j, wt))) (evP P h (ev env) (.fieldAddr t x f)).1 (evP P h (ev env) (.fieldAddr t x f)).2) := runA_pure_g rfl
@[simp] theorem run_indexAddr {t : TypeId} {x i : Operand} : runA P N ds (⟨d, .indexAddr t x i, ty, pos, af, none⟩ :: rest) ⟨env, h⟩ K = (dOk N d = true ∧ (evP P h (ev env) (.indexAddr t x i)).1 ∧ runA P N ds rest ⟨putE env d (evP P h (ev env) (.indexAddr t x i)).2, h⟩ K) := rfl
@[simp] theorem run_indexAddr_g {t : TypeId} {x i : Operand} : runA P N ds (⟨d, .indexAddr t x i, ty, pos, af, some (j, wt)⟩ :: rest) ⟨env, h⟩ K = (dOk N d = true ∧ gRun P N ds rest d env h K (gval ds env (some (j, wt))) (evP P h (ev env) (.indexAddr t x i)).1 (evP P h (ev env) (.indexAddr t x i)).2) := runA_pure_g rfl
@[simp] theorem run_index {t : TypeId} {x i : Operand} : runA P N ds (⟨d, .index t x i, ty, pos, af, none⟩ :: rest) ⟨env, h⟩ K = (dOk N d = true ∧ (evP P h (ev env) (.index t x i)).1 ∧ runA P N ds rest ⟨putE env d (evP P h (ev env) (.index t x i)).2, h⟩ K) := rfl
@[simp] theorem run_index_g {t : TypeId} {x i : Operand} : runA P N ds (⟨d, .index t x i, ty, pos, af, some (j, wt)⟩ :: rest) ⟨env, h⟩ K = (dOk N d = true ∧ gRun P N ds rest d env h K (gval ds env (some (j, wt))) (evP P h (ev env) (.index t x i)).1 (evP P h (ev env) (.index t x i)).2) := runA_pure_g rfl
@[simp] theorem run_slice {t : TypeId} {x : Operand} {lo hi : Option Operand} : runA P N ds (⟨d, .slice t x lo hi none, ty, pos, af, none⟩ :: rest) ⟨env, h⟩ K = (dOk N d = true ∧ (evP P h (ev env) (.slice t x lo hi none)).1 ∧ runA P N ds rest ⟨putE env d (evP P h (ev env) (.slice t x lo hi none)).2, h⟩ K) := rfl
@[simp] theorem run_slice_g {t : TypeId} {x : Operand} {lo hi : Option Operand} : runA P N ds (⟨d, .slice t x lo hi none, ty, pos, af, some (j, wt)⟩ :: rest) ⟨env, h⟩ K = (dOk N d = true ∧ gRun P N ds rest d env h K (gval ds env (some (j, wt))) (evP P h (ev env) (.slice t x lo hi none)).1 (evP P h (ev env) (.slice t x lo hi none)).2) := runA_pure_g rfl
@[simp] theorem run_extract {x : Operand} {i : Nat} : runA P N ds (⟨d, .extract x i, ty, pos, af, none⟩ :: rest) ⟨env, h⟩ K = (dOk N d = true ∧ (evP P h (ev env) (.extract x i)).1 ∧ runA P N ds rest ⟨putE env d (evP P h (ev env) (.extract x i)).2, h⟩ K) := rfl
@[simp] theorem run_extract_g {x : Operand} {i : Nat} : runA P N ds (⟨d, .extract x i, ty, pos, af, some (j, wt)⟩ :: rest) ⟨env, h⟩ K = (dOk N d = true ∧ gRun P N ds rest d env h K (gval ds env (some (j, wt))) (evP P h (ev env) (.extract x i)).1 (evP P h (ev env) (.extract x i)).2) := runA_pure_g rfl
@[simp] theorem run_binOp {op : BinOp} {t : TypeId} {x y : Operand} {yt : TypeId} : runA P N ds (⟨d, .binOp op t x y yt, ty, pos, af, none⟩ :: rest) ⟨env, h⟩ K = (dOk N d = true ∧ (evP P h (ev env) (.binOp op t x y yt)).1 ∧ runA P N ds rest ⟨putE env d (evP P h (ev env) (.binOp op t x y yt)).2, h⟩ K) := rfl
@[simp] theorem run_binOp_g {op : BinOp} {t : TypeId} {x y : Operand} {yt : TypeId} : runA P N ds (⟨d, .binOp op t x y yt, ty, pos, af, some (j, wt)⟩ :: rest) ⟨env, h⟩ K = (dOk N d = true ∧ gRun P N ds rest d env h K (gval ds env (some (j, wt))) (evP P h (ev env) (.binOp op t x y yt)).1 (evP P h (ev env) (.binOp op t x y yt)).2) := runA_pure_g rfl
@[simp] theorem run_unOp {op : UnOp} {t : TypeId} {x : Operand} : runA P N ds (⟨d, .unOp op t x, ty, pos, af, none⟩ :: rest) ⟨env, h⟩ K = (dOk N d = true ∧ (evP P h (ev env) (.unOp op t x)).1 ∧ runA P N ds rest ⟨putE env d (evP P h (ev env) (.unOp op t x)).2, h⟩ K) := rfl
@[simp] theorem run_unOp_g {op : UnOp} {t : TypeId} {x : Operand} : runA P N ds (⟨d, .unOp op t x, ty, pos, af, some (j, wt)⟩ :: rest) ⟨env, h⟩ K = (dOk N d = true ∧ gRun P N ds rest d env h K (gval ds env (some (j, wt))) (evP P h (ev env) (.unOp op t x)).1 (evP P h (ev env) (.unOp op t x)).2) := runA_pure_g rfl
@[simp] theorem run_convert {s t : TypeId} {x : Operand} : runA P N ds (⟨d, .convert s t x, ty, pos, af, none⟩ :: rest) ⟨env, h⟩ K = (dOk N d = true ∧ (evP P h (ev env) (.convert s t x)).1 ∧ runA P N ds rest ⟨putE env d (evP P h (ev env) (.convert s t x)).2, h⟩ K) := rfl
@[simp] theorem run_convert_g {s t : TypeId} {x : Operand} : runA P N ds (⟨d, .convert s t x, ty, pos, af, some (j, wt)⟩ :: rest) ⟨env, h⟩ K = (dOk N d = true ∧ gRun P N ds rest d env h K (gval ds env (some (j, wt))) (evP P h (ev env) (.convert s t x)).1 (evP P h (ev env) (.convert s t x)).2) := runA_pure_g rfl
@[simp] theorem run_nilCheck {x : Operand} : runA P N ds (⟨d, .nilCheck x, ty, pos, af, none⟩ :: rest) ⟨env, h⟩ K = (dOk N d = true ∧ (evP P h (ev env) (.nilCheck x)).1 ∧ runA P N ds rest ⟨putE env d (evP P h (ev env) (.nilCheck x)).2, h⟩ K) := rfl
@[simp] theorem run_nilCheck_g {x : Operand} : runA P N ds (⟨d, .nilCheck x, ty, pos, af, some (j, wt)⟩ :: rest) ⟨env, h⟩ K = (dOk N d = true ∧ gRun P N ds rest d env h K (gval ds env (some (j, wt))) (evP P h (ev env) (.nilCheck x)).1 (evP P h (ev env) (.nilCheck x)).2) := runA_pure_g rfl
@[simp] theorem run_build {t : TypeId} {ps : Array (Nat × Operand)} : runA P N ds (⟨d, .build t ps, ty, pos, af, none⟩ :: rest) ⟨env, h⟩ K = (dOk N d = true ∧ (evP P h (ev env) (.build t ps)).1 ∧ runA P N ds rest ⟨putE env d (evP P h (ev env) (.build t ps)).2, h⟩ K) := rfl
@[simp] theorem run_build_g {t : TypeId} {ps : Array (Nat × Operand)} : runA P N ds (⟨d, .build t ps, ty, pos, af, some (j, wt)⟩ :: rest) ⟨env, h⟩ K = (dOk N d = true ∧ gRun P N ds rest d env h K (gval ds env (some (j, wt))) (evP P h (ev env) (.build t ps)).1 (evP P h (ev env) (.build t ps)).2) := runA_pure_g rfl
@[simp] theorem run_makeFunc {fn : Go.Fn} {fi ca : Array Operand} : runA P N ds (⟨d, .makeFunc fn fi ca, ty, pos, af, none⟩ :: rest) ⟨env, h⟩ K = (dOk N d = true ∧ (evP P h (ev env) (.makeFunc fn fi ca)).1 ∧ runA P N ds rest ⟨putE env d (evP P h (ev env) (.makeFunc fn fi ca)).2, h⟩ K) := rfl
@[simp] theorem run_makeFunc_g {fn : Go.Fn} {fi ca : Array Operand} : runA P N ds (⟨d, .makeFunc fn fi ca, ty, pos, af, some (j, wt)⟩ :: rest) ⟨env, h⟩ K = (dOk N d = true ∧ gRun P N ds rest d env h K (gval ds env (some (j, wt))) (evP P h (ev env) (.makeFunc fn fi ca)).1 (evP P h (ev env) (.makeFunc fn fi ca)).2) := runA_pure_g rfl
@[simp] theorem run_len {x : Operand} {t : TypeId} : runA P N ds (⟨d, .call ⟨.builtin .len, #[x], #[t]⟩, ty, pos, af, none⟩ :: rest) ⟨env, h⟩ K = (dOk N d = true ∧ (evP P h (ev env) (.call ⟨.builtin .len, #[x], #[t]⟩)).1 ∧ runA P N ds rest ⟨putE env d (evP P h (ev env) (.call ⟨.builtin .len, #[x], #[t]⟩)).2, h⟩ K) := rfl
@[simp] theorem run_len_g {x : Operand} {t : TypeId} : runA P N ds (⟨d, .call ⟨.builtin .len, #[x], #[t]⟩, ty, pos, af, some (j, wt)⟩ :: rest) ⟨env, h⟩ K = (dOk N d = true ∧ gRun P N ds rest d env h K (gval ds env (some (j, wt))) (evP P h (ev env) (.call ⟨.builtin .len, #[x], #[t]⟩)).1 (evP P h (ev env) (.call ⟨.builtin .len, #[x], #[t]⟩)).2) := runA_pure_g rfl
@[simp] theorem run_min {x y : Operand} {ts : Array TypeId} : runA P N ds (⟨d, .call ⟨.builtin .min, #[x, y], ts⟩, ty, pos, af, none⟩ :: rest) ⟨env, h⟩ K = (dOk N d = true ∧ (evP P h (ev env) (.call ⟨.builtin .min, #[x, y], ts⟩)).1 ∧ runA P N ds rest ⟨putE env d (evP P h (ev env) (.call ⟨.builtin .min, #[x, y], ts⟩)).2, h⟩ K) := rfl
@[simp] theorem run_min_g {x y : Operand} {ts : Array TypeId} : runA P N ds (⟨d, .call ⟨.builtin .min, #[x, y], ts⟩, ty, pos, af, some (j, wt)⟩ :: rest) ⟨env, h⟩ K = (dOk N d = true ∧ gRun P N ds rest d env h K (gval ds env (some (j, wt))) (evP P h (ev env) (.call ⟨.builtin .min, #[x, y], ts⟩)).1 (evP P h (ev env) (.call ⟨.builtin .min, #[x, y], ts⟩)).2) := runA_pure_g rfl
@[simp] theorem run_max {x y : Operand} {ts : Array TypeId} : runA P N ds (⟨d, .call ⟨.builtin .max, #[x, y], ts⟩, ty, pos, af, none⟩ :: rest) ⟨env, h⟩ K = (dOk N d = true ∧ (evP P h (ev env) (.call ⟨.builtin .max, #[x, y], ts⟩)).1 ∧ runA P N ds rest ⟨putE env d (evP P h (ev env) (.call ⟨.builtin .max, #[x, y], ts⟩)).2, h⟩ K) := rfl
@[simp] theorem run_max_g {x y : Operand} {ts : Array TypeId} : runA P N ds (⟨d, .call ⟨.builtin .max, #[x, y], ts⟩, ty, pos, af, some (j, wt)⟩ :: rest) ⟨env, h⟩ K = (dOk N d = true ∧ gRun P N ds rest d env h K (gval ds env (some (j, wt))) (evP P h (ev env) (.call ⟨.builtin .max, #[x, y], ts⟩)).1 (evP P h (ev env) (.call ⟨.builtin .max, #[x, y], ts⟩)).2) := runA_pure_g rfl
@[simp] theorem run_alloc {t : TypeId} : runA P N ds (⟨d, .alloc t, ty, pos, af, none⟩ :: rest) ⟨env, h⟩ K = (dOk N d = true ∧ (evA P (ev env) (.alloc t)).ok ∧ runA P N ds rest ⟨putE env d ((evA P (ev env) (.alloc t)).val h.length), h ++ [some (evA P (ev env) (.alloc t)).blk]⟩ K) := rfl
@[simp] theorem run_box {t : TypeId} {x : Operand} : runA P N ds (⟨d, .box t x, ty, pos, af, none⟩ :: rest) ⟨env, h⟩ K = (dOk N d = true ∧ (evA P (ev env) (.box t x)).ok ∧ runA P N ds rest ⟨putE env d ((evA P (ev env) (.box t x)).val h.length), h ++ [some (evA P (ev env) (.box t x)).blk]⟩ K) := rfl
@[simp] theorem run_buildSlice {t : TypeId} {n : Nat} {ps : Array (Nat × Operand)} : runA P N ds (⟨d, .buildSlice t n ps, ty, pos, af, none⟩ :: rest) ⟨env, h⟩ K = (dOk N d = true ∧ (evA P (ev env) (.buildSlice t n ps)).ok ∧ runA P N ds rest ⟨putE env d ((evA P (ev env) (.buildSlice t n ps)).val h.length), h ++ [some (evA P (ev env) (.buildSlice t n ps)).blk]⟩ K) := rfl
@[simp] theorem run_makeSlice {t : TypeId} {l c : Operand} : runA P N ds (⟨d, .makeSlice t l c, ty, pos, af, none⟩ :: rest) ⟨env, h⟩ K = (dOk N d = true ∧ (evA P (ev env) (.makeSlice t l c)).ok ∧ runA P N ds rest ⟨putE env d ((evA P (ev env) (.makeSlice t l c)).val h.length), h ++ [some (evA P (ev env) (.makeSlice t l c)).blk]⟩ K) := rfl
@[simp] theorem pb_ff (t x : Bool) : pb t x false = (t && x) := by cases t <;> rfl
@[simp] theorem pb_tt (t y : Bool) : pb t true y = (t || y) := by cases t <;> rfl
@[simp] theorem gb_t (b : Bool) : gb true b = b := rfl
@[simp] theorem gb_f (b : Bool) : gb false b = !b := rfl
end
section
variable {h : Heap} {d : Nat}
@[simp] theorem view_undef : viewN h (d + 1) .undef = .undef := rfl
@[simp] theorem view_nil : viewN h (d + 1) .nil = .nil := rfl
@[simp] theorem view_bool {b : Bool} : viewN h (d + 1) (.bool b) = .bool b := rfl
@[simp] theorem view_int {k : IntKind} {n : Int} : viewN h (d + 1) (.int k n) = .int k n := rfl
@[simp] theorem view_str {s : ByteArray} : viewN h (d + 1) (.str s) = .str s := rfl
@[simp] theorem view_con {v : Value} : viewN h (d + 1) (.con v) = .con v := rfl
@[simp] theorem view_fz {es : List (List AV)} : viewN h (d + 1) (.fz es) = .fz es := rfl
@[simp] theorem view_fptr {es : List (List AV)} {i j : Nat} : viewN h (d + 1) (.fptr es i j) = .fptr es i j := rfl
@[simp] theorem view_own {sz : Nat} {es : List (List AV)} : viewN h (d + 1) (.own sz es) = .fz (es.map (List.map (viewN h d))) := rfl
@[simp] theorem view_sl {id off len : Nat} : viewN h (d + 1) (.sl id off len) = (match hb h id with | some b => if off + len ≤ b.es.length then .fz (((b.es.drop off).take len).map (List.map (viewN h d))) else .undef | none => .undef) := rfl
@[simp] theorem view_agg {cs : List AV} : viewN h (d + 1) (.agg cs) = .agg (cs.map (viewN h d)) := rfl
@[simp] theorem view_tup {cs : List AV} : viewN h (d + 1) (.tup cs) = .tup (cs.map (viewN h d)) := rfl
@[simp] theorem view_fn {f : Go.Fn} {a b : List AV} : viewN h (d + 1) (.fn f a b) = .fn f (a.map (viewN h d)) (b.map (viewN h d)) := rfl
@[simp] theorem view_ptr {id i j : Nat} : viewN h (d + 1) (.ptr id i j) = .undef := rfl
@[simp] theorem view_cond {g : Bool} {v : AV} : viewN h (d + 1) (.cond g v) = .undef := rfl
end
attribute [simp] evP evA evS evApp loadV fieldV indexV sliceV lenV minV maxV binV binI binS unV cvV pickV lk putE st1 gk ev absV absC allGk gval dOk hb cellsAt asV plain oc ocp cellsA fillV fillE splice elemsOf bnd AR.val imp impC impT okI okC okT isOwn isRet resL tupA pk pk1 pkC okPk ok1 ok1s okCs okC' idP id1 idC strN envOf eqc eqk
end HK
