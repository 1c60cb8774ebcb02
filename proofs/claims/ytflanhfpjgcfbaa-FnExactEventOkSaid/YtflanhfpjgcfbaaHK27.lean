/-
  My own text (road H): HK27.
-/
import Derived.Test.YtflanhfpjgcfbaaHK26
namespace HK
open Go
section
variable {P : Program} {N : Sz} {ds : List (Option Tmp)} {l : List (Bool × Oper)} {K : St → Prop} {d : Option Tmp} {op : Op} {ty : TypeId} {pos : String} {af : Array Edge} {env : Env} {h : Heap} {j : Nat} {wt c : Bool} {st : St}
@[simp] theorem rq_nil : runQ P N ds [] st K = K st := rfl
theorem rq_pure (hc : cls op = .pure) : runQ P N ds ((false, ⟨d, op, ty, pos, af, none⟩) :: l) ⟨env, h⟩ K = (dOk N d = true ∧ (evP P h (ev env) op).1 ∧ runQ P N ds l ⟨putE env d (evP P h (ev env) op).2, h⟩ K) := by
  simp [runQ, Q1, gval, hc]
theorem rqa (hc : cls op = .alloc) : runQ P N ds ((true, ⟨d, op, ty, pos, af, none⟩) :: l) ⟨env, h⟩ K = (dOk N d = true ∧ (evA P (ev env) op).ok ∧ runQ P N ds l ⟨putE env d ((evA P (ev env) op).val h.length), h ++ [some (evA P (ev env) op).blk]⟩ K) := by
  simp [runQ, Q1, gval, hc]
def gQ (P : Program) (N : Sz) (ds : List (Option Tmp)) (l : List (Bool × Oper)) (d : Option Tmp) (env : Env) (h : Heap) (K : St → Prop) (gv : GV) (ok : Prop) (v : AV) : Prop := match gv with
  | .on g => (g = true → ok) ∧ runQ P N ds l ⟨putE env d (.cond g v), h⟩ K
  | _ => False
@[simp] theorem gQ_on {g : Bool} {ok : Prop} {v : AV} : gQ P N ds l d env h K (.on g) ok v = ((g = true → ok) ∧ runQ P N ds l ⟨putE env d (.cond g v), h⟩ K) := rfl
theorem gval_some {x : GV} (hg : gval ds env (some (j, wt)) = x) : x ≠ .free := by
  subst hg
  unfold gval
  simp only
  split
  · split <;> simp
  · simp
theorem rq_pure_g (hc : cls op = .pure) : runQ P N ds ((false, ⟨d, op, ty, pos, af, some (j, wt)⟩) :: l) ⟨env, h⟩ K = (dOk N d = true ∧ gQ P N ds l d env h K (gval ds env (some (j, wt))) (evP P h (ev env) op).1 (evP P h (ev env) op).2) := by
  simp only [runQ, Q1]
  cases hg : gval ds env (some (j, wt)) with
  | free => exact absurd rfl (gval_some hg)
  | bad => simp [gQ]
  | on g => simp [gQ, hc]
/-- A call whose result is read only. -/
def CallQ (P : Program) (N : Sz) (ds : List (Option Tmp)) (l : List (Bool × Oper)) (d : Option Tmp) (env : Env) (h : Heap) (K : St → Prop) (fid : FuncId) (as : List AV) : Prop :=
  ∃ out, Fn P fid (as.map (viewN h 6)) out ∧ runQ P N ds l ⟨putE env d (viewN [] 6 out), h⟩ K
/-- A call whose result gets names. -/
def CallQI (P : Program) (N : Sz) (ds : List (Option Tmp)) (l : List (Bool × Oper)) (d : Option Tmp) (env : Env) (h : Heap) (K : St → Prop) (fid : FuncId) (as : List AV) : Prop :=
  ∃ out, Fn P fid (as.map (viewN h 6)) out ∧ okI out = true ∧ runQ P N ds l ⟨putE env d (imp h.length out).1, h ++ (imp h.length out).2.map some⟩ K
def CallQG (P : Program) (N : Sz) (ds : List (Option Tmp)) (l : List (Bool × Oper)) (d : Option Tmp) (env : Env) (h : Heap) (K : St → Prop) (fid : FuncId) (g : Bool) (gks : Prop) (as : List AV) : Prop :=
  ∃ out, (g = true → gks ∧ Fn P fid (as.map (viewN h 6)) out) ∧ runQ P N ds l ⟨putE env d (.cond g (viewN [] 6 out)), h⟩ K
def gCallQ (P : Program) (N : Sz) (ds : List (Option Tmp)) (l : List (Bool × Oper)) (d : Option Tmp) (env : Env) (h : Heap) (K : St → Prop) (fid : FuncId) (gv : GV) (gks : Prop) (as : List AV) : Prop := match gv with
  | .on g => CallQG P N ds l d env h K fid g gks as
  | _ => False
@[simp] theorem gCallQ_on {fid : FuncId} {g : Bool} {gks : Prop} {as : List AV} : gCallQ P N ds l d env h K fid (.on g) gks as = CallQG P N ds l d env h K fid g gks as := rfl
theorem CallQ.fz {fid : FuncId} {as : List AV} {out : AV} (hf : Fn P fid (as.map (viewN h 6)) out) (k : runQ P N ds l ⟨putE env d (viewN [] 6 out), h⟩ K) : CallQ P N ds l d env h K fid as := ⟨out, hf, k⟩
theorem CallQI.im {fid : FuncId} {as : List AV} {out : AV} (hf : Fn P fid (as.map (viewN h 6)) out) (hok : okI out = true) (k : runQ P N ds l ⟨putE env d (imp h.length out).1, h ++ (imp h.length out).2.map some⟩ K) : CallQI P N ds l d env h K fid as := ⟨out, hf, hok, k⟩
theorem CallQG.fz {fid : FuncId} {as : List AV} {out : AV} {g : Bool} {gks : Prop} (hg : g = true → gks) (hf : g = true → Fn P fid (as.map (viewN h 6)) out) (k : runQ P N ds l ⟨putE env d (.cond g (viewN [] 6 out)), h⟩ K) : CallQG P N ds l d env h K fid g gks as :=
  ⟨out, fun e => ⟨hg e, hf e⟩, k⟩
@[simp] theorem rq_call {f : FuncId} {args : Array Operand} {ats : Array TypeId} : runQ P N ds ((false, ⟨d, .call ⟨.value (.func f), args, ats⟩, ty, pos, af, none⟩) :: l) ⟨env, h⟩ K =
    (dOk N d = true ∧ allGk (ev env) args.toList ∧ CallQ P N ds l d env h K f (args.toList.map fun x => st1 (ev env x))) := by
  simp [runQ, Q1, gval, cls, clsC, calleeOf, calleeGk, ev, st1, gk, CallQ]
@[simp] theorem rq_call_i {f : FuncId} {args : Array Operand} {ats : Array TypeId} : runQ P N ds ((true, ⟨d, .call ⟨.value (.func f), args, ats⟩, ty, pos, af, none⟩) :: l) ⟨env, h⟩ K =
    (dOk N d = true ∧ allGk (ev env) args.toList ∧ CallQI P N ds l d env h K f (args.toList.map fun x => st1 (ev env x))) := by
  simp [runQ, Q1, gval, cls, clsC, calleeOf, calleeGk, ev, st1, gk, CallQI]
@[simp] theorem rq_call_g {f : FuncId} {args : Array Operand} {ats : Array TypeId} : runQ P N ds ((false, ⟨d, .call ⟨.value (.func f), args, ats⟩, ty, pos, af, some (j, wt)⟩) :: l) ⟨env, h⟩ K =
    (dOk N d = true ∧ gCallQ P N ds l d env h K f (gval ds env (some (j, wt))) (allGk (ev env) args.toList) (args.toList.map fun x => st1 (ev env x))) := by
  simp only [runQ, Q1]
  cases hg : gval ds env (some (j, wt)) with
  | free => exact absurd rfl (gval_some hg)
  | bad => simp [gCallQ]
  | on g => simp [gCallQ, CallQG, cls, clsC, calleeOf, calleeGk, ev, st1, gk]
variable {ops : List Oper} {r : List PSeg}
@[simp] theorem rd_nil : runD P N ops ds [] st K = K st := rfl
@[simp] theorem rd_q {m : List (Nat × Bool)} : runD P N ops ds (.q m :: r) st K = runQ P N ds (m.filterMap fun x => (ops[x.1]?).map fun o => (x.2, o)) st (fun s => runD P N ops ds r s K) := rfl
@[simp] theorem rd_b {i : Nat} : runD P N ops ds (.b i :: r) st K = (match ops[i]? with | some o => runA P N ds [o] st (fun s => runD P N ops ds r s K) | none => False) := by
  simp only [runD]
  rfl
@[simp] theorem rq_move {x : Operand} : runQ P N ds ((false, ⟨d, .move x, ty, pos, af, none⟩) :: l) ⟨env, h⟩ K = (dOk N d = true ∧ (evP P h (ev env) (.move x)).1 ∧ runQ P N ds l ⟨putE env d (evP P h (ev env) (.move x)).2, h⟩ K) := rq_pure rfl
@[simp] theorem rq_move_g {x : Operand} : runQ P N ds ((false, ⟨d, .move x, ty, pos, af, some (j, wt)⟩) :: l) ⟨env, h⟩ K = (dOk N d = true ∧ gQ P N ds l d env h K (gval ds env (some (j, wt))) (evP P h (ev env) (.move x)).1 (evP P h (ev env) (.move x)).2) := rq_pure_g rfl
@[simp] theorem rq_assign {x : Operand} : runQ P N ds ((false, ⟨d, .assign x, ty, pos, af, none⟩) :: l) ⟨env, h⟩ K = (dOk N d = true ∧ (evP P h (ev env) (.assign x)).1 ∧ runQ P N ds l ⟨putE env d (evP P h (ev env) (.assign x)).2, h⟩ K) := rq_pure rfl
@[simp] theorem rq_assign_g {x : Operand} : runQ P N ds ((false, ⟨d, .assign x, ty, pos, af, some (j, wt)⟩) :: l) ⟨env, h⟩ K = (dOk N d = true ∧ gQ P N ds l d env h K (gval ds env (some (j, wt))) (evP P h (ev env) (.assign x)).1 (evP P h (ev env) (.assign x)).2) := rq_pure_g rfl
@[simp] theorem rq_pick {c a b : Operand} : runQ P N ds ((false, ⟨d, .pick c a b, ty, pos, af, none⟩) :: l) ⟨env, h⟩ K = (dOk N d = true ∧ (evP P h (ev env) (.pick c a b)).1 ∧ runQ P N ds l ⟨putE env d (evP P h (ev env) (.pick c a b)).2, h⟩ K) := rq_pure rfl
@[simp] theorem rq_pick_g {c a b : Operand} : runQ P N ds ((false, ⟨d, .pick c a b, ty, pos, af, some (j, wt)⟩) :: l) ⟨env, h⟩ K = (dOk N d = true ∧ gQ P N ds l d env h K (gval ds env (some (j, wt))) (evP P h (ev env) (.pick c a b)).1 (evP P h (ev env) (.pick c a b)).2) := rq_pure_g rfl
@[simp] theorem rq_load {t : TypeId} {x : Operand} : runQ P N ds ((false, ⟨d, .load t x, ty, pos, af, none⟩) :: l) ⟨env, h⟩ K = (dOk N d = true ∧ (evP P h (ev env) (.load t x)).1 ∧ runQ P N ds l ⟨putE env d (evP P h (ev env) (.load t x)).2, h⟩ K) := rq_pure rfl
@[simp] theorem rq_load_g {t : TypeId} {x : Operand} : runQ P N ds ((false, ⟨d, .load t x, ty, pos, af, some (j, wt)⟩) :: l) ⟨env, h⟩ K = (dOk N d = true ∧ gQ P N ds l d env h K (gval ds env (some (j, wt))) (evP P h (ev env) (.load t x)).1 (evP P h (ev env) (.load t x)).2) := rq_pure_g rfl
@[simp] theorem rq_fieldAddr {t : TypeId} {x : Operand} {f : Nat} : runQ P N ds ((false, ⟨d, .fieldAddr t x f, ty, pos, af, none⟩) :: l) ⟨env, h⟩ K = (dOk N d = true ∧ (evP P h (ev env) (.fieldAddr t x f)).1 ∧ runQ P N ds l ⟨putE env d (evP P h (ev env) (.fieldAddr t x f)).2, h⟩ K) := rq_pure rfl
@[simp] theorem rq_fieldAddr_g {t : TypeId} {x : Operand} {f : Nat} : runQ P N ds ((false, ⟨d, .fieldAddr t x f, ty, pos, af, some (j, wt)⟩) :: l) ⟨env, h⟩ K = (dOk N d = true ∧ gQ P N ds l d env h K (gval ds env (some (j, wt))) (evP P h (ev env) (.fieldAddr t x f)).1 (evP P h (ev env) (.fieldAddr t x f)).2) := rq_pure_g rfl
@[simp] theorem rq_indexAddr {t : TypeId} {x i : Operand} : runQ P N ds ((false, ⟨d, .indexAddr t x i, ty, pos, af, none⟩) :: l) ⟨env, h⟩ K = (dOk N d = true ∧ (evP P h (ev env) (.indexAddr t x i)).1 ∧ runQ P N ds l ⟨putE env d (evP P h (ev env) (.indexAddr t x i)).2, h⟩ K) := rq_pure rfl
@[simp] theorem rq_indexAddr_g {t : TypeId} {x i : Operand} : runQ P N ds ((false, ⟨d, .indexAddr t x i, ty, pos, af, some (j, wt)⟩) :: l) ⟨env, h⟩ K = (dOk N d = true ∧ gQ P N ds l d env h K (gval ds env (some (j, wt))) (evP P h (ev env) (.indexAddr t x i)).1 (evP P h (ev env) (.indexAddr t x i)).2) := rq_pure_g rfl
@[simp] theorem rq_index {t : TypeId} {x i : Operand} : runQ P N ds ((false, ⟨d, .index t x i, ty, pos, af, none⟩) :: l) ⟨env, h⟩ K = (dOk N d = true ∧ (evP P h (ev env) (.index t x i)).1 ∧ runQ P N ds l ⟨putE env d (evP P h (ev env) (.index t x i)).2, h⟩ K) := rq_pure rfl
@[simp] theorem rq_index_g {t : TypeId} {x i : Operand} : runQ P N ds ((false, ⟨d, .index t x i, ty, pos, af, some (j, wt)⟩) :: l) ⟨env, h⟩ K = (dOk N d = true ∧ gQ P N ds l d env h K (gval ds env (some (j, wt))) (evP P h (ev env) (.index t x i)).1 (evP P h (ev env) (.index t x i)).2) := rq_pure_g rfl
@[simp] theorem rq_slice {t : TypeId} {x : Operand} {lo hi : Option Operand} : runQ P N ds ((false, ⟨d, .slice t x lo hi none, ty, pos, af, none⟩) :: l) ⟨env, h⟩ K = (dOk N d = true ∧ (evP P h (ev env) (.slice t x lo hi none)).1 ∧ runQ P N ds l ⟨putE env d (evP P h (ev env) (.slice t x lo hi none)).2, h⟩ K) := rq_pure rfl
@[simp] theorem rq_slice_g {t : TypeId} {x : Operand} {lo hi : Option Operand} : runQ P N ds ((false, ⟨d, .slice t x lo hi none, ty, pos, af, some (j, wt)⟩) :: l) ⟨env, h⟩ K = (dOk N d = true ∧ gQ P N ds l d env h K (gval ds env (some (j, wt))) (evP P h (ev env) (.slice t x lo hi none)).1 (evP P h (ev env) (.slice t x lo hi none)).2) := rq_pure_g rfl
@[simp] theorem rq_extract {x : Operand} {i : Nat} : runQ P N ds ((false, ⟨d, .extract x i, ty, pos, af, none⟩) :: l) ⟨env, h⟩ K = (dOk N d = true ∧ (evP P h (ev env) (.extract x i)).1 ∧ runQ P N ds l ⟨putE env d (evP P h (ev env) (.extract x i)).2, h⟩ K) := rq_pure rfl
@[simp] theorem rq_extract_g {x : Operand} {i : Nat} : runQ P N ds ((false, ⟨d, .extract x i, ty, pos, af, some (j, wt)⟩) :: l) ⟨env, h⟩ K = (dOk N d = true ∧ gQ P N ds l d env h K (gval ds env (some (j, wt))) (evP P h (ev env) (.extract x i)).1 (evP P h (ev env) (.extract x i)).2) := rq_pure_g rfl
@[simp] theorem rq_binOp {op : BinOp} {t : TypeId} {x y : Operand} {yt : TypeId} : runQ P N ds ((false, ⟨d, .binOp op t x y yt, ty, pos, af, none⟩) :: l) ⟨env, h⟩ K = (dOk N d = true ∧ (evP P h (ev env) (.binOp op t x y yt)).1 ∧ runQ P N ds l ⟨putE env d (evP P h (ev env) (.binOp op t x y yt)).2, h⟩ K) := rq_pure rfl
@[simp] theorem rq_binOp_g {op : BinOp} {t : TypeId} {x y : Operand} {yt : TypeId} : runQ P N ds ((false, ⟨d, .binOp op t x y yt, ty, pos, af, some (j, wt)⟩) :: l) ⟨env, h⟩ K = (dOk N d = true ∧ gQ P N ds l d env h K (gval ds env (some (j, wt))) (evP P h (ev env) (.binOp op t x y yt)).1 (evP P h (ev env) (.binOp op t x y yt)).2) := rq_pure_g rfl
@[simp] theorem rq_unOp {op : UnOp} {t : TypeId} {x : Operand} : runQ P N ds ((false, ⟨d, .unOp op t x, ty, pos, af, none⟩) :: l) ⟨env, h⟩ K = (dOk N d = true ∧ (evP P h (ev env) (.unOp op t x)).1 ∧ runQ P N ds l ⟨putE env d (evP P h (ev env) (.unOp op t x)).2, h⟩ K) := rq_pure rfl
@[simp] theorem rq_unOp_g {op : UnOp} {t : TypeId} {x : Operand} : runQ P N ds ((false, ⟨d, .unOp op t x, ty, pos, af, some (j, wt)⟩) :: l) ⟨env, h⟩ K = (dOk N d = true ∧ gQ P N ds l d env h K (gval ds env (some (j, wt))) (evP P h (ev env) (.unOp op t x)).1 (evP P h (ev env) (.unOp op t x)).2) := rq_pure_g rfl
@[simp] theorem rq_convert {s t : TypeId} {x : Operand} : runQ P N ds ((false, ⟨d, .convert s t x, ty, pos, af, none⟩) :: l) ⟨env, h⟩ K = (dOk N d = true ∧ (evP P h (ev env) (.convert s t x)).1 ∧ runQ P N ds l ⟨putE env d (evP P h (ev env) (.convert s t x)).2, h⟩ K) := rq_pure rfl
@[simp] theorem rq_convert_g {s t : TypeId} {x : Operand} : runQ P N ds ((false, ⟨d, .convert s t x, ty, pos, af, some (j, wt)⟩) :: l) ⟨env, h⟩ K = (dOk N d = true ∧ gQ P N ds l d env h K (gval ds env (some (j, wt))) (evP P h (ev env) (.convert s t x)).1 (evP P h (ev env) (.convert s t x)).2) := rq_pure_g rfl
@[simp] theorem rq_nilCheck {x : Operand} : runQ P N ds ((false, ⟨d, .nilCheck x, ty, pos, af, none⟩) :: l) ⟨env, h⟩ K = (dOk N d = true ∧ (evP P h (ev env) (.nilCheck x)).1 ∧ runQ P N ds l ⟨putE env d (evP P h (ev env) (.nilCheck x)).2, h⟩ K) := rq_pure rfl
@[simp] theorem rq_nilCheck_g {x : Operand} : runQ P N ds ((false, ⟨d, .nilCheck x, ty, pos, af, some (j, wt)⟩) :: l) ⟨env, h⟩ K = (dOk N d = true ∧ gQ P N ds l d env h K (gval ds env (some (j, wt))) (evP P h (ev env) (.nilCheck x)).1 (evP P h (ev env) (.nilCheck x)).2) := rq_pure_g rfl
@[simp] theorem rq_build {t : TypeId} {ps : Array (Nat × Operand)} : runQ P N ds ((false, ⟨d, .build t ps, ty, pos, af, none⟩) :: l) ⟨env, h⟩ K = (dOk N d = true ∧ (evP P h (ev env) (.build t ps)).1 ∧ runQ P N ds l ⟨putE env d (evP P h (ev env) (.build t ps)).2, h⟩ K) := rq_pure rfl
@[simp] theorem rq_build_g {t : TypeId} {ps : Array (Nat × Operand)} : runQ P N ds ((false, ⟨d, .build t ps, ty, pos, af, some (j, wt)⟩) :: l) ⟨env, h⟩ K = (dOk N d = true ∧ gQ P N ds l d env h K (gval ds env (some (j, wt))) (evP P h (ev env) (.build t ps)).1 (evP P h (ev env) (.build t ps)).2) := rq_pure_g rfl
@[simp] theorem rq_makeFunc {fn : Go.Fn} {fi ca : Array Operand} : runQ P N ds ((false, ⟨d, .makeFunc fn fi ca, ty, pos, af, none⟩) :: l) ⟨env, h⟩ K = (dOk N d = true ∧ (evP P h (ev env) (.makeFunc fn fi ca)).1 ∧ runQ P N ds l ⟨putE env d (evP P h (ev env) (.makeFunc fn fi ca)).2, h⟩ K) := rq_pure rfl
@[simp] theorem rq_makeFunc_g {fn : Go.Fn} {fi ca : Array Operand} : runQ P N ds ((false, ⟨d, .makeFunc fn fi ca, ty, pos, af, some (j, wt)⟩) :: l) ⟨env, h⟩ K = (dOk N d = true ∧ gQ P N ds l d env h K (gval ds env (some (j, wt))) (evP P h (ev env) (.makeFunc fn fi ca)).1 (evP P h (ev env) (.makeFunc fn fi ca)).2) := rq_pure_g rfl
@[simp] theorem rq_len {x : Operand} {t : TypeId} : runQ P N ds ((false, ⟨d, .call ⟨.builtin .len, #[x], #[t]⟩, ty, pos, af, none⟩) :: l) ⟨env, h⟩ K = (dOk N d = true ∧ (evP P h (ev env) (.call ⟨.builtin .len, #[x], #[t]⟩)).1 ∧ runQ P N ds l ⟨putE env d (evP P h (ev env) (.call ⟨.builtin .len, #[x], #[t]⟩)).2, h⟩ K) := rq_pure rfl
@[simp] theorem rq_len_g {x : Operand} {t : TypeId} : runQ P N ds ((false, ⟨d, .call ⟨.builtin .len, #[x], #[t]⟩, ty, pos, af, some (j, wt)⟩) :: l) ⟨env, h⟩ K = (dOk N d = true ∧ gQ P N ds l d env h K (gval ds env (some (j, wt))) (evP P h (ev env) (.call ⟨.builtin .len, #[x], #[t]⟩)).1 (evP P h (ev env) (.call ⟨.builtin .len, #[x], #[t]⟩)).2) := rq_pure_g rfl
@[simp] theorem rq_min {x y : Operand} {ts : Array TypeId} : runQ P N ds ((false, ⟨d, .call ⟨.builtin .min, #[x, y], ts⟩, ty, pos, af, none⟩) :: l) ⟨env, h⟩ K = (dOk N d = true ∧ (evP P h (ev env) (.call ⟨.builtin .min, #[x, y], ts⟩)).1 ∧ runQ P N ds l ⟨putE env d (evP P h (ev env) (.call ⟨.builtin .min, #[x, y], ts⟩)).2, h⟩ K) := rq_pure rfl
@[simp] theorem rq_min_g {x y : Operand} {ts : Array TypeId} : runQ P N ds ((false, ⟨d, .call ⟨.builtin .min, #[x, y], ts⟩, ty, pos, af, some (j, wt)⟩) :: l) ⟨env, h⟩ K = (dOk N d = true ∧ gQ P N ds l d env h K (gval ds env (some (j, wt))) (evP P h (ev env) (.call ⟨.builtin .min, #[x, y], ts⟩)).1 (evP P h (ev env) (.call ⟨.builtin .min, #[x, y], ts⟩)).2) := rq_pure_g rfl
@[simp] theorem rq_max {x y : Operand} {ts : Array TypeId} : runQ P N ds ((false, ⟨d, .call ⟨.builtin .max, #[x, y], ts⟩, ty, pos, af, none⟩) :: l) ⟨env, h⟩ K = (dOk N d = true ∧ (evP P h (ev env) (.call ⟨.builtin .max, #[x, y], ts⟩)).1 ∧ runQ P N ds l ⟨putE env d (evP P h (ev env) (.call ⟨.builtin .max, #[x, y], ts⟩)).2, h⟩ K) := rq_pure rfl
@[simp] theorem rq_max_g {x y : Operand} {ts : Array TypeId} : runQ P N ds ((false, ⟨d, .call ⟨.builtin .max, #[x, y], ts⟩, ty, pos, af, some (j, wt)⟩) :: l) ⟨env, h⟩ K = (dOk N d = true ∧ gQ P N ds l d env h K (gval ds env (some (j, wt))) (evP P h (ev env) (.call ⟨.builtin .max, #[x, y], ts⟩)).1 (evP P h (ev env) (.call ⟨.builtin .max, #[x, y], ts⟩)).2) := rq_pure_g rfl
@[simp] theorem rq_alloc {t : TypeId} : runQ P N ds ((true, ⟨d, .alloc t, ty, pos, af, none⟩) :: l) ⟨env, h⟩ K = (dOk N d = true ∧ (evA P (ev env) (.alloc t)).ok ∧ runQ P N ds l ⟨putE env d ((evA P (ev env) (.alloc t)).val h.length), h ++ [some (evA P (ev env) (.alloc t)).blk]⟩ K) := rqa rfl
@[simp] theorem rq_box {t : TypeId} {x : Operand} : runQ P N ds ((true, ⟨d, .box t x, ty, pos, af, none⟩) :: l) ⟨env, h⟩ K = (dOk N d = true ∧ (evA P (ev env) (.box t x)).ok ∧ runQ P N ds l ⟨putE env d ((evA P (ev env) (.box t x)).val h.length), h ++ [some (evA P (ev env) (.box t x)).blk]⟩ K) := rqa rfl
@[simp] theorem rq_buildSlice {t : TypeId} {n : Nat} {ps : Array (Nat × Operand)} : runQ P N ds ((true, ⟨d, .buildSlice t n ps, ty, pos, af, none⟩) :: l) ⟨env, h⟩ K = (dOk N d = true ∧ (evA P (ev env) (.buildSlice t n ps)).ok ∧ runQ P N ds l ⟨putE env d ((evA P (ev env) (.buildSlice t n ps)).val h.length), h ++ [some (evA P (ev env) (.buildSlice t n ps)).blk]⟩ K) := rqa rfl
@[simp] theorem rq_makeSlice {t : TypeId} {lo c : Operand} : runQ P N ds ((true, ⟨d, .makeSlice t lo c, ty, pos, af, none⟩) :: l) ⟨env, h⟩ K = (dOk N d = true ∧ (evA P (ev env) (.makeSlice t lo c)).ok ∧ runQ P N ds l ⟨putE env d ((evA P (ev env) (.makeSlice t lo c)).val h.length), h ++ [some (evA P (ev env) (.makeSlice t lo c)).blk]⟩ K) := rqa rfl
end
end HK
