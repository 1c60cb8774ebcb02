import Derived.Test.YtdhoappjadnhcaaGreatG2
/-
  My own texts (road H): HK27 HK28 HK29 HK30 HK31 HK32 HK33 HK34.
-/
set_option maxHeartbeats 8000000
namespace HK
open Go
section
variable {P : Program} {N : Sz} {ds : List (Option Tmp)} {l : List (Bool × Oper)} {K : St → Prop} {d : Option Tmp} {op : Op} {ty : TypeId} {pos : String} {af : Array Edge} {env : Env} {h : Heap} {j : Nat} {wt c : Bool} {st : St}
@[simp] theorem rq_nil : runQ P N ds [] st K = K st := rfl
theorem rq_pure (hc : cls op = .pure) : runQ P N ds ((false, ⟨d, op, ty, pos, af, none⟩) :: l) ⟨env, h⟩ K = (dOk N d = true ∧ (evP P h (ev env) op).1 ∧ runQ P N ds l ⟨putE env d (evP P h (ev env) op).2, h⟩ K) := by
  simp [runQ, Q1, gval, hc]
theorem rqa (hc : cls op = .alloc) : runQ P N ds ((true, ⟨d, op, ty, pos, af, none⟩) :: l) ⟨env, h⟩ K = (dOk N d = true ∧ (evA P (ev env) op).ok ∧ runQ P N ds l ⟨putE env d ((evA P (ev env) op).val h.length), h ++ [some (evA P (ev env) op).blk]⟩ K) := by
  simp [runQ, Q1, gval, hc]
def gQ (P : Program) (N : Sz) (ds : List (Option Tmp)) (l : List (Bool × Oper)) (d : Option Tmp) (env : Env) (h : Heap) (K : St → Prop) (gv : GV) (ok : Prop) (v : AV) : Prop := match gv with
  | .on g => (g = true → ok) ∧ runQ P N ds l ⟨putE env d (.cond g v), h⟩ K
  | _ => False
@[simp] theorem gQ_on {g : Bool} {ok : Prop} {v : AV} : gQ P N ds l d env h K (.on g) ok v = ((g = true → ok) ∧ runQ P N ds l ⟨putE env d (.cond g v), h⟩ K) := rfl
theorem gval_some {x : GV} (hg : gval ds env (some (j, wt)) = x) : x ≠ .free := by
  subst hg; unfold gval; simp only; split
  · split <;> simp
  · simp
theorem rq_pure_g (hc : cls op = .pure) : runQ P N ds ((false, ⟨d, op, ty, pos, af, some (j, wt)⟩) :: l) ⟨env, h⟩ K = (dOk N d = true ∧ gQ P N ds l d env h K (gval ds env (some (j, wt))) (evP P h (ev env) op).1 (evP P h (ev env) op).2) := by
  simp only [runQ, Q1]
  cases hg : gval ds env (some (j, wt)) with
  | free => exact absurd rfl (gval_some hg)
  | bad => simp [gQ]
  | on g => simp [gQ, hc]
def CallQ (P : Program) (N : Sz) (ds : List (Option Tmp)) (l : List (Bool × Oper)) (d : Option Tmp) (env : Env) (h : Heap) (K : St → Prop) (fid : FuncId) (as : List AV) : Prop :=
  ∃ out, Fn P fid (as.map (viewN h 6)) out ∧ runQ P N ds l ⟨putE env d (viewN [] 6 out), h⟩ K
def CallQI (P : Program) (N : Sz) (ds : List (Option Tmp)) (l : List (Bool × Oper)) (d : Option Tmp) (env : Env) (h : Heap) (K : St → Prop) (fid : FuncId) (as : List AV) : Prop :=
  ∃ out, Fn P fid (as.map (viewN h 6)) out ∧ okI out = true ∧ runQ P N ds l ⟨putE env d (imp h.length out).1, h ++ (imp h.length out).2.map some⟩ K
def CallQG (P : Program) (N : Sz) (ds : List (Option Tmp)) (l : List (Bool × Oper)) (d : Option Tmp) (env : Env) (h : Heap) (K : St → Prop) (fid : FuncId) (g : Bool) (gks : Prop) (as : List AV) : Prop :=
  ∃ out, (g = true → gks ∧ Fn P fid (as.map (viewN h 6)) out) ∧ runQ P N ds l ⟨putE env d (.cond g (viewN [] 6 out)), h⟩ K
def gCallQ (P : Program) (N : Sz) (ds : List (Option Tmp)) (l : List (Bool × Oper)) (d : Option Tmp) (env : Env) (h : Heap) (K : St → Prop) (fid : FuncId) (gv : GV) (gks : Prop) (as : List AV) : Prop := match gv with
  | .on g => CallQG P N ds l d env h K fid g gks as
  | _ => False
@[simp] theorem gCallQ_on {fid : FuncId} {g : Bool} {gks : Prop} {as : List AV} : gCallQ P N ds l d env h K fid (.on g) gks as = CallQG P N ds l d env h K fid g gks as := rfl
theorem CallQ.fz {fid : FuncId} {as : List AV} {out : AV} (hf : Fn P fid (as.map (viewN h 6)) out) (k : runQ P N ds l ⟨putE env d (viewN [] 6 out), h⟩ K) : CallQ P N ds l d env h K fid as := ⟨out, hf, k⟩
theorem CallQI.im {fid : FuncId} {as : List AV} {out : AV} (hf : Fn P fid (as.map (viewN h 6)) out) (hok : okI out = true) (k : runQ P N ds l ⟨putE env d (imp h.length out).1, h ++ (imp h.length out).2.map some⟩ K) : CallQI P N ds l d env h K fid as := ⟨out, hf, hok, k⟩
theorem CallQG.fz {fid : FuncId} {as : List AV} {out : AV} {g : Bool} {gks : Prop} (hg : g = true → gks) (hf : g = true → Fn P fid (as.map (viewN h 6)) out) (k : runQ P N ds l ⟨putE env d (.cond g (viewN [] 6 out)), h⟩ K) : CallQG P N ds l d env h K fid g gks as :=
  ⟨out, fun e => ⟨hg e, hf e⟩, k⟩
@[simp] theorem rq_call {f : FuncId} {args : Array Operand} {ats : Array TypeId} : runQ P N ds ((false, ⟨d, .call ⟨.value (.func f), args, ats⟩, ty, pos, af, none⟩) :: l) ⟨env, h⟩ K =
    (dOk N d = true ∧ allGk (ev env) args.toList ∧ CallQ P N ds l d env h K f (args.toList.map fun x => st1 (ev env x))) := by
  simp [runQ, Q1, gval, cls, clsC, calleeOf, calleeGk, ev, st1, gk, CallQ]
@[simp] theorem rq_call_i {f : FuncId} {args : Array Operand} {ats : Array TypeId} : runQ P N ds ((true, ⟨d, .call ⟨.value (.func f), args, ats⟩, ty, pos, af, none⟩) :: l) ⟨env, h⟩ K =
    (dOk N d = true ∧ allGk (ev env) args.toList ∧ CallQI P N ds l d env h K f (args.toList.map fun x => st1 (ev env x))) := by
  simp [runQ, Q1, gval, cls, clsC, calleeOf, calleeGk, ev, st1, gk, CallQI]
@[simp] theorem rq_call_g {f : FuncId} {args : Array Operand} {ats : Array TypeId} : runQ P N ds ((false, ⟨d, .call ⟨.value (.func f), args, ats⟩, ty, pos, af, some (j, wt)⟩) :: l) ⟨env, h⟩ K =
    (dOk N d = true ∧ gCallQ P N ds l d env h K f (gval ds env (some (j, wt))) (allGk (ev env) args.toList) (args.toList.map fun x => st1 (ev env x))) := by
  simp only [runQ, Q1]
  cases hg : gval ds env (some (j, wt)) with
  | free => exact absurd rfl (gval_some hg)
  | bad => simp [gCallQ]
  | on g => simp [gCallQ, CallQG, cls, clsC, calleeOf, calleeGk, ev, st1, gk]
variable {ops : List Oper} {r : List PSeg}
@[simp] theorem rd_nil : runD P N ops ds [] st K = K st := rfl
@[simp] theorem rd_q {m : List (Nat × Bool)} : runD P N ops ds (.q m :: r) st K = runQ P N ds (m.filterMap fun x => (ops[x.1]?).map fun o => (x.2, o)) st (fun s => runD P N ops ds r s K) := rfl
@[simp] theorem rd_w {m : List (Nat × Bool)} {i x : Nat} : runD P N ops ds (.w m i x :: r) st K = (match ops[i]? with | some o => runQ P N ds ((m ++ [(x, false)]).filterMap fun x => (ops[x.1]?).map fun o => (x.2, o)) st (fun s => runA P N ds [o] s fun s => runD P N ops ds r s K) | none => False) := by
  first
  | (simp only [runD]; done)
  | (simp only [runD]; rfl)
@[simp] theorem rd_b {i : Nat} : runD P N ops ds (.b i :: r) st K = (match ops[i]? with | some o => runA P N ds [o] st (fun s => runD P N ops ds r s K) | none => False) := by
  simp only [runD]; rfl
@[simp] theorem rq_move {x : Operand} : runQ P N ds ((false, ⟨d, .move x, ty, pos, af, none⟩) :: l) ⟨env, h⟩ K = (dOk N d = true ∧ (evP P h (ev env) (.move x)).1 ∧ runQ P N ds l ⟨putE env d (evP P h (ev env) (.move x)).2, h⟩ K) := rq_pure rfl
@[simp] theorem rq_move_g {x : Operand} : runQ P N ds ((false, ⟨d, .move x, ty, pos, af, some (j, wt)⟩) :: l) ⟨env, h⟩ K = (dOk N d = true ∧ gQ P N ds l d env h K (gval ds env (some (j, wt))) (evP P h (ev env) (.move x)).1 (evP P h (ev env) (.move x)).2) := rq_pure_g rfl
@[simp] theorem rq_assign {x : Operand} : runQ P N ds ((false, ⟨d, .assign x, ty, pos, af, none⟩) :: l) ⟨env, h⟩ K = (dOk N d = true ∧ (evP P h (ev env) (.assign x)).1 ∧ runQ P N ds l ⟨putE env d (evP P h (ev env) (.assign x)).2, h⟩ K) := rq_pure rfl
@[simp] theorem rq_assign_g {x : Operand} : runQ P N ds ((false, ⟨d, .assign x, ty, pos, af, some (j, wt)⟩) :: l) ⟨env, h⟩ K = (dOk N d = true ∧ gQ P N ds l d env h K (gval ds env (some (j, wt))) (evP P h (ev env) (.assign x)).1 (evP P h (ev env) (.assign x)).2) := rq_pure_g rfl
@[simp] theorem rq_pick {c a b : Operand} : runQ P N ds ((false, ⟨d, .pick c a b, ty, pos, af, none⟩) :: l) ⟨env, h⟩ K = (dOk N d = true ∧ (evP P h (ev env) (.pick c a b)).1 ∧ runQ P N ds l ⟨putE env d (evP P h (ev env) (.pick c a b)).2, h⟩ K) := rq_pure rfl
@[simp] theorem rq_pick_g {c a b : Operand} : runQ P N ds ((false, ⟨d, .pick c a b, ty, pos, af, some (j, wt)⟩) :: l) ⟨env, h⟩ K = (dOk N d = true ∧ gQ P N ds l d env h K (gval ds env (some (j, wt))) (evP P h (ev env) (.pick c a b)).1 (evP P h (ev env) (.pick c a b)).2) := rq_pure_g rfl
@[simp] theorem rq_load {t : TypeId} {x : Operand} : runQ P N ds ((false, ⟨d, .load t x, ty, pos, af, none⟩) :: l) ⟨env, h⟩ K = (dOk N d = true ∧ (evP P h (ev env) (.load t x)).1 ∧ runQ P N ds l ⟨putE env d (evP P h (ev env) (.load t x)).2, h⟩ K) := rq_pure rfl
@[simp] theorem rq_load_g {t : TypeId} {x : Operand} : runQ P N ds ((false, ⟨d, .load t x, ty, pos, af, some (j, wt)⟩) :: l) ⟨env, h⟩ K = (dOk N d = true ∧ gQ P N ds l d env h K (gval ds env (some (j, wt))) (evP P h (ev env) (.load t x)).1 (evP P h (ev env) (.load t x)).2) := rq_pure_g rfl
@[simp] theorem rq_fieldAddr {t : TypeId} {x : Operand} {f : Nat} : runQ P N ds ((false, ⟨d, .fieldAddr t x f, ty, pos, af, none⟩) :: l) ⟨env, h⟩ K = (dOk N d = true ∧ (evP P h (ev env) (.fieldAddr t x f)).1 ∧ runQ P N ds l ⟨putE env d (evP P h (ev env) (.fieldAddr t x f)).2, h⟩ K) := rq_pure rfl
@[simp] theorem rq_field {t : TypeId} {x : Operand} {f : Nat} : runQ P N ds ((false, ⟨d, .field t x f, ty, pos, af, none⟩) :: l) ⟨env, h⟩ K = (dOk N d = true ∧ (evP P h (ev env) (.field t x f)).1 ∧ runQ P N ds l ⟨putE env d (evP P h (ev env) (.field t x f)).2, h⟩ K) := rq_pure rfl
@[simp] theorem rq_fieldAddr_g {t : TypeId} {x : Operand} {f : Nat} : runQ P N ds ((false, ⟨d, .fieldAddr t x f, ty, pos, af, some (j, wt)⟩) :: l) ⟨env, h⟩ K = (dOk N d = true ∧ gQ P N ds l d env h K (gval ds env (some (j, wt))) (evP P h (ev env) (.fieldAddr t x f)).1 (evP P h (ev env) (.fieldAddr t x f)).2) := rq_pure_g rfl
@[simp] theorem rq_field_g {t : TypeId} {x : Operand} {f : Nat} : runQ P N ds ((false, ⟨d, .field t x f, ty, pos, af, some (j, wt)⟩) :: l) ⟨env, h⟩ K = (dOk N d = true ∧ gQ P N ds l d env h K (gval ds env (some (j, wt))) (evP P h (ev env) (.field t x f)).1 (evP P h (ev env) (.field t x f)).2) := rq_pure_g rfl
@[simp] theorem rq_indexAddr {t : TypeId} {x i : Operand} : runQ P N ds ((false, ⟨d, .indexAddr t x i, ty, pos, af, none⟩) :: l) ⟨env, h⟩ K = (dOk N d = true ∧ (evP P h (ev env) (.indexAddr t x i)).1 ∧ runQ P N ds l ⟨putE env d (evP P h (ev env) (.indexAddr t x i)).2, h⟩ K) := rq_pure rfl
@[simp] theorem rq_indexAddr_g {t : TypeId} {x i : Operand} : runQ P N ds ((false, ⟨d, .indexAddr t x i, ty, pos, af, some (j, wt)⟩) :: l) ⟨env, h⟩ K = (dOk N d = true ∧ gQ P N ds l d env h K (gval ds env (some (j, wt))) (evP P h (ev env) (.indexAddr t x i)).1 (evP P h (ev env) (.indexAddr t x i)).2) := rq_pure_g rfl
@[simp] theorem rq_index {t : TypeId} {x i : Operand} : runQ P N ds ((false, ⟨d, .index t x i, ty, pos, af, none⟩) :: l) ⟨env, h⟩ K = (dOk N d = true ∧ (evP P h (ev env) (.index t x i)).1 ∧ runQ P N ds l ⟨putE env d (evP P h (ev env) (.index t x i)).2, h⟩ K) := rq_pure rfl
@[simp] theorem rq_index_g {t : TypeId} {x i : Operand} : runQ P N ds ((false, ⟨d, .index t x i, ty, pos, af, some (j, wt)⟩) :: l) ⟨env, h⟩ K = (dOk N d = true ∧ gQ P N ds l d env h K (gval ds env (some (j, wt))) (evP P h (ev env) (.index t x i)).1 (evP P h (ev env) (.index t x i)).2) := rq_pure_g rfl
@[simp] theorem rq_slice {t : TypeId} {x : Operand} {lo hi : Option Operand} : runQ P N ds ((false, ⟨d, .slice t x lo hi none, ty, pos, af, none⟩) :: l) ⟨env, h⟩ K = (dOk N d = true ∧ (evP P h (ev env) (.slice t x lo hi none)).1 ∧ runQ P N ds l ⟨putE env d (evP P h (ev env) (.slice t x lo hi none)).2, h⟩ K) := rq_pure rfl
@[simp] theorem rq_slice_g {t : TypeId} {x : Operand} {lo hi : Option Operand} : runQ P N ds ((false, ⟨d, .slice t x lo hi none, ty, pos, af, some (j, wt)⟩) :: l) ⟨env, h⟩ K = (dOk N d = true ∧ gQ P N ds l d env h K (gval ds env (some (j, wt))) (evP P h (ev env) (.slice t x lo hi none)).1 (evP P h (ev env) (.slice t x lo hi none)).2) := rq_pure_g rfl
@[simp] theorem rq_extract {x : Operand} {i : Nat} : runQ P N ds ((false, ⟨d, .extract x i, ty, pos, af, none⟩) :: l) ⟨env, h⟩ K = (dOk N d = true ∧ (evP P h (ev env) (.extract x i)).1 ∧ runQ P N ds l ⟨putE env d (evP P h (ev env) (.extract x i)).2, h⟩ K) := rq_pure rfl
@[simp] theorem rq_extract_g {x : Operand} {i : Nat} : runQ P N ds ((false, ⟨d, .extract x i, ty, pos, af, some (j, wt)⟩) :: l) ⟨env, h⟩ K = (dOk N d = true ∧ gQ P N ds l d env h K (gval ds env (some (j, wt))) (evP P h (ev env) (.extract x i)).1 (evP P h (ev env) (.extract x i)).2) := rq_pure_g rfl
@[simp] theorem rq_binOp {op : BinOp} {t : TypeId} {x y : Operand} {yt : TypeId} : runQ P N ds ((false, ⟨d, .binOp op t x y yt, ty, pos, af, none⟩) :: l) ⟨env, h⟩ K = (dOk N d = true ∧ (evP P h (ev env) (.binOp op t x y yt)).1 ∧ runQ P N ds l ⟨putE env d (evP P h (ev env) (.binOp op t x y yt)).2, h⟩ K) := rq_pure rfl
@[simp] theorem rq_binOp_g {op : BinOp} {t : TypeId} {x y : Operand} {yt : TypeId} : runQ P N ds ((false, ⟨d, .binOp op t x y yt, ty, pos, af, some (j, wt)⟩) :: l) ⟨env, h⟩ K = (dOk N d = true ∧ gQ P N ds l d env h K (gval ds env (some (j, wt))) (evP P h (ev env) (.binOp op t x y yt)).1 (evP P h (ev env) (.binOp op t x y yt)).2) := rq_pure_g rfl
@[simp] theorem rq_unOp {op : UnOp} {t : TypeId} {x : Operand} : runQ P N ds ((false, ⟨d, .unOp op t x, ty, pos, af, none⟩) :: l) ⟨env, h⟩ K = (dOk N d = true ∧ (evP P h (ev env) (.unOp op t x)).1 ∧ runQ P N ds l ⟨putE env d (evP P h (ev env) (.unOp op t x)).2, h⟩ K) := rq_pure rfl
@[simp] theorem rq_unOp_g {op : UnOp} {t : TypeId} {x : Operand} : runQ P N ds ((false, ⟨d, .unOp op t x, ty, pos, af, some (j, wt)⟩) :: l) ⟨env, h⟩ K = (dOk N d = true ∧ gQ P N ds l d env h K (gval ds env (some (j, wt))) (evP P h (ev env) (.unOp op t x)).1 (evP P h (ev env) (.unOp op t x)).2) := rq_pure_g rfl
@[simp] theorem rq_convert {s t : TypeId} {x : Operand} : runQ P N ds ((false, ⟨d, .convert s t x, ty, pos, af, none⟩) :: l) ⟨env, h⟩ K = (dOk N d = true ∧ (evP P h (ev env) (.convert s t x)).1 ∧ runQ P N ds l ⟨putE env d (evP P h (ev env) (.convert s t x)).2, h⟩ K) := rq_pure rfl
@[simp] theorem rq_convert_g {s t : TypeId} {x : Operand} : runQ P N ds ((false, ⟨d, .convert s t x, ty, pos, af, some (j, wt)⟩) :: l) ⟨env, h⟩ K = (dOk N d = true ∧ gQ P N ds l d env h K (gval ds env (some (j, wt))) (evP P h (ev env) (.convert s t x)).1 (evP P h (ev env) (.convert s t x)).2) := rq_pure_g rfl
@[simp] theorem rq_nilCheck {x : Operand} : runQ P N ds ((false, ⟨d, .nilCheck x, ty, pos, af, none⟩) :: l) ⟨env, h⟩ K = (dOk N d = true ∧ (evP P h (ev env) (.nilCheck x)).1 ∧ runQ P N ds l ⟨putE env d (evP P h (ev env) (.nilCheck x)).2, h⟩ K) := rq_pure rfl
@[simp] theorem rq_nilCheck_g {x : Operand} : runQ P N ds ((false, ⟨d, .nilCheck x, ty, pos, af, some (j, wt)⟩) :: l) ⟨env, h⟩ K = (dOk N d = true ∧ gQ P N ds l d env h K (gval ds env (some (j, wt))) (evP P h (ev env) (.nilCheck x)).1 (evP P h (ev env) (.nilCheck x)).2) := rq_pure_g rfl
@[simp] theorem rq_build {t : TypeId} {ps : Array (Nat × Operand)} : runQ P N ds ((false, ⟨d, .build t ps, ty, pos, af, none⟩) :: l) ⟨env, h⟩ K = (dOk N d = true ∧ (evP P h (ev env) (.build t ps)).1 ∧ runQ P N ds l ⟨putE env d (evP P h (ev env) (.build t ps)).2, h⟩ K) := rq_pure rfl
@[simp] theorem rq_build_g {t : TypeId} {ps : Array (Nat × Operand)} : runQ P N ds ((false, ⟨d, .build t ps, ty, pos, af, some (j, wt)⟩) :: l) ⟨env, h⟩ K = (dOk N d = true ∧ gQ P N ds l d env h K (gval ds env (some (j, wt))) (evP P h (ev env) (.build t ps)).1 (evP P h (ev env) (.build t ps)).2) := rq_pure_g rfl
@[simp] theorem rq_makeFunc {fn : Go.Fn} {fi ca : Array Operand} : runQ P N ds ((false, ⟨d, .makeFunc fn fi ca, ty, pos, af, none⟩) :: l) ⟨env, h⟩ K = (dOk N d = true ∧ (evP P h (ev env) (.makeFunc fn fi ca)).1 ∧ runQ P N ds l ⟨putE env d (evP P h (ev env) (.makeFunc fn fi ca)).2, h⟩ K) := rq_pure rfl
@[simp] theorem rq_makeFunc_g {fn : Go.Fn} {fi ca : Array Operand} : runQ P N ds ((false, ⟨d, .makeFunc fn fi ca, ty, pos, af, some (j, wt)⟩) :: l) ⟨env, h⟩ K = (dOk N d = true ∧ gQ P N ds l d env h K (gval ds env (some (j, wt))) (evP P h (ev env) (.makeFunc fn fi ca)).1 (evP P h (ev env) (.makeFunc fn fi ca)).2) := rq_pure_g rfl
@[simp] theorem rq_len {x : Operand} {t : TypeId} : runQ P N ds ((false, ⟨d, .call ⟨.builtin .len, #[x], #[t]⟩, ty, pos, af, none⟩) :: l) ⟨env, h⟩ K = (dOk N d = true ∧ (evP P h (ev env) (.call ⟨.builtin .len, #[x], #[t]⟩)).1 ∧ runQ P N ds l ⟨putE env d (evP P h (ev env) (.call ⟨.builtin .len, #[x], #[t]⟩)).2, h⟩ K) := rq_pure rfl
@[simp] theorem rq_len_g {x : Operand} {t : TypeId} : runQ P N ds ((false, ⟨d, .call ⟨.builtin .len, #[x], #[t]⟩, ty, pos, af, some (j, wt)⟩) :: l) ⟨env, h⟩ K = (dOk N d = true ∧ gQ P N ds l d env h K (gval ds env (some (j, wt))) (evP P h (ev env) (.call ⟨.builtin .len, #[x], #[t]⟩)).1 (evP P h (ev env) (.call ⟨.builtin .len, #[x], #[t]⟩)).2) := rq_pure_g rfl
@[simp] theorem rq_min {x y : Operand} {ts : Array TypeId} : runQ P N ds ((false, ⟨d, .call ⟨.builtin .min, #[x, y], ts⟩, ty, pos, af, none⟩) :: l) ⟨env, h⟩ K = (dOk N d = true ∧ (evP P h (ev env) (.call ⟨.builtin .min, #[x, y], ts⟩)).1 ∧ runQ P N ds l ⟨putE env d (evP P h (ev env) (.call ⟨.builtin .min, #[x, y], ts⟩)).2, h⟩ K) := rq_pure rfl
@[simp] theorem rq_min_g {x y : Operand} {ts : Array TypeId} : runQ P N ds ((false, ⟨d, .call ⟨.builtin .min, #[x, y], ts⟩, ty, pos, af, some (j, wt)⟩) :: l) ⟨env, h⟩ K = (dOk N d = true ∧ gQ P N ds l d env h K (gval ds env (some (j, wt))) (evP P h (ev env) (.call ⟨.builtin .min, #[x, y], ts⟩)).1 (evP P h (ev env) (.call ⟨.builtin .min, #[x, y], ts⟩)).2) := rq_pure_g rfl
@[simp] theorem rq_max {x y : Operand} {ts : Array TypeId} : runQ P N ds ((false, ⟨d, .call ⟨.builtin .max, #[x, y], ts⟩, ty, pos, af, none⟩) :: l) ⟨env, h⟩ K = (dOk N d = true ∧ (evP P h (ev env) (.call ⟨.builtin .max, #[x, y], ts⟩)).1 ∧ runQ P N ds l ⟨putE env d (evP P h (ev env) (.call ⟨.builtin .max, #[x, y], ts⟩)).2, h⟩ K) := rq_pure rfl
@[simp] theorem rq_max_g {x y : Operand} {ts : Array TypeId} : runQ P N ds ((false, ⟨d, .call ⟨.builtin .max, #[x, y], ts⟩, ty, pos, af, some (j, wt)⟩) :: l) ⟨env, h⟩ K = (dOk N d = true ∧ gQ P N ds l d env h K (gval ds env (some (j, wt))) (evP P h (ev env) (.call ⟨.builtin .max, #[x, y], ts⟩)).1 (evP P h (ev env) (.call ⟨.builtin .max, #[x, y], ts⟩)).2) := rq_pure_g rfl
@[simp] theorem rq_alloc {t : TypeId} : runQ P N ds ((true, ⟨d, .alloc t, ty, pos, af, none⟩) :: l) ⟨env, h⟩ K = (dOk N d = true ∧ (evA P (ev env) (.alloc t)).ok ∧ runQ P N ds l ⟨putE env d ((evA P (ev env) (.alloc t)).val h.length), h ++ [some (evA P (ev env) (.alloc t)).blk]⟩ K) := rqa rfl
@[simp] theorem rq_box {t : TypeId} {x : Operand} : runQ P N ds ((true, ⟨d, .box t x, ty, pos, af, none⟩) :: l) ⟨env, h⟩ K = (dOk N d = true ∧ (evA P (ev env) (.box t x)).ok ∧ runQ P N ds l ⟨putE env d ((evA P (ev env) (.box t x)).val h.length), h ++ [some (evA P (ev env) (.box t x)).blk]⟩ K) := rqa rfl
@[simp] theorem rq_buildSlice {t : TypeId} {n : Nat} {ps : Array (Nat × Operand)} : runQ P N ds ((true, ⟨d, .buildSlice t n ps, ty, pos, af, none⟩) :: l) ⟨env, h⟩ K = (dOk N d = true ∧ (evA P (ev env) (.buildSlice t n ps)).ok ∧ runQ P N ds l ⟨putE env d ((evA P (ev env) (.buildSlice t n ps)).val h.length), h ++ [some (evA P (ev env) (.buildSlice t n ps)).blk]⟩ K) := rqa rfl
@[simp] theorem rq_makeSlice {t : TypeId} {lo c : Operand} : runQ P N ds ((true, ⟨d, .makeSlice t lo c, ty, pos, af, none⟩) :: l) ⟨env, h⟩ K = (dOk N d = true ∧ (evA P (ev env) (.makeSlice t lo c)).ok ∧ runQ P N ds l ⟨putE env d ((evA P (ev env) (.makeSlice t lo c)).val h.length), h ++ [some (evA P (ev env) (.makeSlice t lo c)).blk]⟩ K) := rqa rfl
end
end HK
namespace HK
open Go
def renN (ids : List Nat) : Nat → AV → AV
  | 0, v => v
  | d + 1, v => match v with
    | .sl id o l => .sl (ids.getD id 0) o l
    | .ptr id i j => .ptr (ids.getD id 0) i j
    | .agg cs => .agg (cs.map (renN ids d))
    | .tup cs => .tup (cs.map (renN ids d))
    | .fn f a b => .fn f (a.map (renN ids d)) (b.map (renN ids d))
    | .cond g v => .cond g (renN ids d v)
    | v => v
def renE (ids : List Nat) (env : Env) : Env → Prop
  | [] => True
  | (k, v) :: e => lk env k = renN ids 4 v ∧ renE ids env e
def renH (ids : List Nat) (h : Heap) : List Nat → Heap → Prop
  | [], [] => True
  | i :: is, y :: ys => (match y with | none => True | some b => h[i]? = some (some ⟨b.sz, b.es.map (List.map (renN ids 2))⟩)) ∧ renH ids h is ys
  | _, _ => False
theorem renE_lk {ids : List Nat} {env : Env} : ∀ {e : Env}, renE ids env e → ∀ t, lk env t = renN ids 4 (lk e t) ∨ lk e t = .undef
  | [], _, _ => .inr rfl
  | (k, v) :: e, h, t => by
    simp only [lk]; split
    · rename_i hk; subst hk; exact .inl h.1
    · exact renE_lk h.2 t
theorem renH_get {ids : List Nat} {h : Heap} : ∀ {is : List Nat} {h' : Heap}, renH ids h is h' → h'.length = is.length ∧ ∀ (j : Nat) (b : Blk), h'[j]? = some (some b) → ∃ i, is[j]? = some i ∧ h[i]? = some (some ⟨b.sz, b.es.map (List.map (renN ids 2))⟩)
  | [], [], _ => ⟨rfl, fun j b hb => by simp at hb⟩
  | i :: is, y :: ys, hr => by
    obtain ⟨h1, h2⟩ := renH_get hr.2; refine ⟨by simp [h1], fun j b hb => ?_⟩
    cases j with
    | zero =>
      simp at hb; subst hb
      exact ⟨i, by simp, hr.1⟩
    | succ j => simpa using h2 j b (by simpa using hb)
  | [], _ :: _, hr => hr.elim
  | _ :: _, [], hr => hr.elim
section
variable {w : World} {own : Nat → Prop} {n : Nat} {ids : List Nat}
theorem cr_ren {φ φ' : Refs} {f : AV → AV} {p : AV → Bool} (hf : ∀ v x S, VR w own φ (f v) x S → p v = true → VR w own φ' v x S) : ∀ {cs : List AV} {vs : List Value} {S : List Nat}, CR w own φ (cs.map f) vs S → cs.all p = true → CR w own φ' cs vs S
  | [], _, _, k, _ => by cases k; exact .nil
  | c :: cs, _, _, k, h => by
    rw [List.map_cons] at k; obtain ⟨v, us, S1, S2, rfl, rfl, k1, k2⟩ := k.uncons; simp only [List.all_cons, Bool.and_eq_true] at h; exact .cons _ _ _ _ _ _ (hf _ _ _ k1 h.1) (cr_ren hf k2 h.2)
theorem VR.ren : ∀ (d : Nat) {φ φ' : Refs} {v : AV} {x : Value} {S : List Nat}, (∀ j, j < n → φ' j = φ (ids.getD j 0)) → VR w own φ (renN ids d v) x S → lowN d n v = true → VR w own φ' v x S
  | 0, _, _, _, _, _, _, _, hl => by simp [lowN] at hl
  | d + 1, φ, φ', v, x, S, hφ, k, hl => by
    cases v with
    | sl id o l =>
      simp only [lowN, decide_eq_true_eq] at hl; simp only [renN] at k
      cases k with
      | sl0 _ _ r A hr => exact .sl0 id o r A ((hφ id hl).trans hr)
      | sl _ _ _ cap r hr hcap hlim => exact .sl id o l cap r ((hφ id hl).trans hr) hcap hlim
    | ptr id i j =>
      simp only [lowN, decide_eq_true_eq] at hl; simp only [renN] at k
      cases k with
      | ptr _ _ _ r hr => exact .ptr id i j r ((hφ id hl).trans hr)
    | agg cs =>
      simp only [lowN] at hl; simp only [renN] at k
      cases k with
      | agg _ vs _ hc => exact .agg _ _ _ (cr_ren (fun v x S k h => VR.ren d hφ k h) hc hl)
    | tup cs =>
      simp only [lowN] at hl; simp only [renN] at k
      cases k with
      | tup _ vs _ hc => exact .tup _ _ _ (cr_ren (fun v x S k h => VR.ren d hφ k h) hc hl)
    | fn f a b =>
      simp only [lowN, Bool.and_eq_true] at hl; simp only [renN] at k
      cases k with
      | fn _ _ _ fs cs hc hc' => exact .fn _ _ _ _ _ (cr_ren (fun v x S k h => VR.ren d hφ k h) hc hl.1) (cr_ren (fun v x S k h => VR.ren d hφ k h) hc' hl.2)
    | cond g v =>
      simp only [lowN] at hl; simp only [renN] at k
      cases k with
      | condT _ _ _ hv => exact .condT _ _ _ (VR.ren d hφ hv hl)
      | condF _ => exact .condF _
    | undef => cases k; exact .undef _
    | nil => cases k; exact .nil _
    | bool b => cases k; exact .bool _
    | int k' n' => simp only [renN] at k; cases k; exact .int _ _
    | str s => cases k; exact .str _
    | con v => cases k; exact .con _
    | fz es =>
      simp only [renN] at k
      cases k with
      | fz0 A cap => exact .fz0 A cap
      | fz _ sz A cap vs hlt ho hu hcap hs hc => exact .fz es sz A cap vs hlt ho hu hcap hs hc
    | own sz es =>
      simp only [renN] at k
      cases k with
      | own0 _ A => exact .own0 sz A
      | own _ _ rb o cap lim vs S hr hu hcap hlim hs hc => exact .own es sz rb o cap lim vs S hr hu hcap hlim hs hc
    | fptr es i j =>
      simp only [renN] at k
      cases k with
      | fptr _ sz A vs _ _ hlt ho hu hs hc => exact .fptr es sz A vs i j hlt ho hu hs hc
end
variable {N : Sz} {st : St}
theorem Wk.ren (ids : List Nat) {env' : Env} {h' : Heap} (h0 : N.b ≤ h'.length) (hfix : ∀ j, j < N.b → ids.getD j 0 = j) (hnd : ids.Nodup) (hlt : ∀ i ∈ ids, i < st.heap.length) (h1 : renE ids st.env env') (h2 : renH ids st.heap ids h')
    (h3 : lowE h'.length env' = true) (h4 : ∀ x ∈ h', lowB h'.length x = true) : Wk N st ⟨env', h'⟩ := by
  intro w0 B0 φ Ss a w hR; obtain ⟨hl, hg⟩ := renH_get h2
  let φ' : Refs := fun j => if j < h'.length then φ (ids.getD j 0) else none
  have hφ : ∀ j, j < h'.length → φ' j = φ (ids.getD j 0) := fun j hj => by simp only [φ']; rw [if_pos hj]
  let Ss' : List (List Nat) := ids.map fun i => Ss.getD i []
  have hmem : ∀ b, b ∈ Ss'.flatten → b ∈ Ss.flatten := fun b hb => by
    obtain ⟨S, hS, hbS⟩ := List.mem_flatten.1 hb; obtain ⟨i, hi, rfl⟩ := List.mem_map.1 hS; have hil : i < Ss.length := by rw [hR.len]; exact hlt i hi
    rw [List.getD_eq_getElem?_getD, List.getElem?_eq_getElem hil] at hbS; exact List.mem_flatten.2 ⟨_, List.getElem_mem hil, hbS⟩
  have hfz : ∀ b, b < w.heap.size → ¬ Own Ss b → ¬ Own Ss' b ∧ w.heap[b]? = w.heap[b]? := fun b _ ho => ⟨fun hb => ho (hmem b hb), rfl⟩
  have hdis := List.pairwise_flatten.1 hR.nodup
  have hnd' : Ss'.flatten.Nodup := by
    unfold List.Nodup; rw [List.pairwise_flatten]; refine ⟨fun S hS => ?_, ?_⟩
    · obtain ⟨i, hi, rfl⟩ := List.mem_map.1 hS
      have hil : i < Ss.length := by rw [hR.len]; exact hlt i hi
      rw [List.getD_eq_getElem?_getD, List.getElem?_eq_getElem hil]; exact hdis.1 _ (List.getElem_mem hil)
    · rw [List.pairwise_map]
      refine List.Pairwise.imp_of_mem ?_ hnd; intro i j hi hj hij x hx y hy; have hil : i < Ss.length := by rw [hR.len]; exact hlt i hi
      have hjl : j < Ss.length := by rw [hR.len]; exact hlt j hj
      rw [List.getD_eq_getElem?_getD, List.getElem?_eq_getElem hil] at hx; rw [List.getD_eq_getElem?_getD, List.getElem?_eq_getElem hjl] at hy; rcases Nat.lt_or_gt_of_ne hij with h | h
      · exact (List.pairwise_iff_getElem.1 hdis.2 i j hil hjl h) x hx y hy
      · exact fun e => (List.pairwise_iff_getElem.1 hdis.2 j i hjl hil h) y hy x hx e.symm
  refine ⟨φ', Ss', fun t => ?_, fun j b hb => ?_, by simp [Ss', hl], fun j hj => if_neg (Nat.not_lt.2 hj), hnd', fun b hb => hR.bound b (hmem b hb), hR.fr, hR.size, hR.defers, hR.cx, fun i r e => ?_⟩
  · have hv : VR w (Own Ss) φ' (lk env' t) (a.tmps.getD t Go.undef) [] := by
      rcases renE_lk h1 t with e | e
      · exact VR.ren 4 hφ (by rw [← e]; exact hR.env t) (lowE_lk h3 t)
      · rw [e]; exact .undef _
    exact hv.tr hfz (Nat.le_refl _) (fun _ _ e => e) (fun _ _ => rfl)
  · obtain ⟨i, k1, k2⟩ := hg j b hb
    have hjl : j < h'.length := (List.getElem?_eq_some_iff.1 hb).1
    obtain ⟨S, q1, q2⟩ := hR.heap i _ k2; have hgj : ids.getD j 0 = i := by rw [List.getD_eq_getElem?_getD, k1]; rfl
    refine ⟨S, by simp [Ss', k1, q1], ?_⟩; have hlow : (b.es.all fun e => e.all (lowN 2 h'.length)) = true := h4 _ (List.mem_of_getElem? hb)
    have hφj : φ' j = φ i := (hφ j hjl).trans (by rw [hgj])
    have q3 : BR w (Own Ss) φ' j b S := by
      rcases q2 with ⟨e1, e2, e3⟩ | ⟨r, vs, T, e1, e2, e3, e4, e5, e6, e7, e8⟩
      · exact .inl ⟨hφj.trans e1, by simpa using e2, e3⟩
      · refine .inr ⟨r, vs, T, hφj.trans e1, e2, e3, fun e he => ?_, by simpa using e5, e6, ?_, e8⟩
        · have := e4 _ (List.mem_map.2 ⟨e, he, rfl⟩)
          simpa using this
        · have e7' : CR w (Own Ss) φ (b.es.flatten.map (renN ids 2)) vs T := by
            rw [List.map_flatten]; exact e7
          refine cr_ren (fun v x S k h => VR.ren 2 hφ k h) e7' ?_; rw [List.all_eq_true] at hlow ⊢; intro v hv; obtain ⟨e, he, hve⟩ := List.mem_flatten.1 hv; exact List.all_eq_true.1 (hlow e he) v hve
    exact q3.tr hfz (Nat.le_refl _) (fun _ _ e => e) (fun _ _ => rfl)
  · have hi : i < N.b := by
      rcases Nat.lt_or_ge i N.b with hlt | hge
      · exact hlt
      · rw [hR.cx i hge] at e; cases e
    have : φ' i = φ i := (hφ i (by omega)).trans (by rw [hfix i hi])
    exact this.trans (hR.keep i r e)
section
variable {P : Program} {N : Sz} {ds : List (Option Tmp)} {rest : List Oper} {l : List (Bool × Oper)} {K : St → Prop} {d : Option Tmp} {env : Env} {h : Heap}
theorem CallK.fzE {fid : FuncId} {as as' : List AV} {out : AV} (hf : Fn P fid as' out) (he : as.map (viewN h 6) = as') (k : runA P N ds rest ⟨putE env d (viewN [] 6 out), h⟩ K) : CallK P N ds rest d env h K fid as := CallK.fz (by rw [he]; exact hf) k
theorem CallK.imE {fid : FuncId} {as as' : List AV} {out : AV} (hf : Fn P fid as' out) (he : as.map (viewN h 6) = as') (hok : okI out = true) (k : runA P N ds rest ⟨putE env d (imp h.length out).1, h ++ (imp h.length out).2.map some⟩ K) : CallK P N ds rest d env h K fid as :=
  CallK.im (by rw [he]; exact hf) hok k
theorem CallQ.fzE {fid : FuncId} {as as' : List AV} {out : AV} (hf : Fn P fid as' out) (he : as.map (viewN h 6) = as') (k : runQ P N ds l ⟨putE env d (viewN [] 6 out), h⟩ K) : CallQ P N ds l d env h K fid as := CallQ.fz (by rw [he]; exact hf) k
end
end HK
set_option linter.unusedSimpArgs false
set_option linter.unusedVariables false
namespace HK
open Go
def elemsN (h : Heap) : AV → Option (List (List AV))
  | .fz es => some es
  | .own _ es => some es
  | .nil => some []
  | .sl id off len => match hb h id with
    | some b => some ((b.es.drop off).take len)
    | none => none
  | _ => none
theorem nil_run {P : Program} {w : World} {t : TypeId} {A : Option Addr} {len cap : Nat} {e : TypeId} (ht : P.underlying t = some (.slice e)) (x y : Operand) :
    ((do eqGuard .eql t x y (.slice A len cap) (.slice none 0 0); binOp .eql t (.slice A len cap) (.slice none 0 0)) : Sem Value).run P w = .ok (.bool A.isNone) w := by
  have hu : (underlying t).run P w = .ok (.slice e) w := by
    simp [underlying, ht]
  have k1 : ∀ (d : Nat), (Op.equalIn (d + 1) t (.slice A len cap) (.slice none 0 0)).run P w = .ok A.isNone w := fun d => by
    cases A with
    | none =>
      rw [Op.equalIn]
      simp [hu]
    | some a =>
      rw [Op.equalIn]; simp [hu]
  have k2 : (Op.equalIn Op.maxDepth t (.slice A len cap) (.slice none 0 0)).run P w = .ok A.isNone w := k1 9999
  simp [eqGuard, binOp, Op.equal, k2]
section
variable {P : Program} {N : Sz} {w0 : World} {B0 : Cx} {φ : Refs} {Ss : List (List Nat)} {st : St} {a : Act} {w : World}
theorem runA_tail {ops : Array Oper} {Q : Exit → Act → World → Prop} {K : St → Prop} {tail : List Oper} (hK : ∀ st φ Ss a w, K st → Rel N w0 B0 φ Ss st a w → wpList P ops Q tail a w) :
    ∀ (l : List Oper) {φ : Refs} {Ss : List (List Nat)} {st : St} {a : Act} {w : World}, Rel N w0 B0 φ Ss st a w → runA P N (ops.toList.map (·.dst)) l st K → wpList P ops Q (l ++ tail) a w
  | [], _, _, _, _, _, h, hr => hK _ _ _ _ _ hr h
  | o :: rest, φ, Ss, st, a, w, h, hr => by
    have ih := fun {φ : Refs} {Ss : List (List Nat)} {st : St} {a : Act} {w : World} => runA_tail (ops := ops) (tail := tail) hK rest (φ := φ) (Ss := Ss) (st := st) (a := a) (w := w)
    simp only [runA] at hr; obtain ⟨hd, hr⟩ := hr; rw [List.cons_append]; unfold wpList
    cases hgv : gval (ops.toList.map (·.dst)) st.env o.guard with
    | bad => rw [hgv] at hr; exact hr.elim
    | free =>
      rw [hgv] at hr; simp only at hr; rw [if_pos (gval_free hgv)]
      left
      unfold Oper.wp
      cases hcl : cls o.op with
      | bad => rw [hcl] at hr; exact hr.elim
      | pure =>
        rw [hcl] at hr; simp only at hr; obtain ⟨y, hy, hv⟩ := pure_upon h hr.1; rw [hy]
        exact ih (h.put hd hv) hr.2
      | alloc =>
        rw [hcl] at hr; simp only at hr; obtain ⟨y, w', hy, hm⟩ := evA_sound (own := Own Ss) (φ := φ) (w := w) (o := o) (fun x _ => act_eval h x) hr.1; obtain ⟨φ', Ss', hR, hv⟩ := h.made hm; rw [hy]
        exact ih (hR.put hd hv) hr.2
      | store =>
        rw [hcl] at hr; simp only at hr; split at hr
        · rename_i t pa va hop
          obtain ⟨w', Ss', hrun, hR⟩ := store_sound (P := P) h (act_eval h pa) (act_eval h va) hr.1
          have : (execOp a.eval o).run P w = .ok .skip w' := by
            unfold execOp; rw [hop]; simp only [Sem.run_bind, hrun, Result.andThen_ok, Sem.run_pure]
          rw [this]; exact ih (hR.put hd (.undef _)) hr.2
        · exact hr.elim
      | app =>
        rw [hcl] at hr; simp only at hr; split at hr
        · rename_i c hop
          split at hr
          · rename_i s x t xt ha ht
            obtain ⟨y, w', φ', Ss', hrun, hR, hv⟩ := app_sound (P := P) (ty := o.type) h (act_eval h s) (act_eval h x) hr.1
            have : (execOp a.eval o).run P w = .ok (.value y) w' := by
              have hcc : c.callee = .builtin .append := by
                rw [hop] at hcl; obtain ⟨callee, args, ats⟩ := c; unfold cls clsC at hcl
                cases callee with
                | value _ => cases hcl
                | invoke _ _ => cases hcl
                | builtin b => cases b <;> first | rfl | (simp at hcl)
              obtain ⟨callee, args, ats⟩ := c; simp only at ha ht hcc; subst hcc; have ea : args = #[s, x] := by rw [← Array.toArray_toList (xs := args), ha]
              have et : ats = #[t, xt] := by rw [← Array.toArray_toList (xs := ats), ht]
              subst ea; subst et; unfold execOp; rw [hop]; simp [resolve, invoke, builtin, hrun]
            rw [this]; exact ih (hR.put hd hv) hr.2
          · exact hr.elim
        · exact hr.elim
      | clr =>
        rw [hcl] at hr; simp only at hr; split at hr
        · rename_i c hop
          split at hr
          · rename_i x t ha ht
            obtain ⟨w', Ss', hrun, hR⟩ := clr_sound (P := P) (ty := o.type) h (act_eval h x) hr.1
            have : (execOp a.eval o).run P w = .ok (.value (.tuple #[])) w' := by
              have hcc : c.callee = .builtin .clear := by
                rw [hop] at hcl; obtain ⟨callee, args, ats⟩ := c; unfold cls clsC at hcl
                cases callee with
                | value _ => cases hcl
                | invoke _ _ => cases hcl
                | builtin b => cases b <;> first | rfl | (simp at hcl)
              obtain ⟨callee, args, ats⟩ := c; simp only at ha ht hcc; subst hcc; have ea : args = #[x] := by rw [← Array.toArray_toList (xs := args), ha]
              have et : ats = #[t] := by rw [← Array.toArray_toList (xs := ats), ht]
              subst ea; subst et; unfold execOp; rw [hop]; simp [resolve, invoke, builtin, hrun]
            rw [this]; exact ih (hR.put hd (.undef _)) hr.2
          · exact hr.elim
        · exact hr.elim
      | call =>
        rw [hcl] at hr; simp only at hr; split at hr
        · rename_i c hop
          split at hr
          · rename_i fid as hc
            obtain ⟨vs, hrun, hcr⟩ := call_run h hop hc hr.1 hr.2.1; rw [hrun]; refine (hr.2.2 φ Ss w vs h.hp hcr).mono fun e w' ⟨v, out, h', φ', Ss', e1, e2, e3, e4, e5, e6, e7⟩ => ?_; subst e1; exact ih ((h.call e3 e5 e6 e7).put hd e4) e2
          · exact hr.elim
        · exact hr.elim
    | on g =>
      rw [hgv] at hr; simp only at hr; have hw := gval_on h hgv
      rw [hw]
      cases hcl : cls o.op with
      | bad => rw [hcl] at hr; exact hr.elim
      | alloc => rw [hcl] at hr; exact hr.elim
      | store => rw [hcl] at hr; exact hr.elim
      | app => rw [hcl] at hr; exact hr.elim
      | clr => rw [hcl] at hr; exact hr.elim
      | pure =>
        rw [hcl] at hr; simp only at hr
        cases g with
        | true =>
          rw [if_pos rfl]
          left
          obtain ⟨y, hy, hv⟩ := pure_upon h (hr.1 rfl); unfold Oper.wp; rw [hy]
          exact ih (h.put hd (.condT _ _ _ hv)) hr.2
        | false =>
          rw [if_neg (by simp)]
          exact ih (h.put hd (.condF _)) hr.2
      | call =>
        rw [hcl] at hr; simp only at hr; split at hr
        · rename_i c hop
          split at hr
          · rename_i fid as hc
            obtain ⟨out, hr1, hr2⟩ := hr
            cases g with
            | true =>
              rw [if_pos rfl]
              left
              obtain ⟨hg, hcs⟩ := hr1 rfl; obtain ⟨vs, hrun, hcr⟩ := call_run h hop hc hg hcs.1; unfold Oper.wp; rw [hrun]; refine (hcs.2 φ Ss w vs h.hp hcr).mono fun e w' ⟨v, out', h', φ', Ss', e1, e2, e3, e4, e5, e6, e7⟩ => ?_
              obtain ⟨rfl, rfl⟩ := e2; subst e1
              exact ih ((h.call e3 e5 e6 e7).put hd (.condT _ _ _ e4)) hr2
            | false =>
              rw [if_neg (by simp)]; exact ih (h.put hd (.condF _)) hr2
          · exact hr.elim
        · exact hr.elim
theorem elemsN_isNone (_ : Rel N w0 B0 φ Ss st a w) {v : AV} {x : Value} (hv : VR w (Own Ss) φ v x []) {es : List (List AV)} (he : elemsN st.heap v = some es) : ∃ A len cap, x = .slice A len cap ∧ (A.isNone = true → es = []) := by
  cases hv with
  | fz0 A cap => cases he; exact ⟨A, 0, cap, rfl, fun _ => rfl⟩
  | fz es' sz A cap vs hlt ho hu hcap hs h => exact ⟨some A, _, cap, rfl, fun e => by cases e⟩
  | nil A => cases he; exact ⟨A, 0, 0, rfl, fun _ => rfl⟩
  | own0 sz A => cases he; exact ⟨A, 0, 0, rfl, fun _ => rfl⟩
  | sl0 id off r A h =>
    refine ⟨A, 0, 0, rfl, fun _ => ?_⟩; simp only [elemsN] at he; split at he
    · simpa using he.symm
    · cases he
  | sl id off len cap r h hcap hlim => exact ⟨some _, _, _, rfl, fun e => by cases e⟩
  | _ => simp [elemsN] at he
def nilK (P : Program) (N : Sz) (K : St → Prop) (o : Option Oper) (s : St) : Prop := match o with
  | some ⟨d, .binOp .eql t x (.const (.slice none 0 0)) _, _, _, _, none⟩ => dOk N d = true ∧ gk (ev s.env x) ∧ (tel P t).isSome = true ∧ match elemsN s.heap (st1 (ev s.env x)) with
    | some es => ∀ b : Bool, (b = true → es = []) → K ⟨putE s.env d (.bool b), s.heap⟩
    | none => False
  | _ => False
theorem SW.regionNil {id : Nat} {ls : List Oper} {y : Code} {Q : Exit → St → Prop} (h : ∀ K : St → Prop, (∀ st, SW P N y Q st → K st) → runA P N (ls.map (·.dst)) ls.dropLast st (nilK P N K ls.getLast?)) : SW P N (.seq (.region id ls.toArray false) y) Q st := by
  refine SW.seq fun w0 B0 φ Ss a w hR => wp_region_lit ?_; have h1 := h _ fun _ h => h
  have hne : ls ≠ [] := fun e => by
    subst e; simp [nilK] at h1
  obtain ⟨o, ho, hsp⟩ : ∃ o, ls.getLast? = some o ∧ ls = ls.dropLast ++ [o] := ⟨ls.getLast hne, List.getLast?_eq_some_getLast hne, (List.dropLast_concat_getLast hne).symm⟩
  rw [hsp]; rw [ho] at h1; refine runA_tail (ops := (ls.dropLast ++ [o]).toArray) (K := nilK P N _ (some o)) (fun st φ Ss a w hk hR => ?_) ls.dropLast hR (by rw [← hsp]; simpa using h1); unfold nilK at hk; split at hk
  · rename_i d t x t' ty pos af heq
    injection heq with heq
    subst heq; obtain ⟨hd, hg, ht, hk⟩ := hk; unfold wpList; rw [if_pos (by simp [Region.wanted])]
    left
    split at hk
    · rename_i es he
      obtain ⟨A, len, cap, hx, hA⟩ := elemsN_isNone hR ((act_eval hR x).strip hg) he; obtain ⟨sz, hsz⟩ := Option.isSome_iff_exists.1 ht; obtain ⟨e, i, hu, _⟩ := tel_spec (sz := sz.1) (bytes := sz.2) hsz
      have hrun : (execOp a.eval ⟨d, .binOp .eql t x (.const (.slice none 0 0)) t', ty, pos, af, none⟩).run P w = .ok (.value (.bool A.isNone)) w := by
        have := nil_run (w := w) (A := A) (len := len) (cap := cap) hu x (.const (.slice none 0 0))
        rw [← hx] at this
        have lift : ∀ {s : Sem Value} {y : Value}, s.run P w = .ok y w → (do pure (Next.value (← s)) : Sem Next).run P w = .ok (.value y) w := by
          intro s y hs; simp [hs]
        exact lift this
      unfold Oper.wp; rw [hrun]; exact ⟨_, φ, Ss, hk _ hA, hR.put hd (.bool _)⟩
    · exact hk.elim
  · exact hk.elim
def softV : AV → AV → Prop
  | .nil, .own _ [] => True
  | .nil, .fz [] => True
  | a, b => a = b
def softE (env : Env) : Env → Prop
  | [] => True
  | (k, v) :: e => softV (lk env k) v ∧ softE env e
theorem softV_spec {own : Nat → Prop} {u v : AV} {x : Value} (h : softV u v) (k : VR w own φ u x []) : VR w own φ v x [] := by
  unfold softV at h; split at h
  · cases k; exact .own0 _ _
  · cases k; exact .fz0 _ _
  · rw [← h]; exact k
theorem softE_lk {env : Env} : ∀ {e : Env}, softE env e → ∀ t, softV (lk env t) (lk e t) ∨ lk e t = .undef
  | [], _, _ => .inr rfl
  | (k, v) :: e, h, t => by
    simp only [lk]; split
    · rename_i hk; subst hk; exact .inl h.1
    · exact softE_lk h.2 t
theorem Wk.soft {env' : Env} (h : softE st.env env') : Wk N st ⟨env', st.heap⟩ := by
  intro w0 B0 φ Ss a w hR; refine ⟨φ, Ss, fun t => ?_, hR.heap, hR.len, hR.fresh, hR.nodup, hR.bound, hR.fr, hR.size, hR.defers, hR.cx, hR.keep⟩; rcases softE_lk h t with e | e
  · exact softV_spec e (hR.env t)
  · rw [e]; exact .undef _
theorem Wk.softH {env' : Env} {h' : Heap} (h : softE st.env env') (hh : h' = st.heap) : Wk N st ⟨env', h'⟩ := by subst hh; exact Wk.soft h
end
@[simp] theorem hb_set {h : Heap} {id : Nat} {b : Blk} (hl : id < h.length) : hb (h.set id (some b)) id = some b := by simp [hb, hl]
end HK
namespace HK
open Go
section
variable (ids : List Nat) (d : Nat)
@[simp] theorem renN_int (k : IntKind) (n : Int) : renN ids (d + 1) (.int k n) = .int k n := rfl
@[simp] theorem renN_bool (b : Bool) : renN ids (d + 1) (.bool b) = .bool b := rfl
@[simp] theorem renN_str (b : ByteArray) : renN ids (d + 1) (.str b) = .str b := rfl
@[simp] theorem renN_nil : renN ids (d + 1) .nil = .nil := rfl
@[simp] theorem renN_fz (es : List (List AV)) : renN ids (d + 1) (.fz es) = .fz es := rfl
@[simp] theorem renN_own (sz : Nat) (es : List (List AV)) : renN ids (d + 1) (.own sz es) = .own sz es := rfl
@[simp] theorem renN_sl (i o l : Nat) : renN ids (d + 1) (.sl i o l) = .sl (ids.getD i 0) o l := rfl
@[simp] theorem renN_agg (cs : List AV) : renN ids (d + 1) (.agg cs) = .agg (cs.map (renN ids d)) := rfl
@[simp] theorem renN_tup (cs : List AV) : renN ids (d + 1) (.tup cs) = .tup (cs.map (renN ids d)) := rfl
end
def lowEs (n : Nat) (es : List (List AV)) : Bool := es.all fun e => e.all (lowN 2 n)
@[simp] theorem lowB_none (n : Nat) : lowB n none = true := rfl
@[simp] theorem lowB_some (n sz : Nat) (es : List (List AV)) : lowB n (some ⟨sz, es⟩) = lowEs n es := rfl
@[simp] theorem lowEs_nil (n : Nat) : lowEs n [] = true := rfl
@[simp] theorem lowEs_cons (n : Nat) (e : List AV) (es : List (List AV)) : lowEs n (e :: es) = (e.all (lowN 2 n) && lowEs n es) := rfl
@[simp] theorem lowEs_app (n : Nat) (a b : List (List AV)) : lowEs n (a ++ b) = (lowEs n a && lowEs n b) := by simp [lowEs]
theorem lowEs_take {n : Nat} {es : List (List AV)} (h : lowEs n es = true) (k : Nat) : lowEs n (es.take k) = true := by
  unfold lowEs at h ⊢; rw [List.all_eq_true] at h ⊢; exact fun x hx => h x (List.mem_of_mem_take hx)
theorem lowEs_rep {n : Nat} {e : List AV} (h : e.all (lowN 2 n) = true) : ∀ k, lowEs n (List.replicate k e) = true
  | 0 => rfl
  | k + 1 => by rw [List.replicate_succ, lowEs_cons, h, lowEs_rep h k]; rfl
@[simp] theorem lowN_int (d n : Nat) (k : IntKind) (m : Int) : lowN (d + 1) n (.int k m) = true := rfl
@[simp] theorem lowN_bool (d n : Nat) (b : Bool) : lowN (d + 1) n (.bool b) = true := rfl
@[simp] theorem lowN_str (d n : Nat) (b : ByteArray) : lowN (d + 1) n (.str b) = true := rfl
@[simp] theorem lowN_fz (d n : Nat) (es : List (List AV)) : lowN (d + 1) n (.fz es) = true := rfl
@[simp] theorem lowN_nil (d n : Nat) : lowN (d + 1) n .nil = true := rfl
@[simp] theorem lowN_own (d n sz : Nat) (es : List (List AV)) : lowN (d + 1) n (.own sz es) = true := rfl
@[simp] theorem lowN_sl (d n i o l : Nat) : lowN (d + 1) n (.sl i o l) = decide (i < n) := rfl
theorem fn_soft {P : Program} {f : FuncId} {xs ys : List AV} {out : AV} (h : Fn P f ys out) (hs : ∀ (w : World) vs, CR w (fun _ => False) nof xs vs [] → CR w (fun _ => False) nof ys vs []) : Fn P f xs out := ⟨h.1, fun w vs hc => h.2 w vs (hs w vs hc)⟩
theorem cr_nil {w : World} {own : Nat → Prop} {φ : Refs} : ∀ {xs ys : List AV} {vs : List Value} {S : List Nat}, CR w own φ xs vs S → S = [] → (xs.length = ys.length ∧ ∀ (k : Nat) u v, xs[k]? = some u → ys[k]? = some v → softV u v) → CR w own φ ys vs []
  | [], [], _, _, h, e, _ => by cases h; exact .nil
  | a :: xs, b :: ys, _, _, h, e, hs => by
    obtain ⟨v, us, S1, S2, rfl, rfl, k1, k2⟩ := h.uncons; have e1 : S1 = [] := by simp at e; exact e.1
    have e2 : S2 = [] := by simp at e; exact e.2
    subst e1; subst e2; have q := CR.cons _ _ _ _ _ _ (softV_spec (hs.2 0 a b rfl rfl) k1) (cr_nil (ys := ys) k2 rfl ⟨by simpa using hs.1, fun k u v h1 h2 => hs.2 (k + 1) u v (by simpa using h1) (by simpa using h2)⟩)
    simpa using q
  | [], _ :: _, _, _, _, _, hs => by simp at hs
  | _ :: _, [], _, _, _, _, hs => by simp at hs
theorem softV_refl (u : AV) : softV u u := by cases u <;> simp [softV]
theorem Fn.nil1 {P : Program} {f : FuncId} {xs : List AV} {out : AV} (h : Fn P f (.fz [] :: xs) out) : Fn P f (.nil :: xs) out :=
  fn_soft h fun _ _ hc => cr_nil hc rfl ⟨rfl, fun k u v h1 h2 => by
    cases k with
    | zero => simp at h1 h2; subst h1; subst h2; trivial
    | succ k => simp at h1 h2; rw [h1] at h2; cases h2; exact softV_refl _⟩
theorem Fn.nil2 {P : Program} {f : FuncId} {xs : List AV} {out : AV} (h : Fn P f (.fz [] :: .fz [] :: xs) out) : Fn P f (.nil :: .nil :: xs) out :=
  fn_soft h fun _ _ hc => cr_nil hc rfl ⟨rfl, fun k u v h1 h2 => by
    match k with
    | 0 => simp at h1 h2; subst h1; subst h2; trivial
    | 1 => simp at h1 h2; subst h1; subst h2; trivial
    | k + 2 => simp at h1 h2; rw [h1] at h2; cases h2; exact softV_refl _⟩
section
variable {P : Program} {N : Sz} {ds : List (Option Tmp)} {rest : List Oper} {l : List (Bool × Oper)} {K : St → Prop} {d : Option Tmp} {env : Env} {h : Heap}
theorem CallG.fzE {fid : FuncId} {xs ys : List AV} {out : AV} {g : Bool} {gks : Prop} (hg : g = true → gks) (hf : g = true → Fn P fid ys out) (he : xs.map (viewN h 6) = ys) (k : runA P N ds rest ⟨putE env d (.cond g (viewN [] 6 out)), h⟩ K) : CallG P N ds rest d env h K fid g gks xs := CallG.fz hg (fun e => by rw [he]; exact hf e) k
theorem CallQG.fzE {fid : FuncId} {xs ys : List AV} {out : AV} {g : Bool} {gks : Prop} (hg : g = true → gks) (hf : g = true → Fn P fid ys out) (he : xs.map (viewN h 6) = ys) (k : runQ P N ds l ⟨putE env d (.cond g (viewN [] 6 out)), h⟩ K) : CallQG P N ds l d env h K fid g gks xs := CallQG.fz hg (fun e => by rw [he]; exact hf e) k
end
section
variable {P : Program} {N : Sz} {ds : List (Option Tmp)} {rest : List Oper} {l : List (Bool × Oper)} {K : St → Prop} {d : Option Tmp} {env : Env} {h : Heap} {ty : TypeId} {pos : String} {af : Array Edge}
@[simp] theorem rq_empty {t : TypeId} : runQ P N ds ((false, ⟨d, .buildSlice t 0 #[], ty, pos, af, none⟩) :: l) ⟨env, h⟩ K = (dOk N d = true ∧ (tel P t).isSome = true ∧ runQ P N ds l ⟨putE env d .nil, h⟩ K) := by
  simp [runQ, Q1, gval, cls]
@[simp] theorem rq_app {s x : Operand} {t xt : TypeId} : runQ P N ds ((true, ⟨d, .call ⟨.builtin .append, #[s, x], #[t, xt]⟩, ty, pos, af, none⟩) :: l) ⟨env, h⟩ K =
    (dOk N d = true ∧ st1 (ev env s) = .nil ∧ (evApp P h t xt (ev env s) (ev env x)).1 ∧ runQ P N ds l ⟨putE env d (evApp P h t xt (ev env s) (ev env x)).2.2, h ++ [some (appBlk P h t (ev env x))]⟩ K) := rfl
@[simp] theorem run_clear {x : Operand} {t : TypeId} : runA P N ds (⟨d, .call ⟨.builtin .clear, #[x], #[t]⟩, ty, pos, af, none⟩ :: rest) ⟨env, h⟩ K =
    (dOk N d = true ∧ (evClr P h t (ev env x)).1 ∧ runA P N ds rest ⟨putE env d .undef, (evClr P h t (ev env x)).2⟩ K) := rfl
def CallV (P : Program) (N : Sz) (ds : List (Option Tmp)) (rest : List Oper) (d : Option Tmp) (env : Env) (h : Heap) (K : St → Prop) (f : AV) (xs : List AV) : Prop := match f with
  | .fn (.func fid) first cap => CallK P N ds rest d env h K fid (first ++ xs ++ cap)
  | _ => False
@[simp] theorem CallV_fn {fid : FuncId} {first cap xs : List AV} : CallV P N ds rest d env h K (.fn (.func fid) first cap) xs = CallK P N ds rest d env h K fid (first ++ xs ++ cap) := rfl
@[simp] theorem run_callV {v : Tmp} {args : Array Operand} {ats : Array TypeId} : runA P N ds (⟨d, .call ⟨.value (.tmp v), args, ats⟩, ty, pos, af, none⟩ :: rest) ⟨env, h⟩ K =
    (dOk N d = true ∧ (gk (lk env v) ∧ allGk (ev env) args.toList) ∧ CallV P N ds rest d env h K (st1 (lk env v)) (args.toList.map fun x => st1 (ev env x))) := by
  simp only [runA, gval, cls, clsC, calleeOf, calleeGk, ev]
  cases hv : st1 (lk env v) with
  | fn f first cap =>
    cases f with
    | func fid => rfl
    | _ => simp [CallV]
  | _ => simp [CallV]
end
attribute [simp] cvH partE elemV evClr appBlk
end HK
namespace HK
open Go
theorem flat_cell {es : List (List AV)} {i c : Nat} {x : AV} (hi : i < es.length) (hx : (es.getD i [])[c]? = some x) (v : AV) :
    ∃ A B, es.flatten = A ++ x :: B ∧ (es.set i ((es.getD i []).set c v)).flatten = A ++ v :: B := by
  have he : es.getD i [] = es[i] := by simp [List.getD_eq_getElem?_getD, hi]
  rw [he] at hx ⊢; obtain ⟨hc, rfl⟩ := List.getElem?_eq_some_iff.1 hx; refine ⟨(es.take i).flatten ++ es[i].take c, es[i].drop (c + 1) ++ (es.drop (i + 1)).flatten, ?_, ?_⟩
  · have e1 : es = es.take i ++ es[i] :: es.drop (i + 1) := by rw [List.getElem_cons_drop, List.take_append_drop]
    have e2 : es[i] = es[i].take c ++ es[i][c] :: es[i].drop (c + 1) := by rw [List.getElem_cons_drop, List.take_append_drop]
    have e3 : es.flatten = (es.take i).flatten ++ (es[i] ++ (es.drop (i + 1)).flatten) := by
      conv => lhs; rw [e1]
      rw [List.flatten_append, List.flatten_cons]
    rw [e3]
    conv => lhs; rw [e2]
    simp only [List.append_assoc, List.cons_append]
  · rw [List.set_eq_take_append_cons_drop, if_pos hi, List.set_eq_take_append_cons_drop, if_pos hc, List.flatten_append, List.flatten_cons]
    simp
section
variable {N : Sz} {st : St}
theorem Wk.fold {env' : Env} {h : Heap} {p i c szB sz : Nat} {es esj : List (List AV)} (hst : st.heap = h ++ [some ⟨sz, esj⟩]) (hp : h[p]? = some (some ⟨szB, es⟩)) (hi : i < es.length)
    (hx : (es.getD i [])[c]? = some (.sl h.length 0 esj.length)) (hlow : lowEs 0 esj = true) (hN : N.b ≤ h.length) (h1 : subE st.env env') (h3 : lowE h.length env' = true)
    (h4 : ∀ x ∈ h.set p (some ⟨szB, es.set i ((es.getD i []).set c (.own sz esj))⟩), lowB h.length x = true) :
    Wk N st ⟨env', h.set p (some ⟨szB, es.set i ((es.getD i []).set c (.own sz esj))⟩)⟩ := by
  intro w0 B0 φ Ss a w hR; have hplt : p < h.length := (List.getElem?_eq_some_iff.1 hp).1
  have hlen : Ss.length = h.length + 1 := by rw [hR.len, hst]; simp
  obtain ⟨Sh, Sj, rfl⟩ : ∃ Sh Sj, Ss = Sh ++ [Sj] := ⟨Ss.dropLast, Ss.getLast (by intro e; rw [e] at hlen; simp at hlen), (List.dropLast_concat_getLast _).symm⟩
  have hShl : Sh.length = h.length := by simp at hlen; exact hlen
  have hgj : st.heap[h.length]? = some (some ⟨sz, esj⟩) := by rw [hst]; simp
  have hgp : st.heap[p]? = some (some ⟨szB, es⟩) := by rw [hst, List.getElem?_append_left hplt]; exact hp
  obtain ⟨Sj', hSj, hBj⟩ := hR.heap _ _ hgj; have : Sj' = Sj := by rw [List.getElem?_append_right (by omega)] at hSj; simp [hShl] at hSj; exact hSj.symm
  subst this; obtain ⟨Sp, hSp, hBp⟩ := hR.heap _ _ hgp; rw [List.getElem?_append_left (by omega)] at hSp; obtain ⟨A, B, f1, f2⟩ := flat_cell hi hx (.own sz esj)
  let φ' : Refs := fun id => if id < h.length then φ id else none
  have hφ : ∀ id, id < h.length → φ' id = φ id := fun id hid => by simp only [φ']; rw [if_pos hid]
  have hnz : es.flatten ≠ [] := by rw [f1]; simp
  rcases hBp with ⟨q1, q2, q3⟩ | ⟨rp, vs, T, q1, q2, q3, q4, q5, q6, q7, rfl⟩
  · simp only at q2
    rw [q2] at hi; simp at hi
  · simp only at q2 q4 q5 q7
    rw [f1] at q7; obtain ⟨v1, v2, S1, S2, rfl, rfl, c1, c2⟩ := q7.split; obtain ⟨x, us, S3, S4, rfl, rfl, k1, k2⟩ := c2.uncons
    -- the cell's value, owned
    have key : ∃ X, VR w (Own (Sh ++ [Sj'])) φ' (.own sz esj) x X ∧ S3 = [] ∧ (X = Sj' ∨ X = []) := by
      generalize hv : AV.sl h.length 0 esj.length = v at k1
      cases k1 with
      | sl0 id off r A hr =>
        injection hv with e1 e2 e3
        have : esj = [] := List.length_eq_zero_iff.1 e3
        subst this
        exact ⟨[], .own0 sz A, rfl, .inr rfl⟩
      | sl id off len cap r hr hcap hlim =>
        injection hv with e1 e2 e3
        subst e1; subst e2; subst e3; rcases hBj with ⟨g1, _, _⟩ | ⟨rj, vsj, Tj, g1, g2, g3, g4, g5, g6, g7, rfl⟩
        · rw [hr] at g1; cases g1
        · rw [hr] at g1
          cases g1
          simp only at g2 g4 g5 g7
          have hcr : CR w (Own (Sh ++ [r.rb :: Tj])) nof esj.flatten vsj Tj := by
            refine cr_low (p := lowN 2 0) (fun v x S k h => VR.low 2 (fun id hid => by omega) k h) g7 ?_; unfold lowEs at hlow; rw [List.all_eq_true] at hlow ⊢; intro v hv; obtain ⟨e, he, hve⟩ := List.mem_flatten.1 hv
            exact List.all_eq_true.1 (hlow e he) v hve
          have := VR.own (w := w) (own := Own (Sh ++ [r.rb :: Tj])) (φ := φ') esj sz r.rb r.base cap r.lim vsj Tj g3 g4 hcap (by rw [g2] at hlim; simpa using hlim) g6 hcr
          exact ⟨r.rb :: Tj, by simpa using this, rfl, .inl rfl⟩
      | _ => cases hv
    obtain ⟨X, hX, rfl, hXS⟩ := key
    let Sp' : List Nat := rp.rb :: (S1 ++ (X ++ S4))
    obtain ⟨C, D, d1, d2⟩ := flatten_set hSp Sp'
    have hold : (Sh ++ [Sj']).flatten = C ++ ((rp.rb :: (S1 ++ ([] ++ S4))) ++ D) ++ Sj' := by
      rw [List.flatten_append, d1]; simp
    have hnew : (Sh.set p Sp').flatten = C ++ (Sp' ++ D) := d2
    have hmem : ∀ b, b ∈ (Sh.set p Sp').flatten → b ∈ (Sh ++ [Sj']).flatten := fun b hb => by
      rw [hnew] at hb; rw [hold]; simp only [Sp', List.mem_append, List.mem_cons] at hb ⊢; rcases hXS with e | e <;> subst e <;> simp at hb ⊢ <;> grind
    have hnd : (Sh.set p Sp').flatten.Nodup := by
      have h0 := hR.nodup
      rw [hold] at h0; rw [hnew]; rcases hXS with e | e
      · have hperm : (C ++ ((rp.rb :: (S1 ++ ([] ++ S4))) ++ D) ++ Sj').Perm (C ++ (Sp' ++ D)) := by
          rw [List.append_assoc]; refine List.Perm.append_left C ?_; simp only [Sp', e, List.cons_append, List.nil_append]; refine List.Perm.cons _ ?_; simp only [List.append_assoc]; refine List.Perm.append_left S1 ?_
          have : (S4 ++ (D ++ Sj')).Perm (Sj' ++ (S4 ++ D)) := by
            rw [← List.append_assoc]; exact List.perm_append_comm
          exact this
        exact hperm.nodup_iff.1 h0
      · have hs : (C ++ (Sp' ++ D)).Sublist (C ++ ((rp.rb :: (S1 ++ ([] ++ S4))) ++ D) ++ Sj') := by
          simp only [Sp', e]; exact List.sublist_append_left _ _
        exact h0.sublist hs
    have hfz : ∀ b, b < w.heap.size → ¬ Own (Sh ++ [Sj']) b → ¬ Own (Sh.set p Sp') b ∧ w.heap[b]? = w.heap[b]? := fun b _ ho => ⟨fun hb => ho (hmem b hb), rfl⟩
    refine ⟨φ', Sh.set p Sp', fun t => ?_, fun id b hid => ?_, by simp [hShl], fun id hid => ?_, hnd, fun b hb => hR.bound b (hmem b hb), hR.fr, hR.size, hR.defers, hR.cx, fun k r e => ?_⟩
    · have hv : VR w (Own (Sh ++ [Sj'])) φ' (lk env' t) (a.tmps.getD t Go.undef) [] := by
        rcases subE_lk h1 t with e | e
        · exact VR.low 4 hφ (by rw [e]; exact hR.env t) (lowE_lk h3 t)
        · rw [e]; exact .undef _
      exact hv.tr hfz (Nat.le_refl _) (fun _ _ e => e) (fun _ _ => rfl)
    · have hidl : id < h.length := by have := (List.getElem?_eq_some_iff.1 hid).1; simpa using this
      by_cases hip : id = p
      · subst hip
        rw [List.getElem?_set_self (by omega)] at hid; cases hid
        refine ⟨Sp', by rw [List.getElem?_set_self (by omega)], ?_⟩; have hl4 := h4 (some ⟨szB, es.set i ((es.getD i []).set c (.own sz esj))⟩) (List.mem_of_getElem? (by rw [List.getElem?_set_self (by omega)] : (h.set id _)[id]? = some _))
        have hall : (A ++ AV.own sz esj :: B).all (lowN 2 h.length) = true := by
          rw [← f2]; unfold lowB at hl4; simp only at hl4; rw [List.all_eq_true] at hl4 ⊢; intro v hv; obtain ⟨e, he, hve⟩ := List.mem_flatten.1 hv; exact List.all_eq_true.1 (hl4 e he) v hve
        simp only [List.all_append, List.all_cons, Bool.and_eq_true] at hall; have lw : ∀ v x S, VR w (Own (Sh ++ [Sj'])) φ v x S → lowN 2 h.length v = true → VR w (Own (Sh ++ [Sj'])) φ' v x S := fun v x S k h => VR.low 2 hφ k h
        have q : CR w (Own (Sh ++ [Sj'])) φ' (A ++ AV.own sz esj :: B) (v1 ++ x :: us) (S1 ++ (X ++ S4)) := (cr_low lw c1 hall.1).app (.cons _ _ _ _ _ _ hX (cr_low lw k2 hall.2.2))
        have hul : ∀ e ∈ es.set i ((es.getD i []).set c (.own sz esj)), e.length = szB := fun e he => by
          rcases List.mem_or_eq_of_mem_set he with he | rfl
          · exact q4 e he
          · rw [List.length_set]
            have : es.getD i [] = es[i] := by simp [List.getD_eq_getElem?_getD, hi]
            rw [this]; exact q4 _ (List.getElem_mem hi)
        have hbr : BR w (Own (Sh ++ [Sj'])) φ' id ⟨szB, es.set i ((es.getD i []).set c (.own sz esj))⟩ Sp' :=
          .inr ⟨rp, v1 ++ x :: us, S1 ++ (X ++ S4), (hφ id hidl).trans q1, q2, q3, hul, by simpa using q5, q6, by simp only; rw [f2]; exact q, rfl⟩
        exact hbr.tr hfz (Nat.le_refl _) (fun _ _ e => e) (fun _ _ => rfl)
      · rw [List.getElem?_set_ne (by omega)] at hid
        have hid' : st.heap[id]? = some (some b) := by rw [hst, List.getElem?_append_left hidl]; exact hid
        obtain ⟨S, g1, g2⟩ := hR.heap id b hid'; rw [List.getElem?_append_left (by omega)] at g1; refine ⟨S, by rw [List.getElem?_set_ne (by omega)]; exact g1, ?_⟩
        have hl4 := h4 (some b) (List.mem_of_getElem? (i := id) (by rw [List.getElem?_set_ne (by omega)]; exact hid))
        have q3 : BR w (Own (Sh ++ [Sj'])) φ' id b S := by
          rcases g2 with ⟨e1, e2, e3⟩ | ⟨r, vs', T', e1, e2, e3, e4, e5, e6, e7, e8⟩
          · exact .inl ⟨(hφ id hidl).trans e1, e2, e3⟩
          · refine .inr ⟨r, vs', T', (hφ id hidl).trans e1, e2, e3, e4, e5, e6, cr_low (fun v x S k h => VR.low 2 hφ k h) e7 ?_, e8⟩
            unfold lowB at hl4; simp only at hl4; rw [List.all_eq_true] at hl4 ⊢; intro v hv; obtain ⟨e, he, hve⟩ := List.mem_flatten.1 hv; exact List.all_eq_true.1 (hl4 e he) v hve
        exact q3.tr hfz (Nat.le_refl _) (fun _ _ e => e) (fun _ _ => rfl)
    · simp only [φ']
      rw [if_neg]; simp at hid; omega
    · have hk : k < h.length := by
        rcases Nat.lt_or_ge k N.b with hlt | hge
        · omega
        · rw [hR.cx k hge] at e; cases e
      exact (hφ k hk).trans (hR.keep k r e)
theorem Wk.foldE {env' : Env} {h h' : Heap} {p i c szB sz : Nat} {es esj : List (List AV)} (e : List AV) (hst : st.heap = h ++ [some ⟨sz, esj⟩]) (hp : h[p]? = some (some ⟨szB, es⟩)) (he : es[i]? = some e)
    (hx : e[c]? = some (.sl h.length 0 esj.length)) (hlow : lowEs 0 esj = true) (hN : N.b ≤ h.length) (h1 : subE st.env env') (h3 : lowE h.length env' = true)
    (hh : h' = h.set p (some ⟨szB, es.set i (e.set c (.own sz esj))⟩)) (h4 : ∀ x ∈ h', lowB h.length x = true) : Wk N st ⟨env', h'⟩ := by
  have hi := (List.getElem?_eq_some_iff.1 he).1
  have hg : es.getD i [] = e := by rw [List.getD_eq_getElem?_getD, he]; rfl
  subst hh; have := Wk.fold (N := N) (st := st) (env' := env') hst hp hi (by rw [hg]; exact hx) hlow hN h1 h3 (by rw [hg]; exact h4)
  rw [hg] at this; exact this
end
theorem lowEs_set {n k : Nat} {es : List (List AV)} {e : List AV} (h : lowEs n es = true) (he : e.all (lowN 2 n) = true) : lowEs n (es.set k e) = true := by
  unfold lowEs at h ⊢; rw [List.all_eq_true] at h ⊢; intro x hx; rcases List.mem_or_eq_of_mem_set hx with hx | rfl
  · exact h x hx
  · exact he
theorem strS_int (d : Nat) (k : IntKind) (n : Int) : strN (d + 1) (.int k n) = true := rfl
theorem strS_bool (d : Nat) (b : Bool) : strN (d + 1) (.bool b) = true := rfl
theorem strS_own (d sz : Nat) (es : List (List AV)) : strN (d + 1) (.own sz es) = (es.all fun e => e.all (strN d)) := rfl
end HK
namespace HK
open Go
section
variable {N : Sz} {st : St}
theorem Wk.unfoldE {env' : Env} {h' : Heap} {p i c szB sz : Nat} {es esj : List (List AV)} (e : List AV) (hp : st.heap[p]? = some (some ⟨szB, es⟩)) (he : es[i]? = some e)
    (hx : e[c]? = some (.own sz esj)) (h1 : subE st.env env') (hh : h' = st.heap.set p (some ⟨szB, es.set i (e.set c (.sl st.heap.length 0 esj.length))⟩) ++ [some ⟨sz, esj⟩]) : Wk N st ⟨env', h'⟩ := by
  subst hh; intro w0 B0 φ Ss a w hR; have hi := (List.getElem?_eq_some_iff.1 he).1
  have hg : es.getD i [] = e := by rw [List.getD_eq_getElem?_getD, he]; rfl
  have hplt : p < st.heap.length := (List.getElem?_eq_some_iff.1 hp).1
  obtain ⟨Sp, hSp, hBp⟩ := hR.heap _ _ hp; obtain ⟨A, B, f1, f2⟩ := flat_cell hi (by rw [hg]; exact hx) (.sl st.heap.length 0 esj.length); rw [hg] at f2; rcases hBp with ⟨q1, q2, q3⟩ | ⟨rp, vs, T, q1, q2, q3, q4, q5, q6, q7, rfl⟩
  · simp only at q2
    rw [q2] at hi; simp at hi
  · simp only at q2 q4 q5 q7
    rw [f1] at q7; obtain ⟨v1, v2, S1, S2, rfl, rfl, c1, c2⟩ := q7.split; obtain ⟨x, us, S3, S4, rfl, rfl, k1, k2⟩ := c2.uncons
    -- the name
    have key : ∃ rj : Option Ref, ∀ φ' : Refs, φ' st.heap.length = some rj → VR w (Own Ss) φ' (.sl st.heap.length 0 esj.length) x [] ∧ BR w (Own Ss) φ' st.heap.length ⟨sz, esj⟩ S3 := by
      generalize hv : AV.own sz esj = v at k1
      cases k1 with
      | own0 sz' A =>
        injection hv with e1 e2
        subst e1; subst e2
        exact ⟨none, fun φ' h => ⟨.sl0 _ _ _ _ h, .inl ⟨h, rfl, rfl⟩⟩⟩
      | own es' sz' rb o cap lim vs' S' hr hu hcap hlim hs hc =>
        injection hv with e1 e2
        subst e1; subst e2; refine ⟨some ⟨rb, o, lim, sz⟩, fun φ' h => ⟨?_, .inr ⟨_, vs', S', h, rfl, hr, hu, ?_, hs, hc.up, rfl⟩⟩⟩
        · have := VR.sl (w := w) (own := Own Ss) (φ := φ') st.heap.length 0 esj.length cap _ h hcap (by simpa using hlim)
          simpa using this
        · have := Nat.mul_le_mul_right sz hcap
          simp only; omega
      | _ => cases hv
    obtain ⟨rj, hkey⟩ := key
    let φ' : Refs := fun id => if id = st.heap.length then some rj else φ id
    have hφ : ∀ id r, φ id = some r → φ' id = some r := fun id r hr => by
      simp only [φ']; split
      · rename_i e
        rw [e, hR.fresh _ (Nat.le_refl _)] at hr; cases hr
      · exact hr
    obtain ⟨hX, hBj⟩ := hkey φ' (by simp [φ'])
    let Sp' : List Nat := rp.rb :: (S1 ++ S4)
    obtain ⟨C, D, d1, d2⟩ := flatten_set hSp Sp'; have hold : Ss.flatten = C ++ ((rp.rb :: (S1 ++ (S3 ++ S4))) ++ D) := d1
    have hnew : (Ss.set p Sp' ++ [S3]).flatten = C ++ (Sp' ++ D) ++ S3 := by rw [List.flatten_append, d2]; simp
    have hperm : (C ++ ((rp.rb :: (S1 ++ (S3 ++ S4))) ++ D)).Perm (C ++ (Sp' ++ D) ++ S3) := by
      rw [List.append_assoc]; refine List.Perm.append_left C ?_; simp only [Sp', List.cons_append]; refine List.Perm.cons _ ?_; simp only [List.append_assoc]; refine List.Perm.append_left S1 ?_
      have : (S3 ++ (S4 ++ D)).Perm ((S4 ++ D) ++ S3) := List.perm_append_comm
      simpa using this
    have hmem : ∀ b, b ∈ (Ss.set p Sp' ++ [S3]).flatten → b ∈ Ss.flatten := fun b hb => by
      rw [hnew] at hb; rw [hold]; exact hperm.mem_iff.2 hb
    have hnd : (Ss.set p Sp' ++ [S3]).flatten.Nodup := by
      have h0 := hR.nodup
      rw [hold] at h0; rw [hnew]; exact hperm.nodup_iff.1 h0
    have hfz : ∀ b, b < w.heap.size → ¬ Own Ss b → ¬ Own (Ss.set p Sp' ++ [S3]) b ∧ w.heap[b]? = w.heap[b]? := fun b _ ho => ⟨fun hb => ho (hmem b hb), rfl⟩
    refine ⟨φ', Ss.set p Sp' ++ [S3], fun t => ?_, fun id b hid => ?_, by simp [hR.len], fun id hid => ?_, hnd, fun b hb => hR.bound b (hmem b hb), hR.fr, hR.size, hR.defers, hR.cx, fun k r e => hφ _ _ (hR.keep k r e)⟩
    · rcases subE_lk h1 t with e | e
      · rw [e]; exact (hR.env t).tr hfz (Nat.le_refl _) hφ (fun _ _ => rfl)
      · rw [e]; exact .undef _
    · by_cases hlt : id < st.heap.length
      · rw [List.getElem?_append_left (by simpa using hlt)] at hid
        by_cases hip : id = p
        · subst hip
          rw [List.getElem?_set_self hlt] at hid; cases hid
          refine ⟨Sp', by rw [List.getElem?_append_left (by rw [List.length_set, hR.len]; exact hlt), List.getElem?_set_self (by rw [hR.len]; exact hlt)], ?_⟩
          have up : ∀ {cs : List AV} {vs : List Value} {S : List Nat}, CR w (Own Ss) φ cs vs S → CR w (Own Ss) φ' cs vs S := fun k => k.tr (fun _ _ ho => ⟨ho, rfl⟩) (Nat.le_refl _) hφ (fun _ _ => rfl)
          have q : CR w (Own Ss) φ' (A ++ AV.sl st.heap.length 0 esj.length :: B) (v1 ++ x :: us) (S1 ++ ([] ++ S4)) := (up c1).app (.cons _ _ _ _ _ _ hX (up k2))
          have hul : ∀ e' ∈ es.set i (e.set c (.sl st.heap.length 0 esj.length)), e'.length = szB := fun e' he' => by
            rcases List.mem_or_eq_of_mem_set he' with he' | rfl
            · exact q4 e' he'
            · rw [List.length_set]; exact q4 _ (List.mem_of_getElem? he)
          have hbr : BR w (Own Ss) φ' id ⟨szB, es.set i (e.set c (.sl st.heap.length 0 esj.length))⟩ Sp' :=
            .inr ⟨rp, v1 ++ x :: us, S1 ++ ([] ++ S4), hφ _ _ q1, q2, q3, hul, by simpa using q5, q6, by simp only; rw [f2]; exact q, by simp [Sp']⟩
          exact hbr.tr hfz (Nat.le_refl _) (fun _ _ e => e) (fun _ _ => rfl)
        · rw [List.getElem?_set_ne (by omega)] at hid
          obtain ⟨S, g1, g2⟩ := hR.heap id b hid; refine ⟨S, by rw [List.getElem?_append_left (by rw [List.length_set, hR.len]; exact hlt), List.getElem?_set_ne (by omega)]; exact g1, ?_⟩; exact g2.tr hfz (Nat.le_refl _) hφ (fun _ _ => rfl)
      · rw [List.getElem?_append_right (by simp; omega)] at hid
        have he0 : id = st.heap.length := by
          have := (List.getElem?_eq_some_iff.1 hid).1
          simp at this; omega
        subst he0; simp at hid; subst hid; refine ⟨S3, by rw [List.getElem?_append_right (by simp [hR.len])]; simp [hR.len], ?_⟩; exact hBj.tr hfz (Nat.le_refl _) (fun _ _ e => e) (fun _ _ => rfl)
    · simp only [φ']
      simp at hid; rw [if_neg (by omega)]; exact hR.fresh id (by omega)
end
end HK
namespace HK
open Go
def setAll {α : Type} : List α → List Nat → List α → List α
  | H, i :: is, y :: ys => setAll (H.set i y) is ys
  | H, _, _ => H
section
variable {α : Type}
@[simp] theorem setAll_nil (H : List α) (ys : List α) : setAll H [] ys = H := by cases ys <;> rfl
@[simp] theorem setAll_nil' (H : List α) (is : List Nat) : setAll H is [] = H := by cases is <;> rfl
@[simp] theorem setAll_cons (H : List α) (i : Nat) (is : List Nat) (y : α) (ys : List α) : setAll H (i :: is) (y :: ys) = setAll (H.set i y) is ys := rfl
@[simp] theorem setAll_len : ∀ (is : List Nat) (H ys : List α), (setAll H is ys).length = H.length
  | [], H, ys => by simp
  | i :: is, H, [] => by simp
  | i :: is, H, y :: ys => by rw [setAll_cons, setAll_len is, List.length_set]
theorem setAll_out : ∀ (is : List Nat) (H ys : List α) {i : Nat}, i ∉ is → (setAll H is ys)[i]? = H[i]?
  | [], H, ys, _, _ => by simp
  | j :: is, H, [], _, _ => by simp
  | j :: is, H, y :: ys, i, h => by
    rw [setAll_cons, setAll_out is _ _ (fun hm => h (List.mem_cons_of_mem _ hm)), List.getElem?_set_ne (fun e => h (by rw [e]; exact List.mem_cons_self ..))]
theorem setAll_in : ∀ (is : List Nat) (H ys : List α) {i j : Nat}, is.Nodup → is[j]? = some i → j < ys.length → i < H.length → (setAll H is ys)[i]? = ys[j]?
  | [], H, ys, _, _, _, h, _, _ => by simp at h
  | k :: is, H, [], _, _, _, _, h, _ => by simp at h
  | k :: is, H, y :: ys, i, j, hn, h, hj, hi => by
    rw [setAll_cons]; rw [List.nodup_cons] at hn
    cases j with
    | zero =>
      simp at h; subst h
      rw [setAll_out is _ _ hn.1, List.getElem?_set_self hi]; rfl
    | succ j =>
      have := setAll_in is (H.set k y) ys (i := i) (j := j) hn.2 (by simpa using h) (by simpa using hj) (by simpa using hi)
      rw [this]; rfl
def merge (A : List α) (ids : List Nat) (B : List α) : List α := setAll A ids (B.take ids.length) ++ B.drop ids.length
def At (ids : List Nat) (n j id : Nat) : Prop := (j < ids.length ∧ ids[j]? = some id) ∨ (ids.length ≤ j ∧ id = n + (j - ids.length))
theorem merge_len (A : List α) (ids : List Nat) (B : List α) : (merge A ids B).length = A.length + (B.length - ids.length) := by simp [merge]
theorem merge_old {A : List α} {ids : List Nat} {B : List α} {id : Nat} (h : id ∉ ids) (hl : id < A.length) : (merge A ids B)[id]? = A[id]? := by
  unfold merge; rw [List.getElem?_append_left (by simpa using hl), setAll_out _ _ _ h]
theorem merge_new {A : List α} {ids : List Nat} {B : List α} {id j : Nat} (hn : ids.Nodup) (hlt : ∀ i ∈ ids, i < A.length) (hB : ids.length ≤ B.length) (h : At ids A.length j id) (hj : j < B.length) : (merge A ids B)[id]? = B[j]? := by
  unfold merge; rcases h with ⟨h1, h2⟩ | ⟨h1, h2⟩
  · have hi := hlt id (List.mem_of_getElem? h2)
    rw [List.getElem?_append_left (by simpa using hi), setAll_in _ _ _ hn h2 (by simp; omega) hi, List.getElem?_take, if_pos h1]
  · subst h2
    rw [List.getElem?_append_right (by simp), setAll_len, Nat.add_sub_cancel_left, List.getElem?_drop]
    congr 1; omega
theorem At_of {ids : List Nat} {n m id : Nat} (hm : ids.length ≤ m) (h : id < n + (m - ids.length)) : (id ∉ ids ∧ id < n) ∨ ∃ j, j < m ∧ At ids n j id := by
  by_cases hi : id ∈ ids
  · obtain ⟨j, hj⟩ := List.getElem?_of_mem hi
    have hl := (List.getElem?_eq_some_iff.1 hj).1
    exact .inr ⟨j, by omega, .inl ⟨hl, hj⟩⟩
  · by_cases hl : id < n
    · exact .inl ⟨hi, hl⟩
    · exact .inr ⟨ids.length + (id - n), by omega, .inr ⟨by omega, by omega⟩⟩
end
def nfz : Nat → AV → Bool
  | 0, _ => false
  | d + 1, v => match v with
    | .sl _ _ _ | .ptr _ _ _ => true
    | .agg cs | .tup cs => cs.all (nfz d)
    | .cond _ _ | .fn _ _ _ => false
    | v => strN 4 v
section
variable {w : World} {own own2 : Nat → Prop} {n : Nat} {ids : List Nat}
theorem VR.str2 {φ φ2 : Refs} {v : AV} {x : Value} {S : List Nat} (h : VR w own φ v x S) (hs : strN 4 v = true) : VR w own2 φ2 v x S :=
  (VR.strict 4 h hs).tr (fun _ _ ho => absurd trivial ho) (Nat.le_refl _) (fun _ _ e => by cases e) (fun _ _ => rfl)
theorem cr_unren {φ φ' : Refs} {f : AV → AV} {p q : AV → Bool} (hf : ∀ v x S, VR w own φ v x S → p v = true → q v = true → VR w own2 φ' (f v) x S) : ∀ {cs : List AV} {vs : List Value} {S : List Nat}, CR w own φ cs vs S → cs.all p = true → cs.all q = true → CR w own2 φ' (cs.map f) vs S
  | [], _, _, k, _, _ => by cases k; exact .nil
  | c :: cs, _, _, k, h, h2 => by
    obtain ⟨v, us, S1, S2, rfl, rfl, k1, k2⟩ := k.uncons; simp only [List.all_cons, Bool.and_eq_true] at h h2; rw [List.map_cons]; exact .cons _ _ _ _ _ _ (hf _ _ _ k1 h.1 h2.1) (cr_unren hf k2 h.2 h2.2)
theorem VR.unren : ∀ (d : Nat) {φ' φ3 : Refs} {v : AV} {x : Value} {S : List Nat}, (∀ j, j < n → φ3 (ids.getD j 0) = φ' j) → VR w own φ' v x S → lowN d n v = true → nfz d v = true → VR w own2 φ3 (renN ids d v) x S
  | 0, _, _, _, _, _, _, _, hl, _ => by simp [lowN] at hl
  | d + 1, φ', φ3, v, x, S, hφ, k, hl, hz => by
    cases v with
    | sl id o l =>
      simp only [lowN, decide_eq_true_eq] at hl; simp only [renN]
      cases k with
      | sl0 _ _ r A hr => exact .sl0 _ o r A ((hφ id hl).trans hr)
      | sl _ _ _ cap r hr hcap hlim => exact .sl _ o l cap r ((hφ id hl).trans hr) hcap hlim
    | ptr id i j =>
      simp only [lowN, decide_eq_true_eq] at hl; simp only [renN]
      cases k with
      | ptr _ _ _ r hr => exact .ptr _ i j r ((hφ id hl).trans hr)
    | agg cs =>
      simp only [lowN] at hl; simp only [nfz] at hz; simp only [renN]
      cases k with
      | agg _ vs _ hc => exact .agg _ _ _ (cr_unren (fun v x S k h h2 => VR.unren d hφ k h h2) hc hl hz)
    | tup cs =>
      simp only [lowN] at hl; simp only [nfz] at hz; simp only [renN]
      cases k with
      | tup _ vs _ hc => exact .tup _ _ _ (cr_unren (fun v x S k h h2 => VR.unren d hφ k h h2) hc hl hz)
    | fn f a b => simp [nfz] at hz
    | cond g v => simp [nfz] at hz
    | undef => exact k.str2 hz
    | nil => exact k.str2 hz
    | bool b => exact k.str2 hz
    | int k' n' => exact k.str2 hz
    | str s => exact k.str2 hz
    | con v => exact k.str2 hz
    | fz es => exact k.str2 hz
    | own sz es => exact k.str2 hz
    | fptr es i j => exact k.str2 hz
end
def renB (ids : List Nat) : Option Blk → Option Blk
  | none => none
  | some b => some ⟨b.sz, b.es.map (List.map (renN ids 2))⟩
def nfzB (n : Nat) : Option Blk → Bool
  | none => true
  | some b => b.es.all fun e => e.all fun v => lowN 2 n v && nfz 2 v
def fids (ids : List Nat) (n k : Nat) : List Nat := ids ++ (List.range k).map (n + ·)
def frameH (H : Heap) (ids : List Nat) (h' : Heap) : Heap := merge H ids (h'.map (renB (fids ids H.length (h'.length - ids.length))))
theorem fids_at {ids : List Nat} {n k j : Nat} (hj : j < ids.length + k) : At ids n j ((fids ids n k).getD j 0) := by
  unfold fids At; rw [List.getD_eq_getElem?_getD]; by_cases h : j < ids.length
  · refine .inl ⟨h, ?_⟩
    rw [List.getElem?_append_left h, List.getElem?_eq_getElem h]; rfl
  · refine .inr ⟨by omega, ?_⟩
    rw [List.getElem?_append_right (by omega), List.getElem?_map, List.getElem?_range (by omega)]; rfl
section
variable {P : Program}
theorem CallS.frame {f : FuncId} (ids : List Nat) {args args0 : List AV} {h0 H : Heap} {Q0 : AV → Heap → Prop} (hc : CallS P f args0 h0 Q0) (hargs : args = args0.map (renN ids 4)) (hlow : args0.all (lowN 4 h0.length) = true)
    (hnd : ids.Nodup) (hlt : ∀ i ∈ ids, i < H.length) (hren : renH ids H ids h0) (hb0 : ∀ x ∈ h0, lowB h0.length x = true) (hsome : ∀ x ∈ h0, ∃ b, x = some b)
    (hq : ∀ o h', Q0 o h' → ids.length ≤ h'.length ∧ (∀ x ∈ h', nfzB h'.length x = true) ∧ lowN 4 h'.length o = true ∧ nfz 4 o = true) :
    CallS P f args H (fun o H' => ∃ o0 h', Q0 o0 h' ∧ o = renN (fids ids H.length (h'.length - ids.length)) 4 o0 ∧ H' = frameH H ids h') := by
  subst hargs; refine ⟨hc.1, fun φ Ss w vs hp hcr => ?_⟩; obtain ⟨hm, hg⟩ := renH_get hren
  let φ0 : Refs := fun j => if j < h0.length then φ (ids.getD j 0) else none
  have hφ : ∀ j, j < h0.length → φ0 j = φ (ids.getD j 0) := fun j hj => by simp only [φ0]; rw [if_pos hj]
  let Ss0 : List (List Nat) := ids.map fun i => Ss.getD i []
  have hmem : ∀ b, b ∈ Ss0.flatten → ∃ i S, i ∈ ids ∧ Ss[i]? = some S ∧ b ∈ S := fun b hb => by
    obtain ⟨S, hS, hbS⟩ := List.mem_flatten.1 hb; obtain ⟨i, hi, rfl⟩ := List.mem_map.1 hS; have hil : i < Ss.length := by rw [hp.len]; exact hlt i hi
    rw [List.getD_eq_getElem?_getD, List.getElem?_eq_getElem hil] at hbS; exact ⟨i, _, hi, List.getElem?_eq_getElem hil, hbS⟩
  have hmem' : ∀ b, b ∈ Ss0.flatten → b ∈ Ss.flatten := fun b hb => by
    obtain ⟨i, S, _, h2, h3⟩ := hmem b hb; exact List.mem_flatten.2 ⟨S, List.mem_of_getElem? h2, h3⟩
  have hfz : ∀ b, b < w.heap.size → ¬ Own Ss b → ¬ Own Ss0 b ∧ w.heap[b]? = w.heap[b]? := fun b _ ho => ⟨fun hb => ho (hmem' b hb), rfl⟩
  have hdis := List.pairwise_flatten.1 hp.nodup
  have hnd' : Ss0.flatten.Nodup := by
    unfold List.Nodup; rw [List.pairwise_flatten]; refine ⟨fun S hS => ?_, ?_⟩
    · obtain ⟨i, hi, rfl⟩ := List.mem_map.1 hS
      have hil : i < Ss.length := by rw [hp.len]; exact hlt i hi
      rw [List.getD_eq_getElem?_getD, List.getElem?_eq_getElem hil]; exact hdis.1 _ (List.getElem_mem hil)
    · rw [List.pairwise_map]
      refine List.Pairwise.imp_of_mem ?_ hnd; intro i j hi hj hij x hx y hy; have hil : i < Ss.length := by rw [hp.len]; exact hlt i hi
      have hjl : j < Ss.length := by rw [hp.len]; exact hlt j hj
      rw [List.getD_eq_getElem?_getD, List.getElem?_eq_getElem hil] at hx; rw [List.getD_eq_getElem?_getD, List.getElem?_eq_getElem hjl] at hy; rcases Nat.lt_or_gt_of_ne hij with h | h
      · exact (List.pairwise_iff_getElem.1 hdis.2 i j hil hjl h) x hx y hy
      · exact fun e => (List.pairwise_iff_getElem.1 hdis.2 j i hjl hil h) y hy x hx e.symm
  have hBR : ∀ j b, h0[j]? = some (some b) → ∃ S, Ss0[j]? = some S ∧ BR w (Own Ss) φ0 j b S := fun j b hb => by
    obtain ⟨i, k1, k2⟩ := hg j b hb; have hjl : j < h0.length := (List.getElem?_eq_some_iff.1 hb).1
    obtain ⟨S, q1, q2⟩ := hp.heap i _ k2; have hgj : ids.getD j 0 = i := by rw [List.getD_eq_getElem?_getD, k1]; rfl
    refine ⟨S, by simp [Ss0, k1, q1], ?_⟩; have hlo : (b.es.all fun e => e.all (lowN 2 h0.length)) = true := hb0 _ (List.mem_of_getElem? hb)
    have hφj : φ0 j = φ i := (hφ j hjl).trans (by rw [hgj])
    rcases q2 with ⟨e1, e2, e3⟩ | ⟨r, vs, T, e1, e2, e3, e4, e5, e6, e7, e8⟩
    · exact .inl ⟨hφj.trans e1, by simpa using e2, e3⟩
    · refine .inr ⟨r, vs, T, hφj.trans e1, e2, e3, fun e he => ?_, by simpa using e5, e6, ?_, e8⟩
      · have := e4 _ (List.mem_map.2 ⟨e, he, rfl⟩)
        simpa using this
      · have e7' : CR w (Own Ss) φ (b.es.flatten.map (renN ids 2)) vs T := by
          rw [List.map_flatten]; exact e7
        refine cr_ren (fun v x S k h => VR.ren 2 hφ k h) e7' ?_; rw [List.all_eq_true] at hlo ⊢; intro v hv; obtain ⟨e, he, hve⟩ := List.mem_flatten.1 hv; exact List.all_eq_true.1 (hlo e he) v hve
  have hp0 : HP φ0 Ss0 h0 w := ⟨fun j b hb => by
      obtain ⟨S, h1, h2⟩ := hBR j b hb
      exact ⟨S, h1, h2.tr hfz (Nat.le_refl _) (fun _ _ e => e) (fun _ _ => rfl)⟩, by simp [Ss0, hm], fun j hj => if_neg (Nat.not_lt.2 hj), hnd', fun b hb => hp.bound b (hmem' b hb)⟩
  have hcr0 : CR w (Own Ss0) φ0 args0 vs [] := (cr_ren (fun v x S k h => VR.ren 4 hφ k h) hcr hlow).tr hfz (Nat.le_refl _) (fun _ _ e => e) (fun _ _ => rfl)
  refine (hc.2 φ0 Ss0 w vs hp0 hcr0).mono fun e w' ⟨v, o, h', φ', Ss', e1, q, hp', hv, hkeep, hown, hfr⟩ => ?_; obtain ⟨g1, g2, g3, g4⟩ := hq _ _ q; have hSl : Ss'.length = h'.length := hp'.len
  let js := fids ids H.length (h'.length - ids.length)
  let φ3 : Refs := fun id => if id < H.length then φ id else φ' (id - H.length + ids.length)
  let Ss3 : List (List Nat) := merge Ss ids Ss'
  have hjs : ∀ j, j < h'.length → φ3 (js.getD j 0) = φ' j := fun j hj => by
    rcases fids_at (ids := ids) (n := H.length) (k := h'.length - ids.length) (j := j) (by omega) with ⟨h1, h2⟩ | ⟨h1, h2⟩
    · have hi := hlt _ (List.mem_of_getElem? h2)
      have h0j : j < h0.length := by omega
      obtain ⟨b, hb⟩ := hsome h0[j] (List.getElem_mem h0j); have hb' : h0[j]? = some (some b) := by rw [List.getElem?_eq_getElem h0j, hb]
      obtain ⟨S, _, hS⟩ := hBR j b hb'
      have : ∃ r, φ0 j = some r := by
        rcases hS with ⟨h, _⟩ | ⟨r, _, _, h, _⟩
        · exact ⟨_, h⟩
        · exact ⟨_, h⟩
      obtain ⟨r, hr⟩ := this; rw [hkeep j r hr, ← hr, hφ j h0j, List.getD_eq_getElem?_getD (l := ids), h2]
      show φ3 _ = _
      simp only [φ3]; rw [if_pos hi]; rfl
    · have h2' : js.getD j 0 = H.length + (j - ids.length) := h2
      show φ3 _ = _
      rw [h2']; simp only [φ3]; rw [if_neg (by omega)]
      congr 1
      omega
  have hold : ∀ id r, φ id = some r → φ3 id = some r := fun id r hr => by
    simp only [φ3]; split
    · exact hr
    · rw [hp.fresh id (by omega)] at hr; cases hr
  have hat : ∀ {id : Nat} {S : List Nat}, Ss3[id]? = some S → (id ∉ ids ∧ id < H.length ∧ Ss[id]? = some S) ∨ ∃ j, j < h'.length ∧ At ids H.length j id ∧ Ss'[j]? = some S := fun {id S} hS => by
    have hl := (List.getElem?_eq_some_iff.1 hS).1
    rw [merge_len, hp.len, hSl] at hl; rcases At_of g1 hl with ⟨h1, h2⟩ | ⟨j, h1, h2⟩
    · rw [merge_old h1 (by rw [hp.len]; exact h2)] at hS; exact .inl ⟨h1, h2, hS⟩
    · rw [merge_new hnd (by rw [hp.len]; exact hlt) (by rw [hSl]; exact g1) (by rw [hp.len]; exact h2) (by rw [hSl]; exact h1)] at hS; exact .inr ⟨j, h1, h2, hS⟩
  have hown3 : ∀ b, Own Ss3 b → Own Ss b ∨ w.heap.size ≤ b := fun b hb => by
    obtain ⟨S, hS, hbS⟩ := List.mem_flatten.1 hb; obtain ⟨id, hid⟩ := List.getElem?_of_mem hS; rcases hat hid with ⟨_, _, h3⟩ | ⟨j, _, _, h3⟩
    · exact .inl (List.mem_flatten.2 ⟨S, List.mem_of_getElem? h3, hbS⟩)
    · rcases hown b (List.mem_flatten.2 ⟨S, List.mem_of_getElem? h3, hbS⟩) with h | h
      · exact .inl (hmem' b h)
      · exact .inr h
  have hfr' : ∀ b, b < w.heap.size → b ∉ Ss0.flatten → w'.heap[b]? = w.heap[b]? := hfr.block
  have hfz3 : ∀ b, b < w.heap.size → ¬ Own Ss b → ¬ Own Ss3 b ∧ w'.heap[b]? = w.heap[b]? := fun b hb ho =>
    ⟨fun h => by rcases hown3 b h with h | h <;> first | exact ho h | omega, hfr' b hb (fun h => ho (hmem' b h))⟩
  have hdis' := List.pairwise_flatten.1 hp'.nodup
  -- blocks of the caller that the callee did not get
  have hcross : ∀ {id j : Nat} {S T : List Nat} {b : Nat}, id ∉ ids → Ss[id]? = some S → Ss'[j]? = some T → b ∈ S → b ∈ T → False := fun {id j S T b} h1 h2 h3 h4 h5 => by
    rcases hown b (List.mem_flatten.2 ⟨T, List.mem_of_getElem? h3, h5⟩) with h | h
    · obtain ⟨i, S', k1, k2, k3⟩ := hmem b h
      exact nodup_disj hp.nodup h2 k2 (fun e => h1 (e ▸ k1)) h4 k3
    · have := hp.bound b (List.mem_flatten.2 ⟨S, List.mem_of_getElem? h2, h4⟩); omega
  have hnd3 : Ss3.flatten.Nodup := by
    unfold List.Nodup; rw [List.pairwise_flatten]; refine ⟨fun S hS => ?_, ?_⟩
    · obtain ⟨id, hid⟩ := List.getElem?_of_mem hS
      rcases hat hid with ⟨_, _, h3⟩ | ⟨j, _, _, h3⟩
      · exact hdis.1 S (List.mem_of_getElem? h3)
      · exact hdis'.1 S (List.mem_of_getElem? h3)
    · rw [List.pairwise_iff_getElem]
      intro i i' hi hi' hii x hx y hy e; subst e; rcases hat (List.getElem?_eq_getElem hi) with ⟨a1, a2, a3⟩ | ⟨j, a1, a2, a3⟩ <;> rcases hat (List.getElem?_eq_getElem hi') with ⟨b1, b2, b3⟩ | ⟨j', b1, b2, b3⟩
      · exact nodup_disj hp.nodup a3 b3 (by omega) hx hy
      · exact hcross a1 a3 b3 hx hy
      · exact hcross b1 b3 a3 hy hx
      · refine nodup_disj hp'.nodup a3 b3 (fun e => ?_) hx hy
        subst e; rcases a2 with ⟨c1, c2⟩ | ⟨c1, c2⟩ <;> rcases b2 with ⟨d1, d2⟩ | ⟨d1, d2⟩
        · rw [c2] at d2; simp at d2; omega
        · omega
        · omega
        · omega
  refine ⟨v, _, _, φ3, Ss3, e1, ⟨o, h', q, rfl, rfl⟩, ⟨?_, ?_, ?_, hnd3, ?_⟩, VR.unren (n := h'.length) 4 hjs hv g3 g4, hold, hown3, ⟨hfr.os, hfr.tape, hfr.output, hfr.size, fun b hb ho => hfr' b hb (fun h => ho (hmem' b h))⟩⟩
  · intro id b hid
    have hl := (List.getElem?_eq_some_iff.1 hid).1
    rw [frameH, merge_len, List.length_map] at hl; rcases At_of g1 hl with ⟨h1, h2⟩ | ⟨j, h1, h2⟩
    · rw [frameH, merge_old h1 h2] at hid
      obtain ⟨S, k1, k2⟩ := hp.heap id b hid; refine ⟨S, by rw [← k1]; exact merge_old h1 (by rw [hp.len]; exact h2), k2.tr hfz3 hfr.size hold (fun x hx => ?_)⟩
      refine hfr' x (hp.bound x (List.mem_flatten.2 ⟨S, List.mem_of_getElem? k1, hx⟩)) (fun h => ?_); obtain ⟨i, S', p1, p2, p3⟩ := hmem x h; exact nodup_disj hp.nodup k1 p2 (fun e => h1 (e ▸ p1)) hx p3
    · rw [frameH, merge_new hnd hlt (by simpa using g1) h2 (by simpa using h1), List.getElem?_map] at hid
      cases hx : h'[j]? with
      | none => rw [hx] at hid; cases hid
      | some y =>
        rw [hx] at hid
        cases y with
        | none => simp [renB] at hid
        | some b' =>
          simp only [Option.map_some, renB, Option.some.injEq] at hid; subst hid; obtain ⟨S, k1, k2⟩ := hp'.heap j b' hx
          refine ⟨S, by rw [← k1]; exact merge_new hnd (by rw [hp.len]; exact hlt) (by rw [hSl]; exact g1) (by rw [hp.len]; exact h2) (by rw [hSl]; exact h1), ?_⟩
          have hz : (b'.es.all fun e => e.all fun v => lowN 2 h'.length v && nfz 2 v) = true := g2 _ (List.mem_of_getElem? hx)
          have hidj : φ3 id = φ' j := by
            rw [← hjs j h1]
            congr 1
            rcases fids_at (ids := ids) (n := H.length) (k := h'.length - ids.length) (j := j) (by omega) with ⟨c1, c2⟩ | ⟨c1, c2⟩ <;> rcases h2 with ⟨d1, d2⟩ | ⟨d1, d2⟩
            · rw [c2] at d2; exact (Option.some.inj d2).symm
            · omega
            · omega
            · exact d2.trans c2.symm
          rcases k2 with ⟨c1, c2, c3⟩ | ⟨r, us, T, c1, c2, c3, c4, c5, c6, c7, c8⟩
          · exact .inl ⟨hidj.trans c1, by simp [c2], c3⟩
          · refine .inr ⟨r, us, T, hidj.trans c1, c2, c3, fun e he => ?_, by simpa using c5, c6, ?_, c8⟩
            · obtain ⟨e', he', rfl⟩ := List.mem_map.1 he
              rw [List.length_map]; exact c4 e' he'
            · have hz2 : ∀ v ∈ b'.es.flatten, lowN 2 h'.length v = true ∧ nfz 2 v = true := fun v hv => by
                obtain ⟨e', he', hve⟩ := List.mem_flatten.1 hv; have := List.all_eq_true.1 (List.all_eq_true.1 hz e' he') v hve
                simpa using this
              have := cr_unren (own2 := Own Ss3) (φ' := φ3) (fun v x S k h h2 => VR.unren (n := h'.length) (ids := js) 2 hjs k h h2) c7 (List.all_eq_true.2 fun v hv => (hz2 v hv).1) (List.all_eq_true.2 fun v hv => (hz2 v hv).2)
              rw [List.map_flatten] at this; exact this
  · rw [frameH, merge_len, merge_len, hp.len, hSl, List.length_map]
  · intro id hid
    rw [frameH, merge_len, List.length_map] at hid; simp only [φ3]; rw [if_neg (by omega)]; exact hp'.fresh _ (by omega)
  · intro b hb
    rcases hown3 b hb with h | h
    · exact Nat.lt_of_lt_of_le (hp.bound b h) hfr.size
    · obtain ⟨S, hS, hbS⟩ := List.mem_flatten.1 hb
      obtain ⟨id, hid⟩ := List.getElem?_of_mem hS; rcases hat hid with ⟨_, _, h3⟩ | ⟨j, _, _, h3⟩
      · exact Nat.lt_of_lt_of_le (hp.bound b (List.mem_flatten.2 ⟨S, List.mem_of_getElem? h3, hbS⟩)) hfr.size
      · exact hp'.bound b (List.mem_flatten.2 ⟨S, List.mem_of_getElem? h3, hbS⟩)
end
end HK
namespace HK
open Go
section
variable {N : Sz} {st : St}
end
end HK
