import Derived.Test.YtdhoappjadnhcaaGreatG10
/-
  My own texts (road H): HCTL.
-/
set_option maxHeartbeats 8000000
set_option linter.unusedSimpArgs false
set_option linter.unusedVariables false
namespace HT
open Go Go.Proofs HK
def itemV (i : Item) : Bool :=
  if i.kind = 1 then valOk i.v
  else if i.kind = 2 then valOk i.v && (i.ok || decide (i.v = 0))
  else if i.kind = 8 then valOk i.v && decide (i.obj = 0)
  else if i.kind = 4 then decide (-1 ≤ i.v)
  else if i.kind = 7 then decide (0 ≤ i.v)
  else if i.kind = 10 then decide (1 ≤ i.v) && decide (i.v ≤ 5) && decide (i.obj = 0)
  else if i.kind = 9 then decide (i.v = 0) && decide (i.obj = 0)
  else if i.kind = 3 ∨ i.kind = 5 ∨ i.kind = 6 then decide (i.v = 0)
  else false
def itemOk (i : Item) : Bool := decide (0 ≤ i.obj) && !(i.ok && decide (i.kind ≠ 2)) && itemV i
theorem itemOk_no {kind obj v : Int} {ok : Bool} (hb1 : (((kind < 1 ∨ 10 < kind) ∨ obj < 0) ∨ 8 ≤ kind ∧ ¬obj = 0) ∨ ok = true ∧ ¬kind = 2) : itemOk { kind := kind, obj := obj, v := v, ok := ok } = false := by
  refine Bool.eq_false_iff.2 fun h9 => ?_; simp only [itemOk, itemV, Bool.and_eq_true, decide_eq_true_eq, Bool.not_eq_true'] at h9; obtain ⟨⟨h1, h2⟩, h3⟩ := h9
  have h2' : ¬ (ok = true ∧ kind ≠ 2) := by
    intro ⟨a, b⟩; simp [a, b] at h2
  have : ¬ ((kind < 1 ∨ 10 < kind) ∨ 8 ≤ kind ∧ ¬obj = 0) := by
    intro hh; repeat' split at h3
    all_goals (try simp at h3)
    all_goals omega
  grind
def ends (x : Item) : Bool := decide (x.kind = 9) || decide (x.kind = 10)
def itsOk : List Item → Bool
  | [] => true
  | x :: r => itemOk x && (!ends x || r.isEmpty) && itsOk r
theorem itsOk_step {l : List Item} {k : Nat} {x : Item} (h : l[k]? = some x) :
    itsOk (l.drop k) = (itemOk x && (!ends x || decide (l.length ≤ k + 1)) && itsOk (l.drop (k + 1))) := by
  obtain ⟨hlt, rfl⟩ := List.getElem?_eq_some_iff.1 h; rw [List.drop_eq_getElem_cons hlt, itsOk]
  congr 2
  rw [Bool.eq_iff_iff]; simp
def lastK (l : List Item) : Int := match l.getLast? with | some x => x.kind | none => 0
theorem lastK_step {l : List Item} {k : Nat} {x : Item} (h : l[k]? = some x) : lastK (l.take (k + 1)) = x.kind := by
  rw [List.take_add_one, h]; simp [lastK]
theorem lastK_last {l : List Item} (h : 0 < l.length) : ∃ y, l[l.length - 1]? = some y ∧ lastK l = y.kind := by
  refine ⟨l[l.length - 1]'(by omega), List.getElem?_eq_getElem (by omega), ?_⟩; unfold lastK; rw [List.getLast?_eq_getElem?, List.getElem?_eq_getElem (by omega)]
theorem lastK_nil : lastK [] = 0 := rfl
def traceOk (l : List Item) (s : Int) : Bool := itsOk l && (((lastK l == 9) == (s == 3)) && ((lastK l == 10) == (s == 4)))
def instrs (p : Prog) (n : Int) : Int := if 0 ≤ n then (match p.procs[n.toNat]? with | some x => (x.code.length : Int) | none => 0) else 0
def gorHead (p : Prog) (g : Gor) : Bool := decide (0 ≤ g.pc) && decide (g.pc < instrs p g.proc) && decide ((g.regs.length : Int) = 6) && decide (1 ≤ g.state) && decide (g.state ≤ 4)
def gorIn (p : Prog) (g : Gor) : Bool := gorHead p g && g.regs.all valOk && traceOk g.trace g.state
def gorOk (p : Prog) (g : Gor) : Bool := progOk p && gorIn p g
def atOk (p : Prog) (g : Gor) : Prop := 0 ≤ g.proc ∧ 0 ≤ g.pc ∧ ∃ x, p.procs[g.proc.toNat]? = some x ∧ g.pc < (x.code.length : Int)
def atI (p : Prog) (g : Gor) : Instr := ((p.procs[g.proc.toNat]?).bind fun x => x.code[g.pc.toNat]?).getD ⟨0, 0, 0, 0⟩
theorem head_at {p : Prog} {g : Gor} (h : gorHead p g = true) : atOk p g := by
  simp only [gorHead, instrs, Bool.and_eq_true, decide_eq_true_eq] at h; obtain ⟨⟨⟨⟨h1, h2⟩, _⟩, _⟩, _⟩ := h; split at h2
  · rename_i h0
    split at h2
    · rename_i x hx
      exact ⟨h0, h1, x, hx, by simpa using h2⟩
    · simp at h2; omega
  · simp at h2; omega
theorem gor_at {p : Prog} {g : Gor} (h : gorOk p g = true) : atOk p g := by
  simp only [gorOk, gorIn, Bool.and_eq_true] at h; exact head_at h.2.1.1
theorem itemOk_i (i : Item) : Fn Tryz.prog 201 [.agg i.cl] (.bool (itemOk i)) := by
  refine Fn.intro Tryz.func201 (by decide) rfl (rs := [.tmp 2]) rfl Tryz.ntmps201 (by simp) ?_; obtain ⟨kind, obj, v, ok⟩ := i; refine SW.rb ?_; refine SW.seqK fun K1 hK1 => ?_; refine SW.rb ?_; refine SW.cond _ rfl (by simp) ?_ ?_
  case' refine_1 =>
   intro hb1; try simp at hb1
   try subst hb1
   refine SW.rb ?_; refine SW.ret ?_; simp [Ex.then, Ex.ib]
   all_goals first
     | (simp [itemOk, itemV, *]; done)
     | (simp [itemOk, itemV]; omega)
     | (rw [Bool.eq_iff_iff]; simp [itemOk, itemV, *]; done)
     | (rw [Bool.eq_iff_iff]; simp [itemOk, itemV, *]; omega)
     | (simp only [itemOk, itemV] at *; grind)
     | exact itemOk_no hb1
     | fail
  intro hb1; try simp at hb1
  try subst hb1
  refine SW.skip ?_; refine hK1 _ ?_; refine SW.seqK fun K2 hK2 => ?_; refine SW.rb ?_; refine SW.block ?_; refine SW.rb ?_; refine SW.cond _ rfl (by simp) ?_ ?_
  case' refine_1 =>
   intro hb2; try simp at hb2
   try subst hb2
   refine SW.rg fun K hK => ?_; simp -implicitDefEqProofs; repeat (refine And.intro (by clear hK; first | omega | (intros; simp_all; done) | (intros; grind)) ?_)
   refine CallK.fz (val_i _) ?_; simp -implicitDefEqProofs; repeat (refine And.intro (by clear hK; first | omega | (intros; simp_all; done) | (intros; grind)) ?_)
   refine hK _ ?_; clear hK K; refine SW.ret ?_; simp [Ex.then, Ex.ib]
   all_goals first
     | (simp [itemOk, itemV, *]; done)
     | (simp [itemOk, itemV]; omega)
     | (rw [Bool.eq_iff_iff]; simp [itemOk, itemV, *]; done)
     | (rw [Bool.eq_iff_iff]; simp [itemOk, itemV, *]; omega)
     | (simp only [itemOk, itemV] at *; grind)
     | exact itemOk_no hb1
     | fail
  intro hb2; try simp at hb2
  try subst hb2
  refine SW.rb ?_; refine SW.cond _ rfl (by simp) ?_ ?_
  case' refine_1 =>
   intro hb3; try simp at hb3
   try subst hb3
   refine SW.rg fun K hK => ?_; simp -implicitDefEqProofs; repeat (refine And.intro (by clear hK; first | omega | (intros; simp_all; done) | (intros; grind)) ?_)
   refine CallK.fz (val_i _) ?_; simp -implicitDefEqProofs; repeat (refine And.intro (by clear hK; first | omega | (intros; simp_all; done) | (intros; grind)) ?_)
   refine hK _ ?_; clear hK K; refine SW.ret ?_; simp [Ex.then, Ex.ib]
   all_goals first
     | (simp [itemOk, itemV, *]; done)
     | (simp [itemOk, itemV]; omega)
     | (rw [Bool.eq_iff_iff]; simp [itemOk, itemV, *]; done)
     | (rw [Bool.eq_iff_iff]; simp [itemOk, itemV, *]; omega)
     | (simp only [itemOk, itemV] at *; grind)
     | exact itemOk_no hb1
     | fail
  intro hb3; try simp at hb3
  try subst hb3
  refine SW.rb ?_; refine SW.cond _ rfl (by simp) ?_ ?_
  case' refine_1 =>
   intro hb4; try simp at hb4
   try subst hb4
   refine SW.rg fun K hK => ?_; simp -implicitDefEqProofs; repeat (refine And.intro (by clear hK; first | omega | (intros; simp_all; done) | (intros; grind)) ?_)
   refine CallK.fz (val_i _) ?_; simp -implicitDefEqProofs; repeat (refine And.intro (by clear hK; first | omega | (intros; simp_all; done) | (intros; grind)) ?_)
   refine hK _ ?_; clear hK K; refine SW.ret ?_; simp [Ex.then, Ex.ib]
   all_goals first
     | (simp [itemOk, itemV, *]; done)
     | (simp [itemOk, itemV]; omega)
     | (rw [Bool.eq_iff_iff]; simp [itemOk, itemV, *]; done)
     | (rw [Bool.eq_iff_iff]; simp [itemOk, itemV, *]; omega)
     | (simp only [itemOk, itemV] at *; grind)
     | exact itemOk_no hb1
     | fail
  intro hb4; try simp at hb4
  try subst hb4
  refine SW.rb ?_; refine SW.cond _ rfl (by simp) ?_ ?_
  case' refine_1 =>
   intro hb5; try simp at hb5
   try subst hb5
   refine SW.rb ?_; refine SW.ret ?_; simp [Ex.then, Ex.ib]
   all_goals first
     | (simp [itemOk, itemV, *]; done)
     | (simp [itemOk, itemV]; omega)
     | (rw [Bool.eq_iff_iff]; simp [itemOk, itemV, *]; done)
     | (rw [Bool.eq_iff_iff]; simp [itemOk, itemV, *]; omega)
     | (simp only [itemOk, itemV] at *; grind)
     | exact itemOk_no hb1
     | fail
  intro hb5; try simp at hb5
  try subst hb5
  refine SW.rb ?_; refine SW.cond _ rfl (by simp) ?_ ?_
  case' refine_1 =>
   intro hb6; try simp at hb6
   try subst hb6
   refine SW.rb ?_; refine SW.ret ?_; simp [Ex.then, Ex.ib]
   all_goals first
     | (simp [itemOk, itemV, *]; done)
     | (simp [itemOk, itemV]; omega)
     | (rw [Bool.eq_iff_iff]; simp [itemOk, itemV, *]; done)
     | (rw [Bool.eq_iff_iff]; simp [itemOk, itemV, *]; omega)
     | (simp only [itemOk, itemV] at *; grind)
     | exact itemOk_no hb1
     | fail
  intro hb6; try simp at hb6
  try subst hb6
  refine SW.rb ?_; refine SW.cond _ rfl (by simp) ?_ ?_
  case' refine_1 =>
   intro hb7; try simp at hb7
   try subst hb7
   refine SW.rb ?_; refine SW.ret ?_; simp [Ex.then, Ex.ib]
   all_goals first
     | (simp [itemOk, itemV, *]; done)
     | (simp [itemOk, itemV]; omega)
     | (rw [Bool.eq_iff_iff]; simp [itemOk, itemV, *]; done)
     | (rw [Bool.eq_iff_iff]; simp [itemOk, itemV, *]; omega)
     | (simp only [itemOk, itemV] at *; grind)
     | exact itemOk_no hb1
     | fail
  intro hb7; try simp at hb7
  try subst hb7
  refine SW.rb ?_; refine SW.cond _ rfl (by simp) ?_ ?_
  case' refine_1 =>
   intro hb8; try simp at hb8
   try subst hb8
   refine SW.rb ?_; refine SW.ret ?_; simp [Ex.then, Ex.ib]
   all_goals first
     | (simp [itemOk, itemV, *]; done)
     | (simp [itemOk, itemV]; omega)
     | (rw [Bool.eq_iff_iff]; simp [itemOk, itemV, *]; done)
     | (rw [Bool.eq_iff_iff]; simp [itemOk, itemV, *]; omega)
     | (simp only [itemOk, itemV] at *; grind)
     | exact itemOk_no hb1
     | fail
  intro hb8; try simp at hb8
  try subst hb8
  refine SW.seqK fun K3 hK3 => ?_; refine SW.rb ?_; refine SW.cond _ rfl (by simp) ?_ ?_
  case' refine_2 =>
   intro hb9; try simp at hb9
   try subst hb9
   refine SW.rb ?_; refine SW.cond _ rfl (by simp) ?_ ?_
   case' refine_2 =>
    intro hb10; try simp at hb10
    try subst hb10
    refine SW.eb ?_
   rotate_right
   case' _ =>
    intro hb10; try simp at hb10
    try subst hb10
    refine SW.skip ?_
  rotate_right
  case' _ =>
   intro hb9; try simp at hb9
   try subst hb9
   refine SW.skip ?_
  all_goals (
   refine hK3 _ ?_; refine SW.cond _ rfl (by simp) ?_ ?_
   case' refine_1 =>
    intro hb11; try simp at hb11
    try subst hb11
    refine SW.rb ?_; refine SW.ret ?_; simp [Ex.then, Ex.ib]
    all_goals first
      | (simp [itemOk, itemV, *]; done)
      | (simp [itemOk, itemV]; omega)
      | (rw [Bool.eq_iff_iff]; simp [itemOk, itemV, *]; done)
      | (rw [Bool.eq_iff_iff]; simp [itemOk, itemV, *]; omega)
      | (simp only [itemOk, itemV] at *; grind)
      | exact itemOk_no hb1
      | fail
   intro hb11
   first
   | (exfalso; simp at hb11; done)
   | (exfalso; simp at hb11; omega)
   | (
    try simp at hb11
    try subst hb11
    refine SW.skip ?_; refine hK2 _ ?_; refine SW.rb ?_; refine SW.ret ?_; simp [Ex.then, Ex.ib]
    all_goals first
      | (simp [itemOk, itemV, *]; done)
      | (simp [itemOk, itemV]; omega)
      | (rw [Bool.eq_iff_iff]; simp [itemOk, itemV, *]; done)
      | (rw [Bool.eq_iff_iff]; simp [itemOk, itemV, *]; omega)
      | (simp only [itemOk, itemV] at *; grind)
      | exact itemOk_no hb1
      | fail))
theorem itemOk_s (i : Item) : Fn Tryz.prog 236 [.agg i.cl] (.bool (itemOk i)) := by
  refine Fn.intro Tryz.func236 (by decide) rfl (rs := [.tmp 2]) rfl Tryz.ntmps236 (by simp) ?_; obtain ⟨kind, obj, v, ok⟩ := i; refine SW.rb ?_; refine SW.seqK fun K1 hK1 => ?_; refine SW.rb ?_; refine SW.cond _ rfl (by simp) ?_ ?_
  case' refine_1 =>
   intro hb1; try simp at hb1
   try subst hb1
   refine SW.rb ?_; refine SW.ret ?_; simp [Ex.then, Ex.ib]
   all_goals first
     | (simp [itemOk, itemV, *]; done)
     | (simp [itemOk, itemV]; omega)
     | (rw [Bool.eq_iff_iff]; simp [itemOk, itemV, *]; done)
     | (rw [Bool.eq_iff_iff]; simp [itemOk, itemV, *]; omega)
     | (simp only [itemOk, itemV] at *; grind)
     | exact itemOk_no hb1
     | fail
  intro hb1; try simp at hb1
  try subst hb1
  refine SW.skip ?_; refine hK1 _ ?_; refine SW.seqK fun K2 hK2 => ?_; refine SW.rb ?_; refine SW.block ?_; refine SW.seqK fun K3 hK3 => ?_; refine SW.rb ?_; refine SW.cond _ rfl (by simp) ?_ ?_
  case' refine_2 =>
   intro hb2; try simp at hb2
   try subst hb2
   refine SW.eb ?_
  rotate_right
  case' _ =>
   intro hb2; try simp at hb2
   try subst hb2
   refine SW.skip ?_
  all_goals (
   refine hK3 _ ?_; refine SW.cond _ rfl (by simp) ?_ ?_
   case' refine_1 =>
    intro hb3; try simp at hb3
    try subst hb3
    refine SW.rg fun K hK => ?_; simp -implicitDefEqProofs; repeat (refine And.intro (by clear hK; first | omega | (intros; simp_all; done) | (intros; grind)) ?_)
    refine CallK.fz (val_s _) ?_; simp -implicitDefEqProofs; repeat (refine And.intro (by clear hK; first | omega | (intros; simp_all; done) | (intros; grind)) ?_)
    refine hK _ ?_; clear hK K; refine SW.ret ?_; simp [Ex.then, Ex.ib]
    all_goals first
      | (simp [itemOk, itemV, *]; done)
      | (simp [itemOk, itemV]; omega)
      | (rw [Bool.eq_iff_iff]; simp [itemOk, itemV, *]; done)
      | (rw [Bool.eq_iff_iff]; simp [itemOk, itemV, *]; omega)
      | (simp only [itemOk, itemV] at *; grind)
      | exact itemOk_no hb1
      | fail
   intro hb3
   first
   | (exfalso; simp at hb3; done)
   | (exfalso; simp at hb3; omega)
   | (
    try simp at hb3
    try subst hb3
    refine SW.rb ?_; refine SW.cond _ rfl (by simp) ?_ ?_
    case' refine_1 =>
     intro hb4; try simp at hb4
     try subst hb4
     refine SW.rg fun K hK => ?_; simp -implicitDefEqProofs; repeat (refine And.intro (by clear hK; first | omega | (intros; simp_all; done) | (intros; grind)) ?_)
     refine CallK.fz (val_s _) ?_; simp -implicitDefEqProofs; repeat (refine And.intro (by clear hK; first | omega | (intros; simp_all; done) | (intros; grind)) ?_)
     refine hK _ ?_; clear hK K; refine SW.ret ?_; simp [Ex.then, Ex.ib]
     all_goals first
       | (simp [itemOk, itemV, *]; done)
       | (simp [itemOk, itemV]; omega)
       | (rw [Bool.eq_iff_iff]; simp [itemOk, itemV, *]; done)
       | (rw [Bool.eq_iff_iff]; simp [itemOk, itemV, *]; omega)
       | (simp only [itemOk, itemV] at *; grind)
       | exact itemOk_no hb1
       | fail
    intro hb4; try simp at hb4
    try subst hb4
    refine SW.rb ?_; refine SW.cond _ rfl (by simp) ?_ ?_
    case' refine_1 =>
     intro hb5; try simp at hb5
     try subst hb5
     refine SW.rb ?_; refine SW.ret ?_; simp [Ex.then, Ex.ib]
     all_goals first
       | (simp [itemOk, itemV, *]; done)
       | (simp [itemOk, itemV]; omega)
       | (rw [Bool.eq_iff_iff]; simp [itemOk, itemV, *]; done)
       | (rw [Bool.eq_iff_iff]; simp [itemOk, itemV, *]; omega)
       | (simp only [itemOk, itemV] at *; grind)
       | exact itemOk_no hb1
       | fail
    intro hb5; try simp at hb5
    try subst hb5
    refine SW.rb ?_; refine SW.cond _ rfl (by simp) ?_ ?_
    case' refine_1 =>
     intro hb6; try simp at hb6
     try subst hb6
     refine SW.rb ?_; refine SW.ret ?_; simp [Ex.then, Ex.ib]
     all_goals first
       | (simp [itemOk, itemV, *]; done)
       | (simp [itemOk, itemV]; omega)
       | (rw [Bool.eq_iff_iff]; simp [itemOk, itemV, *]; done)
       | (rw [Bool.eq_iff_iff]; simp [itemOk, itemV, *]; omega)
       | (simp only [itemOk, itemV] at *; grind)
       | exact itemOk_no hb1
       | fail
    intro hb6; try simp at hb6
    try subst hb6
    refine SW.rb ?_; refine SW.cond _ rfl (by simp) ?_ ?_
    case' refine_1 =>
     intro hb7; try simp at hb7
     try subst hb7
     refine SW.rb ?_; refine SW.ret ?_; simp [Ex.then, Ex.ib]
     all_goals first
       | (simp [itemOk, itemV, *]; done)
       | (simp [itemOk, itemV]; omega)
       | (rw [Bool.eq_iff_iff]; simp [itemOk, itemV, *]; done)
       | (rw [Bool.eq_iff_iff]; simp [itemOk, itemV, *]; omega)
       | (simp only [itemOk, itemV] at *; grind)
       | exact itemOk_no hb1
       | fail
    intro hb7; try simp at hb7
    try subst hb7
    refine SW.skip ?_; refine hK2 _ ?_; refine SW.rb ?_; refine SW.ret ?_; simp [Ex.then, Ex.ib]
    all_goals first
      | (simp [itemOk, itemV, *]; done)
      | (simp [itemOk, itemV]; omega)
      | (rw [Bool.eq_iff_iff]; simp [itemOk, itemV, *]; done)
      | (rw [Bool.eq_iff_iff]; simp [itemOk, itemV, *]; omega)
      | (simp only [itemOk, itemV] at *; grind)
      | exact itemOk_no hb1
      | fail))
theorem pred_g (d : Int) : Fn Tryz.prog 200 [.int .i64 d] (.bool (!valOk d)) := by
  refine Fn.intro Tryz.func200 (by decide) rfl (rs := [.tmp 2]) rfl Tryz.ntmps200 (by simp) ?_; refine SW.ra ?_; refine SW.rg fun K hK => ?_; simp -implicitDefEqProofs; iterate 2 (try refine ⟨by omega, ?_⟩)
  refine CallK.fz (val_i _) ?_; simp -implicitDefEqProofs; repeat refine ⟨by omega, ?_⟩
  refine hK _ ?_; clear hK K; refine SW.ret ?_; simp [Ex.then, Ex.ib]
  all_goals simp
theorem indexG_ok (l : List Int) (hl : l.length ≤ 2 ^ 40) : Fn Tryz.prog 243 [.fz (IntS l), .fn (.func 200) [] []] (.int .i64 (idxV l)) := by
  refine Fn.intro Tryz.func243 (by decide) rfl (rs := [.tmp 4]) rfl Tryz.ntmps243 (by simp) ?_; refine SW.ra ?_; refine SW.seqK fun K1 hK1 => ?_; refine SW.ra ?_; refine SW.block ?_
  refine SW.loop (α := Nat) (fun k => ⟨[(8, .int .i64 k), (7, .int .i64 l.length), (0, .fz (IntS l)), (1, .fn (.func 200) [] [])], []⟩) (fun k => k ≤ l.length ∧ (l.take k).all valOk = true) (fun k => l.length - k) (0) ?_ ?_ (fun k hx => ?_)
  case' refine_1 =>
   simp
  case' refine_2 =>
   exact Wk.cut (by simp) (by simp [subE]) (by simp [cutH]) (by simp [lowE, lowN]) (by simp)
  case' refine_3 =>
   skip
   refine SW.ra ?_; refine SW.seqK fun K2 hK2 => ?_; refine SW.cond _ rfl (by simp) ?_ ?_
   case' refine_2 =>
    intro hb1; have hk : k = l.length := by simp at hb1; omega
    subst hk; have hid : idxV l = -1 := by rw [idxV, if_pos (all_take hx.2)]
    refine SW.exit ?_; simp only [Ex.then, Ex.ib]; try simp only [if_true, if_false, reduceIte]
    refine hK1 _ ?_; refine SW.ra ?_; refine SW.ret ?_; simp [Ex.then, Ex.ib]; rw [hid]
   rotate_right
   case' _ =>
    intro hb1; have hlt : k < l.length := by simp at hb1; omega
    obtain ⟨x, hxk⟩ : ∃ x, l[k]? = some x := ⟨_, List.getElem?_eq_getElem hlt⟩
    refine SW.skip ?_; refine hK2 _ ?_; refine SW.seqK fun K3 hK3 => ?_; refine SW.block ?_; refine SW.ra ?_; refine SW.rg fun K hK => ?_; simp -implicitDefEqProofs [hxk]; iterate 2 (try refine ⟨by omega, ?_⟩)
    refine CallK.fz (pred_g x) ?_; simp -implicitDefEqProofs [hxk]; repeat refine ⟨by omega, ?_⟩
    refine hK _ ?_; clear hK K; refine SW.cond _ rfl (by simp) ?_ ?_
    case' refine_2 =>
     intro hb2; have hsx : valOk x = true := by simpa using hb2
     have hnx := all_next hxk hx.2 hsx
     refine SW.skip ?_; refine hK3 _ ?_; refine SW.ea ?_; refine ⟨k + 1, ⟨by omega, hnx⟩, by omega, ?_⟩; exact Wk.cut (by simp) (by simp [subE, wrap1 k (by omega)]) (by simp [cutH]) (by simp [lowE, lowN]) (by simp)
    rotate_right
    case' _ =>
     intro hb2; have hsx : valOk x = false := by simpa using hb2
     have hid := idxV_at hx.2 hxk hsx
     refine SW.ra ?_; refine SW.ret ?_; simp [Ex.then, Ex.ib]; rw [hid]
theorem contG_ok (l : List Int) (hl : l.length ≤ 2 ^ 40) : Fn Tryz.prog 199 [.fz (IntS l), .fn (.func 200) [] []] (.bool (!l.all valOk)) := by
  refine Fn.intro Tryz.func199 (by decide) rfl (rs := [.tmp 4]) rfl Tryz.ntmps199 (by simp) ?_; refine SW.ra ?_; refine SW.rg fun K hK => ?_; simp -implicitDefEqProofs; iterate 2 (try refine ⟨by omega, ?_⟩)
  refine CallK.fzE (indexG_ok l hl) (by simp) ?_; simp -implicitDefEqProofs; repeat refine ⟨by omega, ?_⟩
  refine hK _ ?_; clear hK K; refine SW.ret ?_; simp [Ex.then, Ex.ib]
  all_goals simp [idxV_nn]
theorem instrs_i (p : Prog) (n : Int) (h : p.ok) : Fn Tryz.prog 198 [.agg p.fr, .int .i64 n] (.int .i64 (instrs p n)) := by
  refine Fn.intro Tryz.func198 (by decide) rfl (rs := [.tmp 4]) rfl Tryz.ntmps198 (by simp) ?_; have h3 := h.2.2.2.1
  refine SW.rb ?_; refine SW.seqK fun K1 hK1 => ?_; refine SW.rg fun K hK => ?_; simp -implicitDefEqProofs; repeat (refine And.intro (by clear hK; first | omega | (intros; simp_all; done) | (intros; grind)) ?_)
  refine CallK.fz (within_ok _ _ _) ?_; simp -implicitDefEqProofs; repeat (refine And.intro (by clear hK; first | omega | (intros; simp_all; done) | (intros; grind)) ?_)
  refine hK _ ?_; clear hK K; refine SW.cond _ rfl (by simp) ?_ ?_
  case' refine_1 =>
   intro hb1
   have hno : instrs p n = 0 := by
     unfold instrs; split
     · rw [List.getElem?_eq_none (by simp at hb1; omega)]
     · rfl
   refine SW.rb ?_; refine SW.ret ?_; simp [Ex.then, Ex.ib]
   first
     | (rw [hno]; done)
     | (simp [instrs, hA, hxk]; done)
     | fail
  intro hb1; have hA : 0 ≤ n := by simp at hb1; omega
  have hB : n < p.procs.length := by simp at hb1; omega
  obtain ⟨x, hxk⟩ : ∃ q, p.procs[n.toNat]? = some q := ⟨_, List.getElem?_eq_getElem (by omega)⟩
  have hxE : ∀ h, p.procs[n.toNat]'h = x := fun h => (List.getElem?_eq_some_iff.1 hxk).2
  refine SW.skip ?_; refine hK1 _ ?_; refine SW.rg fun K hK => ?_; simp -implicitDefEqProofs [hA, hB, hxk, hxE]; repeat (refine And.intro (by clear hK; first | omega | (intros; simp_all; done) | (intros; grind)) ?_)
  refine hK _ ?_; clear hK K; refine SW.ret ?_; simp [Ex.then, Ex.ib]
  first
    | (rw [hno]; done)
    | (simp [instrs, hA, hxk]; done)
    | fail
theorem instrs_s (p : Prog) (n : Int) (h : p.ok) : Fn Tryz.prog 186 [.agg p.fr, .int .i64 n] (.int .i64 (instrs p n)) := by
  refine Fn.intro Tryz.func186 (by decide) rfl (rs := [.tmp 4]) rfl Tryz.ntmps186 (by simp) ?_; have h3 := h.2.2.2.1
  refine SW.rb ?_; refine SW.seqK fun K1 hK1 => ?_; refine SW.rb ?_; refine SW.cond _ rfl (by simp) ?_ ?_
  case' refine_1 =>
   intro hb1
   have hno : instrs p n = 0 := by
     unfold instrs; split
     · rw [List.getElem?_eq_none (by simp at hb1; omega)]
     · rfl
   refine SW.rb ?_; refine SW.ret ?_; simp [Ex.then, Ex.ib]
   first
     | (rw [hno]; done)
     | (simp [instrs, hA, hxk]; done)
     | fail
  intro hb1; have hA : 0 ≤ n := by simp at hb1; omega
  have hB : n < p.procs.length := by simp at hb1; omega
  obtain ⟨x, hxk⟩ : ∃ q, p.procs[n.toNat]? = some q := ⟨_, List.getElem?_eq_getElem (by omega)⟩
  have hxE : ∀ h, p.procs[n.toNat]'h = x := fun h => (List.getElem?_eq_some_iff.1 hxk).2
  refine SW.skip ?_; refine hK1 _ ?_; refine SW.rg fun K hK => ?_; simp -implicitDefEqProofs [hA, hB, hxk, hxE]; repeat (refine And.intro (by clear hK; first | omega | (intros; simp_all; done) | (intros; grind)) ?_)
  refine hK _ ?_; clear hK K; refine SW.ret ?_; simp [Ex.then, Ex.ib]
  first
    | (rw [hno]; done)
    | (simp [instrs, hA, hxk]; done)
    | fail
theorem instr_i (p : Prog) (g : Gor) (ha : atOk p g) : Fn Tryz.prog 83 [.agg p.fr, .agg g.fr] (.agg (atI p g).cl) := by
  refine Fn.intro Tryz.func83 (by decide) rfl (rs := [.cell 4 124]) rfl Tryz.ntmps83 (by simp) ?_; obtain ⟨hA, hC, x, hxk, hD⟩ := ha; have hB : g.proc < p.procs.length := by have := (List.getElem?_eq_some_iff.1 hxk).1; omega
  have hxE : ∀ h, p.procs[g.proc.toNat]'h = x := fun h => (List.getElem?_eq_some_iff.1 hxk).2
  obtain ⟨i, hik⟩ : ∃ q, x.code[g.pc.toNat]? = some q := ⟨_, List.getElem?_eq_getElem (by omega)⟩
  have hiE : ∀ h, x.code[g.pc.toNat]'h = i := fun h => (List.getElem?_eq_some_iff.1 hik).2
  have hat : atI p g = i := by simp [atI, hxk, hik]
  refine SW.ra ?_; refine SW.drawK mixed [.q [(0, false), (1, false), (2, false), (3, false), (4, false), (5, false), (6, false), (7, false), (8, false), (9, false), (10, false)], .b 11] (by kernel_rfl) rfl fun K hK => ?_
  simp -implicitDefEqProofs [hA, hB, hC, hD, hxk, hxE, hik, hiE]; repeat refine ⟨by omega, ?_⟩
  refine hK _ ?_; clear hK K; refine SW.ret ?_; simp [Ex.then, Ex.ib]
  all_goals simp [hat]
theorem instr_s (p : Prog) (g : Gor) (ha : atOk p g) : Fn Tryz.prog 79 [.agg p.fr, .agg g.fr] (.agg (atI p g).cl) := by
  refine Fn.intro Tryz.func79 (by decide) rfl (rs := [.cell 4 124]) rfl Tryz.ntmps79 (by simp) ?_; obtain ⟨hA, hC, x, hxk, hD⟩ := ha; have hB : g.proc < p.procs.length := by have := (List.getElem?_eq_some_iff.1 hxk).1; omega
  have hxE : ∀ h, p.procs[g.proc.toNat]'h = x := fun h => (List.getElem?_eq_some_iff.1 hxk).2
  obtain ⟨i, hik⟩ : ∃ q, x.code[g.pc.toNat]? = some q := ⟨_, List.getElem?_eq_getElem (by omega)⟩
  have hiE : ∀ h, x.code[g.pc.toNat]'h = i := fun h => (List.getElem?_eq_some_iff.1 hik).2
  have hat : atI p g = i := by simp [atI, hxk, hik]
  refine SW.ra ?_; refine SW.drawK mixed [.q [(0, false), (1, false), (2, false), (3, false), (4, false), (5, false), (6, false), (7, false), (8, false), (9, false), (10, false)], .b 11] (by kernel_rfl) rfl fun K hK => ?_
  simp -implicitDefEqProofs [hA, hB, hC, hD, hxk, hxE, hik, hiE]; repeat refine ⟨by omega, ?_⟩
  refine hK _ ?_; clear hK K; refine SW.ret ?_; simp [Ex.then, Ex.ib]
  all_goals simp [hat]
end HT
